/-
  Package scope: Twice.
-/
import Derived.Test.YtnidmlngkpkmlaaSd
import Derived.Laws.StructEq
namespace Go.Proofs.YtnidmlngkpkmlaaS
set_option linter.unusedVariables false
set_option linter.unusedSimpArgs false
open Go.RowKit Go.Proofs.YtnidmlngkpkmlaaK Go.Proofs.YtnidmlngkpkmlaaT

set_option maxRecDepth 100000 in
theorem place_neq (p q : Nat × Nat) (w : World) : (binOp .neq 81 (placeV p) (placeV q)).run Try.prog w = .ok (.bool (decide (¬ p = q))) w := by
  obtain ⟨a, b⟩ := p
  obtain ⟨c, d⟩ := q
  simp [go_sem, binOp, Op.equal, Op.maxDepth]
  by_cases h1 : a = c
  · subst h1
    by_cases h2 : b = d
    · subst h2; simp
    · have : ¬ (b : Int) = d := by omega
      simp [h2, this]
  · have : ¬ (a : Int) = c := by omega
    simp [h1, this]
section
variable {c : Cx} {M : Md c} {d : Nat} {ty : TypeId} {pos : String} {af : Array Edge} {rest : List Oper} {E : Env} {D : List Deferred} {H : List Res} {x y : Operand} {t t' : TypeId}
theorem oBinV {op : BinOp} {u v r : Value} (hx : E.op x = some u) (hy : E.op y = some v) (hg : ∀ w, (eqGuard op t x y u v).run c.P w = .ok () w) (hr : ∀ w, (binOp op t u v).run c.P w = .ok r w) (h : O M rest ((d, r) :: E) D H) (hN : Nat.blt d c.N = true := by rfl) :
    O M (⟨some d, .binOp op t x y t', ty, pos, af, none⟩ :: rest) E D H :=
  oC _ rfl hN (fun a w ha hw => by simp only [execOp, ha.op hx, ha.op hy, Sem.run_bind, hg, Result.andThen_ok, hr, Sem.run_pure]) h
end
set_option maxRecDepth 100000 in
set_option maxHeartbeats 600000 in
theorem twice_any {B : Base} {w : World} (hS : St B [] w) (A : Option Addr) (cp : Nat) (l : List ApiObject) (hC : kApiObject.C B.e A l) (hl : Small l) :
    CallsIn Fence.wide 0 Try.prog 19 #[.slice A l.length cp] w
      (Ret B (fun _ : Unit => True) (fun _ => .tuple #[.agg #[.int .i64 (if (twiceS l).isSome then 12 else 0), .int .i64 ((twiceS l).getD (0, 0)).1, .int .i64 ((twiceS l).getD (0, 0)).2], .bool (twiceS l).isSome]) (fun _ => [])) := by
  (refine enterM Try.func19 rfl rfl hS ?_; simp only [List.zipIdx_cons, List.zipIdx_nil, List.map_cons, List.map_nil, Nat.reduceAdd, Nat.zero_add])
  refine wSeq ?_
  refine wRegion' ?_
  refine oAlloc rfl (by first | exact CellsOf.agg | exact CellsOf.one rfl) (fun b2 => ?_)
  refine oAlloc rfl (by first | exact CellsOf.agg | exact CellsOf.one rfl) (fun b3 => ?_)
  refine oNil ?_
  refine thn_n ?_
  refine wSeq ?_
  refine wRegion' ?_
  refine oMove rfl ?_
  (refine oCall rfl (by kernel_rfl) (fun w hS => frame hS (by repeat' (first | exact Split.nil | exact Pick.here | apply Split.cons | apply Pick.there)) (fun B' hB hS' => firsts_any hS' A cp l (Kd.C_grow hB hC) hl)) ?_; rintro m -)
  refine oAlloc rfl (by first | exact CellsOf.agg | exact CellsOf.one rfl) (fun b4 => ?_)
  refine oSt rfl rfl rfl rfl rfl (by repeat (first | exact Pick.here | apply Pick.there)) (by repeat (first | exact SetAt.here | apply SetAt.there)) ?_
  refine oNil ?_
  refine thn_n ?_
  refine wSeq ?_
  refine wSeq ?_
  refine wRegion' ?_
  refine oMove rfl ?_
  (refine oCall rfl (by kernel_rfl) (fun w hS => frame hS (by repeat' (first | exact Split.nil | exact Pick.here | apply Split.cons | apply Pick.there)) (fun B' hB hS' => all_any hS' A l.length cp)) ?_; rintro bl -)
  refine oNil ?_
  refine thn_n ?_
  refine wBlock ?_
  refine wRange rfl rfl (by kernel_rfl) (all1 l A cp bl hC hl) (by rintro _ h; obtain ⟨y, _, rfl⟩ := List.mem_map.1 h; rfl) rfl (ι := Nat) (κ := Nat × Nat) (fun j z => z = j ∧ NoneTo (twiceP l) (symsFrom 0 l) z) (fun z => [blk b2 31 [.int .i64 0, .int .i64 0, .int .i64 0], blk b3 4 [.bool false], blk b4 83 [.map (some m)], kmap Value.string placeV m (firstOf l)]) (fun x z => x = .ret ∧ twiceS l = some z) (fun x z => [blk b2 31 [.int .i64 12, .int .i64 (z.1 : Int), .int .i64 (z.2 : Int)], blk b3 4 [.bool true]]) 0 ⟨rfl, .zero _ _⟩ (Leads.has (by repeat' (first | exact Has.nil | exact Pick.here | apply Has.cons | apply Pick.there))) ?_ ?_ ?_
  ·
    intro lp0 B' R1 R2 j hj
    rintro i hB ⟨rfl, hn⟩
    have hj' : i < (symsFrom 0 l).length := by simpa using hj
    have hnext := hn.next hj'
    have hfound := hn.found hj'
    rw [List.getElem_map]
    generalize (symsFrom 0 l)[i] = y at *
    obtain ⟨yi, yk, x⟩ := y
    dsimp only [hand, symArgs]
    refine wSeq ?_
    refine wRegion' ?_
    refine oAlloc rfl (by first | exact CellsOf.agg | exact CellsOf.one rfl) (fun b5 => ?_)
    refine oStA rfl rfl rfl rfl (by repeat (first | exact Pick.here | apply Pick.there)) (by rfl) ?_
    refine oNil ?_
    refine thn_n ?_
    refine wRegion' ?_
    refine oAlloc rfl (by first | exact CellsOf.agg | exact CellsOf.one rfl) (fun b6 => ?_)
    refine oStA rfl rfl rfl rfl (by repeat (first | exact Pick.here | apply Pick.there)) (by rfl) ?_
    refine oNil ?_
    refine aq_n (by repeat (first | exact Pick.here | apply Pick.there)) ?_
    refine wBlock ?_
    refine wSeq ?_
    refine wRegion' ?_
    refine oLdA rfl (by repeat (first | exact Pick.here | apply Pick.there)) rfl (by repeat (first | exact SubL.done | apply SubL.take | apply SubL.drop)) ?_
    (refine oCall rfl (by kernel_rfl) (fun w hS => frame hS (by repeat' (first | exact Split.nil | exact Pick.here | apply Split.cons | apply Pick.there)) (fun B' hB hS' => global_any hS' x)) ?_; rintro ⟨⟩ -)
    refine oMove rfl ?_
    first | refine oSplit (t := 15) rfl (fun h15 => ?_) (fun h15 => ?_) | refine oSplitB (t := 15) rfl (fun h15 => ?_) (fun h15 => ?_)
    ·
      refine oWant rfl rfl ?_
      refine oLd rfl (by repeat (first | exact Pick.here | apply Pick.there)) rfl rfl ?_
      refine oWant rfl rfl ?_
      refine oFld (n := 0) (m := 0) rfl rfl rfl ?_
      refine oWant rfl rfl ?_
      refine oLd rfl (by repeat (first | exact Pick.here | apply Pick.there)) rfl rfl ?_
      refine oWant rfl rfl ?_
      refine oLook (ev := placeV) (m := firstOf l) keyE_str rfl rfl rfl (by repeat (first | exact Pick.here | apply Pick.there)) (r := placeV ((firstOf l x.fName).getD (0, 0))) (by cases firstOf l x.fName <;> rfl) ?_
      refine oWant rfl rfl ?_
      refine oLdA rfl (by repeat (first | exact Pick.here | apply Pick.there)) rfl (by repeat (first | exact SubL.done | apply SubL.take | apply SubL.drop)) ?_
      refine oWant rfl rfl ?_
      refine oBinV (r := .bool (decide (¬ (firstOf l x.fName).getD (0, 0) = (yi, yk)))) rfl rfl (fun w => run_eqGuard_agg w .neq _ _ _ _ _ Try.eqGuardType81) (fun w => place_neq _ (yi, yk) w) ?_
      refine oPickT rfl rfl ?_
      refine oNil ?_
      refine thn_n ?_
      first | refine wCond rfl (fun h22 => ?_) (fun h22 => ?_) | refine wCondB rfl (fun h22 => ?_) (fun h22 => ?_)
      ·
        refine wSeq ?_
        refine wRegion' ?_
        refine oFld (n := 0) (m := 0) rfl rfl rfl ?_
        refine oLd rfl (by repeat (first | exact Pick.here | apply Pick.there)) rfl rfl ?_
        refine oFld (n := 1) (m := 1) rfl rfl rfl ?_
        refine oLd rfl (by repeat (first | exact Pick.here | apply Pick.there)) rfl rfl ?_
        refine oBuild (Parts.cons rfl (Parts.cons rfl (Parts.cons rfl Parts.nil))) rfl rfl (Built.cons (off := 0) (s := 1) rfl (by first | exact CellsOf.agg | exact CellsOf.one rfl) rfl (by repeat (first | exact PutL.done | apply PutL.put | apply PutL.skip)) (Built.cons (off := 1) (s := 1) rfl (by first | exact CellsOf.agg | exact CellsOf.one rfl) rfl (by repeat (first | exact PutL.done | apply PutL.put | apply PutL.skip)) (Built.cons (off := 2) (s := 1) rfl (by first | exact CellsOf.agg | exact CellsOf.one rfl) rfl (by repeat (first | exact PutL.done | apply PutL.put | apply PutL.skip)) Built.nil))) ?_
        refine oStA rfl rfl rfl rfl (by repeat (first | exact Pick.here | apply Pick.there)) (by rfl) ?_
        refine oSt rfl rfl rfl rfl rfl (by repeat (first | exact Pick.here | apply Pick.there)) (by repeat (first | exact SetAt.here | apply SetAt.there)) ?_
        refine oNil ?_
        refine thn_n ?_
        refine wRet ?_
        refine blk_r ?_
        refine rq_r ?_
        exact ⟨(yi, yk), ⟨rfl, by unfold twiceS; rw [hfound (by simp_all [twiceP])]; rfl⟩, (Leads.has (by repeat' (first | exact Has.nil | exact Pick.here | apply Has.cons | apply Pick.there)))⟩
      ·
        refine wSkip ?_
        refine blk_n ?_
        refine rq_n ?_
        exact ⟨i + 1, ⟨rfl, hnext (by simp_all [twiceP])⟩, (Leads.has (by repeat' (first | exact Has.nil | exact Pick.here | apply Has.cons | apply Pick.there)))⟩
    ·
      refine oSkip rfl rfl rfl rfl ?_
      refine oSkip rfl rfl rfl rfl ?_
      refine oSkip rfl rfl rfl rfl ?_
      refine oSkip rfl rfl rfl rfl ?_
      refine oSkip rfl rfl rfl rfl ?_
      refine oSkip rfl rfl rfl rfl ?_
      refine oPickF rfl rfl ?_
      refine oNil ?_
      refine thn_n ?_
      refine wCondF rfl ?_
      refine wSkip ?_
      refine blk_n ?_
      refine rq_n ?_
      exact ⟨i + 1, ⟨rfl, hnext (by simp_all [twiceP])⟩, (Leads.has (by repeat' (first | exact Has.nil | exact Pick.here | apply Has.cons | apply Pick.there)))⟩
  ·
    rintro i Dm0 ⟨rfl, hn⟩
    rw [List.length_map] at hn
    have hno : twiceS l = none := by unfold twiceS; rw [hn.all]; rfl
    try dsimp only
    refine blk_n ?_
    refine thn_n ?_
    refine wSeq ?_
    refine wRegion' ?_
    refine oBuild Parts.nil rfl rfl Built.nil ?_
    refine oStA rfl rfl rfl rfl (by repeat (first | exact Pick.here | apply Pick.there)) (by rfl) ?_
    refine oSt rfl rfl rfl rfl rfl (by repeat (first | exact Pick.here | apply Pick.there)) (by repeat (first | exact SetAt.here | apply SetAt.there)) ?_
    refine oNil ?_
    refine thn_n ?_
    refine wRet ?_
    refine finM_r (Ds := [Dm0]) rfl (by repeat' (first | exact Split.nil | exact Pick.here | apply Split.cons | apply Pick.there)) (ResL.cons (by first | exact ResR.cell rfl (by repeat (first | exact Pick.here | apply Pick.there)) rfl | exact ResR.agg rfl (by repeat (first | exact Pick.here | apply Pick.there)) rfl rfl) (ResL.cons (by first | exact ResR.cell rfl (by repeat (first | exact Pick.here | apply Pick.there)) rfl | exact ResR.agg rfl (by repeat (first | exact Pick.here | apply Pick.there)) rfl rfl) ResL.nil)) ?_
    exact ⟨(), trivial, by rw [hno]; rfl, (Leads.has (by repeat' (first | exact Has.nil | exact Pick.here | apply Has.cons | apply Pick.there)))⟩
  ·
    rintro x ⟨y1, y2⟩ Dm0 ⟨rfl, hy⟩
    try dsimp only
    refine wRet ?_
    refine blk_r ?_
    refine thn_r ?_
    refine finM_r (Ds := [Dm0]) rfl (by repeat' (first | exact Split.nil | exact Pick.here | apply Split.cons | apply Pick.there)) (ResL.cons (by first | exact ResR.cell rfl (by repeat (first | exact Pick.here | apply Pick.there)) rfl | exact ResR.agg rfl (by repeat (first | exact Pick.here | apply Pick.there)) rfl rfl) (ResL.cons (by first | exact ResR.cell rfl (by repeat (first | exact Pick.here | apply Pick.there)) rfl | exact ResR.agg rfl (by repeat (first | exact Pick.here | apply Pick.there)) rfl rfl) ResL.nil)) ?_
    exact ⟨(), trivial, by rw [hy]; rfl, (Leads.has (by repeat' (first | exact Has.nil | exact Pick.here | apply Has.cons | apply Pick.there)))⟩
end Go.Proofs.YtnidmlngkpkmlaaS
