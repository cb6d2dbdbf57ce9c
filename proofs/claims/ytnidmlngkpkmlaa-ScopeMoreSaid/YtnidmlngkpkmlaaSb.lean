/-
  Package scope: firsts.
-/
import Derived.Test.YtnidmlngkpkmlaaSa
namespace Go.Proofs.YtnidmlngkpkmlaaS
set_option linter.unusedVariables false
set_option linter.unusedSimpArgs false
open Go.RowKit Go.Proofs.YtnidmlngkpkmlaaK Go.Proofs.YtnidmlngkpkmlaaT

/-- The first global of a name. -/
def fst_ (ys : List (Nat × Nat × ApiSymbol)) (n : ByteArray) : Option (Nat × Nat) := (ys.find? fun y => isGlobal y.2.2 && decide (y.2.2.fName = n)).map fun y => (y.1, y.2.1)
theorem fst_succ {ys : List (Nat × Nat × ApiSymbol)} {j : Nat} (h : j < ys.length) : fst_ (ys.take (j + 1)) = fun n => if n = ys[j].2.2.fName then (if (isGlobal ys[j].2.2 && !(fst_ (ys.take j) n).isSome) = true then some (ys[j].1, ys[j].2.1) else fst_ (ys.take j) n) else fst_ (ys.take j) n := by
  funext n
  rw [List.take_succ_eq_append_getElem h]
  unfold fst_
  rw [List.find?_append]
  cases hf : (ys.take j).find? (fun y => isGlobal y.2.2 && decide (y.2.2.fName = n)) with
  | some y => simp
  | none =>
    by_cases hn : n = ys[j].2.2.fName
    · subst hn
      cases hg : isGlobal ys[j].2.2 <;> simp [hg]
    · have : ¬ ys[j].2.2.fName = n := fun e => hn e.symm
      simp [this, hn]

set_option maxRecDepth 100000 in
set_option maxHeartbeats 600000 in
theorem firsts_any {B : Base} {w : World} (hS : St B [] w) (A : Option Addr) (cp : Nat) (l : List ApiObject) (hC : kApiObject.C B.e A l) (hl : Small l) :
    CallsIn Fence.wide 0 Try.prog 46 #[.slice A l.length cp] w (Ret B (fun _ : Nat => True) (fun m => .map (some m)) (fun m => [kmap Value.string placeV m (fst_ (symsFrom 0 l))])) := by
  (refine enterM Try.func46 rfl rfl hS ?_; simp only [List.zipIdx_cons, List.zipIdx_nil, List.map_cons, List.map_nil, Nat.reduceAdd, Nat.zero_add])
  refine wSeq ?_
  refine wRegion' ?_
  refine oAssign rfl ?_
  refine oNil ?_
  refine thn_n ?_
  refine wSeq ?_
  refine wRegion' ?_
  refine oMakeMap Value.string placeV (fun b8 => ?_)
  refine oAlloc rfl (by first | exact CellsOf.agg | exact CellsOf.one rfl) (fun b3 => ?_)
  refine oSt rfl rfl rfl rfl rfl (by repeat (first | exact Pick.here | apply Pick.there)) (by repeat (first | exact SetAt.here | apply SetAt.there)) ?_
  refine oNil ?_
  refine thn_n ?_
  refine wSeq ?_
  refine wSeq ?_
  refine wRegion' ?_
  refine oMove rfl ?_
  (refine oCall rfl (by kernel_rfl) (fun w hS => frame hS (by repeat' (first | exact Split.nil | exact Pick.here | apply Split.cons | apply Pick.there)) (fun B' hB hS' => all_any hS' A l.length cp)) ?_; rintro bl -)
  refine oNil ?_
  refine thn_n ?_
  refine wBlock ?_
  refine wRange rfl rfl (by kernel_rfl) (all1 l A cp bl hC hl) (by rintro _ h; obtain ⟨y, _, rfl⟩ := List.mem_map.1 h; rfl) rfl (ι := Nat) (κ := Unit) (fun j z => z = j) (fun z => [blk b3 83 [.map (some b8)], kmap Value.string placeV b8 (fst_ ((symsFrom 0 l).take z))]) (fun x z => False) (fun x z => []) 0 rfl (Leads.has (by repeat' (first | exact Has.nil | exact Pick.here | apply Has.cons | apply Pick.there))) ?_ ?_ ?_
  ·
    intro lp0 B' R1 R2 j hj
    rintro i hB rfl
    have hj' : i < (symsFrom 0 l).length := by simpa using hj
    have hst := fst_succ hj'
    rw [List.getElem_map]
    generalize (symsFrom 0 l)[i] = y at *
    obtain ⟨yi, yk, x⟩ := y
    dsimp only [hand, symArgs]
    refine wSeq ?_
    refine wRegion' ?_
    refine oAlloc rfl (by first | exact CellsOf.agg | exact CellsOf.one rfl) (fun b4 => ?_)
    refine oStA rfl rfl rfl rfl (by repeat (first | exact Pick.here | apply Pick.there)) (by rfl) ?_
    refine oNil ?_
    refine thn_n ?_
    refine wRegion' ?_
    refine oAlloc rfl (by first | exact CellsOf.agg | exact CellsOf.one rfl) (fun b5 => ?_)
    refine oStA rfl rfl rfl rfl (by repeat (first | exact Pick.here | apply Pick.there)) (by rfl) ?_
    refine oNil ?_
    refine aq_n (by repeat (first | exact Pick.here | apply Pick.there)) ?_
    refine wBlock ?_
    refine wSeq ?_
    refine wRegion' ?_
    refine oLd rfl (by repeat (first | exact Pick.here | apply Pick.there)) rfl rfl ?_
    refine oFld (n := 0) (m := 0) rfl rfl rfl ?_
    refine oLd rfl (by repeat (first | exact Pick.here | apply Pick.there)) rfl rfl ?_
    refine oLookOk (ev := placeV) (m := fst_ ((symsFrom 0 l).take i)) keyE_str rfl rfl rfl (by repeat (first | exact Pick.here | apply Pick.there)) (r := placeV ((fst_ ((symsFrom 0 l).take i) x.fName).getD (0, 0))) (by cases fst_ ((symsFrom 0 l).take i) x.fName <;> rfl) ?_
    refine oMove rfl ?_
    refine oExt rfl (by repeat (first | exact GetAt.here | apply GetAt.there)) ?_
    refine oExt rfl (by repeat (first | exact GetAt.here | apply GetAt.there)) ?_
    refine oAlloc rfl (by first | exact CellsOf.agg | exact CellsOf.one rfl) (fun b6 => ?_)
    refine oStA rfl rfl rfl rfl (by repeat (first | exact Pick.here | apply Pick.there)) (by rfl) ?_
    refine oAssign rfl ?_
    refine oNil ?_
    refine thn_n ?_
    refine wSeq ?_
    refine wRegion' ?_
    refine oLdA rfl (by repeat (first | exact Pick.here | apply Pick.there)) rfl (by repeat (first | exact SubL.done | apply SubL.take | apply SubL.drop)) ?_
    (refine oCall rfl (by kernel_rfl) (fun w hS => frame hS (by repeat' (first | exact Split.nil | exact Pick.here | apply Split.cons | apply Pick.there)) (fun B' hB hS' => global_any hS' x)) ?_; rintro ⟨⟩ -)
    refine oMove rfl ?_
    first | refine oSplit (t := 22) rfl (fun h22 => ?_) (fun h22 => ?_) | refine oSplitB (t := 22) rfl (fun h22 => ?_) (fun h22 => ?_)
    ·
      refine oWant rfl rfl ?_
      refine oMove rfl ?_
      refine oWant rfl rfl ?_
      first | refine oNot rfl ?_ | refine oNotB rfl ?_
      refine oPickT rfl rfl ?_
      refine oNil ?_
      refine thn_n ?_
      first | refine wCond rfl (fun h25 => ?_) (fun h25 => ?_) | refine wCondB rfl (fun h25 => ?_) (fun h25 => ?_)
      ·
        refine wRegion' ?_
        refine oLd rfl (by repeat (first | exact Pick.here | apply Pick.there)) rfl rfl ?_
        refine oFld (n := 0) (m := 0) rfl rfl rfl ?_
        refine oLd rfl (by repeat (first | exact Pick.here | apply Pick.there)) rfl rfl ?_
        refine oLdA rfl (by repeat (first | exact Pick.here | apply Pick.there)) rfl (by repeat (first | exact SubL.done | apply SubL.take | apply SubL.drop)) ?_
        refine oMapUpd (ev := placeV) (u := (yi, yk)) keyE_str rfl rfl rfl rfl (by repeat (first | exact Pick.here | apply Pick.there)) ?_
        refine oNil ?_
        refine blk_n ?_
        refine rq_n ?_
        have e0 : fst_ ((symsFrom 0 l).take (i + 1)) = fun k' => if k' = x.fName then some (yi, yk) else fst_ ((symsFrom 0 l).take i) k' := by
          rw [hst]; funext n; by_cases hn : n = x.fName
          · subst hn; simp_all
          · simp [hn]
        exact ⟨i + 1, rfl, by rw [e0]; exact (Leads.has (by repeat' (first | exact Has.nil | exact Pick.here | apply Has.cons | apply Pick.there)))⟩
      ·
        refine wSkip ?_
        refine blk_n ?_
        refine rq_n ?_
        have e0 : fst_ ((symsFrom 0 l).take (i + 1)) = fst_ ((symsFrom 0 l).take i) := by
          rw [hst]; funext n; by_cases hn : n = x.fName
          · subst hn; simp_all
          · simp [hn]
        exact ⟨i + 1, rfl, by rw [e0]; exact (Leads.has (by repeat' (first | exact Has.nil | exact Pick.here | apply Has.cons | apply Pick.there)))⟩
    ·
      refine oSkip rfl rfl rfl rfl ?_
      refine oSkip rfl rfl rfl rfl ?_
      refine oPickF rfl rfl ?_
      refine oNil ?_
      refine thn_n ?_
      refine wCondF rfl ?_
      refine wSkip ?_
      refine blk_n ?_
      refine rq_n ?_
      have e0 : fst_ ((symsFrom 0 l).take (i + 1)) = fst_ ((symsFrom 0 l).take i) := by
        rw [hst]; funext n; by_cases hn : n = x.fName
        · subst hn; simp_all
        · simp [hn]
      exact ⟨i + 1, rfl, by rw [e0]; exact (Leads.has (by repeat' (first | exact Has.nil | exact Pick.here | apply Has.cons | apply Pick.there)))⟩
  ·
    rintro i Dm0 rfl
    try dsimp only
    refine blk_n ?_
    refine thn_n ?_
    refine wSeq ?_
    refine wRegion' ?_
    refine oLd rfl (by repeat (first | exact Pick.here | apply Pick.there)) rfl rfl ?_
    refine oAssign rfl ?_
    refine oNil ?_
    refine thn_n ?_
    refine wRet ?_
    refine finM_r (Ds := [Dm0]) rfl (by repeat' (first | exact Split.nil | exact Pick.here | apply Split.cons | apply Pick.there)) (ResL.cons (ResR.tmp rfl) ResL.nil) ?_
    exact ⟨b8, trivial, rfl, by simp only [List.length_map, List.take_length]; exact (Leads.has (by repeat' (first | exact Has.nil | exact Pick.here | apply Has.cons | apply Pick.there)))⟩
  ·
    rintro _ _ _ h; exact h.elim
end Go.Proofs.YtnidmlngkpkmlaaS
