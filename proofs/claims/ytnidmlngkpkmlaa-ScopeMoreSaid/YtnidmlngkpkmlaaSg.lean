/-
  Package scope: Bound, Check.
-/
import Derived.Test.YtnidmlngkpkmlaaSe
import Derived.Test.YtnidmlngkpkmlaaSf
namespace Go.Proofs.YtnidmlngkpkmlaaS
set_option linter.unusedVariables false
set_option linter.unusedSimpArgs false
open Go.RowKit Go.Proofs.YtnidmlngkpkmlaaK Go.Proofs.YtnidmlngkpkmlaaT

set_option maxRecDepth 100000 in
set_option maxHeartbeats 600000 in
theorem boundx_any {B : Base} {w : World} (hS : St B [] w) (A : Option Addr) (cp : Nat) (l : List ApiObject) (i k : Int) (hC : kApiObject.C B.e A l) (hl : Small l) :
    CallsIn Fence.wide 0 Try.prog 17 #[.slice A l.length cp, .int .i64 i, .int .i64 k] w
      (Ret B (fun _ : Unit => True) (fun _ => .tuple #[.int .i64 (boundS l i k).1, .int .i64 (boundS l i k).2.1, .int .i64 (boundS l i k).2.2]) (fun _ => [])) := by
  (refine enter Try.func17 rfl rfl hS ?_; simp only [List.zipIdx_cons, List.zipIdx_nil, List.map_cons, List.map_nil, Nat.reduceAdd, Nat.zero_add])
  refine wSeq ?_
  refine wRegion' ?_
  refine oAssign rfl ?_
  refine oAssign rfl ?_
  refine oAssign rfl ?_
  refine oNil ?_
  refine thn_n ?_
  refine wSeq ?_
  refine wRegion' ?_
  refine oMove rfl ?_
  refine oMove rfl ?_
  (refine oCall rfl (by kernel_rfl) (fun w hS => frame hS (by repeat' (first | exact Split.nil | exact Pick.here | apply Split.cons | apply Pick.there)) (fun B' hB hS' => firsts_any hS' A cp l (Kd.C_grow hB hC) hl)) ?_; rintro m -)
  refine oMove rfl ?_
  refine oMove rfl ?_
  (refine oCall rfl (by kernel_rfl) (fun w hS => frame hS (by repeat' (first | exact Split.nil | exact Pick.here | apply Split.cons | apply Pick.there)) (fun B' hB hS' => bound_any A cp m l i k hS' (Kd.C_grow hB hC) hl)) ?_; rintro ⟨⟩ -)
  refine oMove rfl ?_
  refine oExt rfl (by repeat (first | exact GetAt.here | apply GetAt.there)) ?_
  refine oExt rfl (by repeat (first | exact GetAt.here | apply GetAt.there)) ?_
  refine oAlloc rfl (by first | exact CellsOf.agg | exact CellsOf.one rfl) (fun b9 => ?_)
  refine oStA rfl rfl rfl rfl (by repeat (first | exact Pick.here | apply Pick.there)) (by rfl) ?_
  refine oAssign rfl ?_
  refine oNil ?_
  refine thn_n ?_
  refine wSeq ?_
  refine wDraw2 rfl rfl [4] [0, 1, 2, 3, 5, 6] 7 (by kernel_rfl) rfl rfl rfl (fun w0 => ?_)
  refine oFld (n := 0) (m := 0) rfl rfl rfl ?_
  refine oLd rfl (by repeat (first | exact Pick.here | apply Pick.there)) rfl rfl ?_
  refine oFld (n := 1) (m := 1) rfl rfl rfl ?_
  refine oLd rfl (by repeat (first | exact Pick.here | apply Pick.there)) rfl rfl ?_
  refine oAssign rfl ?_
  refine oAssign rfl ?_
  refine oHead ?_
  refine oAssign rfl ?_
  refine oNilT ?_
  refine thn_n ?_
  refine wRet ?_
  refine fin_r ?_
  refine ⟨rfl, _, (ResL.cons (ResR.tmp rfl) (ResL.cons (ResR.tmp rfl) (ResL.cons (ResR.tmp rfl) ResL.nil))), ?_⟩
  exact ⟨(), trivial, rfl, (Leads.has (by repeat' (first | exact Has.nil | exact Pick.here | apply Has.cons | apply Pick.there)))⟩
theorem check_many {l : List ApiObject} (h : l.length = 0 ∨ 6 < l.length) : checkS l = (19, -1, -1) := by unfold checkS; rw [if_pos h]
theorem check_twice {l : List ApiObject} (h0 : ¬ (l.length : Int) = 0) (h1 : ¬ (l.length : Int) > 6) (h : (twiceS l).isSome = true) : checkS l = ((if (twiceS l).isSome then 12 else 0), (((twiceS l).getD (0, 0)).1 : Int), (((twiceS l).getD (0, 0)).2 : Int)) := by
  obtain ⟨p, hp⟩ := Option.isSome_iff_exists.1 h
  unfold checkS; rw [if_neg (by omega), hp]; rfl
theorem check_none {l : List ApiObject} (h0 : ¬ (l.length : Int) = 0) (h1 : ¬ (l.length : Int) > 6) (h : (twiceS l).isSome = false) (h2 : (symsFrom 0 l).find? (unboundP l) = none) : checkS l = (0, 0, 0) := by
  have ht : twiceS l = none := by simpa using h
  unfold checkS; rw [if_neg (by omega), ht]; dsimp only; rw [h2]
theorem check_some {l : List ApiObject} {y1 y2 : Nat} {x : ApiSymbol} (h0 : ¬ (l.length : Int) = 0) (h1 : ¬ (l.length : Int) > 6) (h : (twiceS l).isSome = false) (h2 : (symsFrom 0 l).find? (unboundP l) = some (y1, y2, x)) : checkS l = ((boundS l y1 y2).2.2, (y1 : Int), (y2 : Int)) := by
  have ht : twiceS l = none := by simpa using h
  unfold checkS; rw [if_neg (by omega), ht]; dsimp only; rw [h2]
abbrev rejV (r : Int × Int × Int) : Value := .agg #[.int .i64 r.1, .int .i64 r.2.1, .int .i64 r.2.2]
set_option maxRecDepth 100000 in
set_option maxHeartbeats 600000 in
theorem check_any {B : Base} {w : World} (hS : St B [] w) (A : Option Addr) (cp : Nat) (l : List ApiObject) (hC : kApiObject.C B.e A l) (hl : Small l) :
    CallsIn Fence.wide 0 Try.prog 21 #[.slice A l.length cp] w (Ret B (fun _ : Unit => True) (fun _ => rejV (checkS l)) (fun _ => [])) := by
  have hl1 := hl.1
  (refine enterM Try.func21 rfl rfl hS ?_; simp only [List.zipIdx_cons, List.zipIdx_nil, List.map_cons, List.map_nil, Nat.reduceAdd, Nat.zero_add])
  refine wSeq ?_
  refine wRegion' ?_
  refine oBox rfl (by first | exact CellsOf.agg | exact CellsOf.one rfl) (fun b1 => ?_)
  refine oAlloc rfl (by first | exact CellsOf.agg | exact CellsOf.one rfl) (fun b2 => ?_)
  refine oNil ?_
  refine thn_n ?_
  refine wSeq ?_
  refine wSeq ?_
  refine wRegion' ?_
  refine oLd rfl (by repeat (first | exact Pick.here | apply Pick.there)) rfl rfl ?_
  refine oLenS rfl rfl ?_
  refine oEql rfl rfl ?_
  refine oMove rfl ?_
  first | refine oSplit (t := 12) rfl (fun h12 => ?_) (fun h12 => ?_) | refine oSplitB (t := 12) rfl (fun h12 => ?_) (fun h12 => ?_)
  ·
    refine oSkip rfl rfl rfl rfl ?_
    refine oSkip rfl rfl rfl rfl ?_
    refine oSkip rfl rfl rfl rfl ?_
    refine oPickT rfl rfl ?_
    refine oNil ?_
    refine thn_n ?_
    refine wCondT rfl ?_
    refine wSeq ?_
    refine wRegion' ?_
    refine oBuild (Parts.cons rfl (Parts.cons rfl (Parts.cons rfl Parts.nil))) rfl rfl (Built.cons (off := 0) (s := 1) rfl (by first | exact CellsOf.agg | exact CellsOf.one rfl) rfl (by repeat (first | exact PutL.done | apply PutL.put | apply PutL.skip)) (Built.cons (off := 1) (s := 1) rfl (by first | exact CellsOf.agg | exact CellsOf.one rfl) rfl (by repeat (first | exact PutL.done | apply PutL.put | apply PutL.skip)) (Built.cons (off := 2) (s := 1) rfl (by first | exact CellsOf.agg | exact CellsOf.one rfl) rfl (by repeat (first | exact PutL.done | apply PutL.put | apply PutL.skip)) Built.nil))) ?_
    refine oStA rfl rfl rfl rfl (by repeat (first | exact Pick.here | apply Pick.there)) (by rfl) ?_
    refine oNil ?_
    refine thn_n ?_
    refine wRet ?_
    refine thn_r ?_
    refine finM_r (Ds := []) rfl (by repeat' (first | exact Split.nil | exact Pick.here | apply Split.cons | apply Pick.there)) (ResL.cons (by first | exact ResR.cell rfl (by repeat (first | exact Pick.here | apply Pick.there)) rfl | exact ResR.agg rfl (by repeat (first | exact Pick.here | apply Pick.there)) rfl rfl) ResL.nil) ?_
    exact ⟨(), trivial, by rw [check_many (.inl (by omega))]; rfl, (Leads.has (by repeat' (first | exact Has.nil | exact Pick.here | apply Has.cons | apply Pick.there)))⟩
  ·
    refine oWant rfl rfl ?_
    refine oLd rfl (by repeat (first | exact Pick.here | apply Pick.there)) rfl rfl ?_
    refine oWant rfl rfl ?_
    refine oLenS rfl rfl ?_
    refine oWant rfl rfl ?_
    refine oGtr rfl rfl ?_
    refine oPickF rfl rfl ?_
    refine oNil ?_
    refine thn_n ?_
    first | refine wCond rfl (fun h16 => ?_) (fun h16 => ?_) | refine wCondB rfl (fun h16 => ?_) (fun h16 => ?_)
    ·
      refine wSeq ?_
      refine wRegion' ?_
      refine oBuild (Parts.cons rfl (Parts.cons rfl (Parts.cons rfl Parts.nil))) rfl rfl (Built.cons (off := 0) (s := 1) rfl (by first | exact CellsOf.agg | exact CellsOf.one rfl) rfl (by repeat (first | exact PutL.done | apply PutL.put | apply PutL.skip)) (Built.cons (off := 1) (s := 1) rfl (by first | exact CellsOf.agg | exact CellsOf.one rfl) rfl (by repeat (first | exact PutL.done | apply PutL.put | apply PutL.skip)) (Built.cons (off := 2) (s := 1) rfl (by first | exact CellsOf.agg | exact CellsOf.one rfl) rfl (by repeat (first | exact PutL.done | apply PutL.put | apply PutL.skip)) Built.nil))) ?_
      refine oStA rfl rfl rfl rfl (by repeat (first | exact Pick.here | apply Pick.there)) (by rfl) ?_
      refine oNil ?_
      refine thn_n ?_
      refine wRet ?_
      refine thn_r ?_
      refine finM_r (Ds := []) rfl (by repeat' (first | exact Split.nil | exact Pick.here | apply Split.cons | apply Pick.there)) (ResL.cons (by first | exact ResR.cell rfl (by repeat (first | exact Pick.here | apply Pick.there)) rfl | exact ResR.agg rfl (by repeat (first | exact Pick.here | apply Pick.there)) rfl rfl) ResL.nil) ?_
      exact ⟨(), trivial, by rw [check_many (.inr (by omega))]; rfl, (Leads.has (by repeat' (first | exact Has.nil | exact Pick.here | apply Has.cons | apply Pick.there)))⟩
    ·
      refine wSkip ?_
      refine thn_n ?_
      refine wSeq ?_
      refine wSeq ?_
      refine wRegion' ?_
      refine oLd rfl (by repeat (first | exact Pick.here | apply Pick.there)) rfl rfl ?_
      (refine oCall rfl (by kernel_rfl) (fun w hS => frame hS (by repeat' (first | exact Split.nil | exact Pick.here | apply Split.cons | apply Pick.there)) (fun B' hB hS' => twice_any hS' A cp l (Kd.C_grow hB hC) hl)) ?_; rintro ⟨⟩ -)
      refine oMove rfl ?_
      refine oExt rfl (by repeat (first | exact GetAt.here | apply GetAt.there)) ?_
      refine oExt rfl (by repeat (first | exact GetAt.here | apply GetAt.there)) ?_
      refine oAlloc rfl (by first | exact CellsOf.agg | exact CellsOf.one rfl) (fun b3 => ?_)
      refine oStA rfl rfl rfl rfl (by repeat (first | exact Pick.here | apply Pick.there)) (by rfl) ?_
      refine oAssign rfl ?_
      refine oNil ?_
      refine thn_n ?_
      refine wSeq ?_
      refine wRegion' ?_
      refine oMove rfl ?_
      refine oNil ?_
      refine thn_n ?_
      first | refine wCond rfl (fun h23 => ?_) (fun h23 => ?_) | refine wCondB rfl (fun h23 => ?_) (fun h23 => ?_)
      ·
        refine wSeq ?_
        refine wRegion' ?_
        refine oLdA rfl (by repeat (first | exact Pick.here | apply Pick.there)) rfl (by repeat (first | exact SubL.done | apply SubL.take | apply SubL.drop)) ?_
        refine oStA rfl rfl rfl rfl (by repeat (first | exact Pick.here | apply Pick.there)) (by rfl) ?_
        refine oNil ?_
        refine thn_n ?_
        refine wRet ?_
        refine thn_r ?_
        refine finM_r (Ds := []) rfl (by repeat' (first | exact Split.nil | exact Pick.here | apply Split.cons | apply Pick.there)) (ResL.cons (by first | exact ResR.cell rfl (by repeat (first | exact Pick.here | apply Pick.there)) rfl | exact ResR.agg rfl (by repeat (first | exact Pick.here | apply Pick.there)) rfl rfl) ResL.nil) ?_
        exact ⟨(), trivial, by rw [check_twice h12 h16 h23]; rfl, (Leads.has (by repeat' (first | exact Has.nil | exact Pick.here | apply Has.cons | apply Pick.there)))⟩
      ·
        refine wSkip ?_
        refine thn_n ?_
        refine wSeq ?_
        refine wRegion' ?_
        refine oLd rfl (by repeat (first | exact Pick.here | apply Pick.there)) rfl rfl ?_
        (refine oCall rfl (by kernel_rfl) (fun w hS => frame hS (by repeat' (first | exact Split.nil | exact Pick.here | apply Split.cons | apply Pick.there)) (fun B' hB hS' => firsts_any hS' A cp l (Kd.C_grow hB hC) hl)) ?_; rintro m -)
        refine oAlloc rfl (by first | exact CellsOf.agg | exact CellsOf.one rfl) (fun b5 => ?_)
        refine oSt rfl rfl rfl rfl rfl (by repeat (first | exact Pick.here | apply Pick.there)) (by repeat (first | exact SetAt.here | apply SetAt.there)) ?_
        refine oNil ?_
        refine thn_n ?_
        refine wSeq ?_
        refine wSeq ?_
        refine wRegion' ?_
        refine oLd rfl (by repeat (first | exact Pick.here | apply Pick.there)) rfl rfl ?_
        (refine oCall rfl (by kernel_rfl) (fun w hS => frame hS (by repeat' (first | exact Split.nil | exact Pick.here | apply Split.cons | apply Pick.there)) (fun B' hB hS' => all_any hS' A l.length cp)) ?_; rintro bl -)
        refine oNil ?_
        refine thn_n ?_
        refine wBlock ?_
        refine wRange rfl rfl (by kernel_rfl) (all1 l A cp bl hC hl) (by rintro _ h; obtain ⟨y, _, rfl⟩ := List.mem_map.1 h; rfl) rfl (ι := Nat) (κ := Nat × Nat) (fun j z => z = j ∧ NoneTo (unboundP l) (symsFrom 0 l) z) (fun z => [blk b1 22 [.slice A l.length cp], blk b2 31 [.int .i64 0, .int .i64 0, .int .i64 0], blk b5 83 [.map (some m)], kmap Value.string placeV m (firstOf l)]) (fun x z => x = .ret ∧ ∃ y, (symsFrom 0 l).find? (unboundP l) = some (z.1, z.2, y)) (fun x z => [blk b2 31 [.int .i64 (boundS l z.1 z.2).2.2, .int .i64 (z.1 : Int), .int .i64 (z.2 : Int)]]) 0 ⟨rfl, .zero _ _⟩ (Leads.has (by repeat' (first | exact Has.nil | exact Pick.here | apply Has.cons | apply Pick.there))) ?_ ?_ ?_
        ·
          intro lp0 B' R1 R2 j hj
          rintro i hB ⟨rfl, hn⟩
          have hC := Kd.C_grow hB hC
          have hj' : i < (symsFrom 0 l).length := by simpa using hj
          have hnext := hn.next hj'
          have hfound := hn.found hj'
          rw [List.getElem_map]
          generalize (symsFrom 0 l)[i] = y at *
          obtain ⟨yi, yk, x⟩ := y
          dsimp only [hand, symArgs]
          refine wRegion' ?_
          refine oAlloc rfl (by first | exact CellsOf.agg | exact CellsOf.one rfl) (fun b6 => ?_)
          refine oStA rfl rfl rfl rfl (by repeat (first | exact Pick.here | apply Pick.there)) (by rfl) ?_
          refine oNil ?_
          refine aq_n (by repeat (first | exact Pick.here | apply Pick.there)) ?_
          refine wBlock ?_
          refine wSeq ?_
          refine wRegion' ?_
          refine oLd rfl (by repeat (first | exact Pick.here | apply Pick.there)) rfl rfl ?_
          refine oLd rfl (by repeat (first | exact Pick.here | apply Pick.there)) rfl rfl ?_
          refine oFld (n := 0) (m := 0) rfl rfl rfl ?_
          refine oLd rfl (by repeat (first | exact Pick.here | apply Pick.there)) rfl rfl ?_
          refine oFld (n := 1) (m := 1) rfl rfl rfl ?_
          refine oLd rfl (by repeat (first | exact Pick.here | apply Pick.there)) rfl rfl ?_
          (refine oCall rfl (by kernel_rfl) (fun w hS => frame hS (by repeat' (first | exact Split.nil | exact Pick.here | apply Split.cons | apply Pick.there)) (fun B' hB hS' => bound_any A cp m l yi yk hS' (Kd.C_grow hB hC) hl)) ?_; rintro ⟨⟩ -)
          refine oMove rfl ?_
          refine oExt rfl (by repeat (first | exact GetAt.here | apply GetAt.there)) ?_
          refine oExt rfl (by repeat (first | exact GetAt.here | apply GetAt.there)) ?_
          refine oAlloc rfl (by first | exact CellsOf.agg | exact CellsOf.one rfl) (fun b7 => ?_)
          refine oStA rfl rfl rfl rfl (by repeat (first | exact Pick.here | apply Pick.there)) (by rfl) ?_
          refine oAssign rfl ?_
          refine oNil ?_
          refine thn_n ?_
          refine wSeq ?_
          refine wRegion' ?_
          refine oMove rfl ?_
          refine oNeq rfl rfl ?_
          refine oNil ?_
          refine thn_n ?_
          first | refine wCond rfl (fun h42 => ?_) (fun h42 => ?_) | refine wCondB rfl (fun h42 => ?_) (fun h42 => ?_)
          ·
            refine wSeq ?_
            refine wRegion' ?_
            refine oMove rfl ?_
            refine oFld (n := 0) (m := 0) rfl rfl rfl ?_
            refine oLd rfl (by repeat (first | exact Pick.here | apply Pick.there)) rfl rfl ?_
            refine oFld (n := 1) (m := 1) rfl rfl rfl ?_
            refine oLd rfl (by repeat (first | exact Pick.here | apply Pick.there)) rfl rfl ?_
            refine oBuild (Parts.cons rfl (Parts.cons rfl (Parts.cons rfl Parts.nil))) rfl rfl (Built.cons (off := 0) (s := 1) rfl (by first | exact CellsOf.agg | exact CellsOf.one rfl) rfl (by repeat (first | exact PutL.done | apply PutL.put | apply PutL.skip)) (Built.cons (off := 1) (s := 1) rfl (by first | exact CellsOf.agg | exact CellsOf.one rfl) rfl (by repeat (first | exact PutL.done | apply PutL.put | apply PutL.skip)) (Built.cons (off := 2) (s := 1) rfl (by first | exact CellsOf.agg | exact CellsOf.one rfl) rfl (by repeat (first | exact PutL.done | apply PutL.put | apply PutL.skip)) Built.nil))) ?_
            refine oStA rfl rfl rfl rfl (by repeat (first | exact Pick.here | apply Pick.there)) (by rfl) ?_
            refine oNil ?_
            refine thn_n ?_
            refine wRet ?_
            refine blk_r ?_
            refine rq_r ?_
            exact ⟨(yi, yk), ⟨rfl, x, hfound (by simp_all [unboundP])⟩, (Leads.has (by repeat' (first | exact Has.nil | exact Pick.here | apply Has.cons | apply Pick.there)))⟩
          ·
            refine wSkip ?_
            refine blk_n ?_
            refine rq_n ?_
            exact ⟨i + 1, ⟨rfl, hnext (by simp_all [unboundP])⟩, (Leads.has (by repeat' (first | exact Has.nil | exact Pick.here | apply Has.cons | apply Pick.there)))⟩
        ·
          rintro i Dm0 ⟨rfl, hn⟩
          rw [List.length_map] at hn
          have hno := hn.all
          try dsimp only
          refine blk_n ?_
          refine thn_n ?_
          refine wSeq ?_
          refine wRegion' ?_
          refine oBuild Parts.nil rfl rfl Built.nil ?_
          refine oStA rfl rfl rfl rfl (by repeat (first | exact Pick.here | apply Pick.there)) (by rfl) ?_
          refine oNil ?_
          refine thn_n ?_
          refine wRet ?_
          refine finM_r (Ds := [Dm0]) rfl (by repeat' (first | exact Split.nil | exact Pick.here | apply Split.cons | apply Pick.there)) (ResL.cons (by first | exact ResR.cell rfl (by repeat (first | exact Pick.here | apply Pick.there)) rfl | exact ResR.agg rfl (by repeat (first | exact Pick.here | apply Pick.there)) rfl rfl) ResL.nil) ?_
          exact ⟨(), trivial, by rw [check_none h12 h16 h23 hno]; rfl, (Leads.has (by repeat' (first | exact Has.nil | exact Pick.here | apply Has.cons | apply Pick.there)))⟩
        ·
          rintro x ⟨y1, y2⟩ Dm0 ⟨rfl, x, hy⟩
          try dsimp only
          refine wRet ?_
          refine blk_r ?_
          refine thn_r ?_
          refine finM_r (Ds := [Dm0]) rfl (by repeat' (first | exact Split.nil | exact Pick.here | apply Split.cons | apply Pick.there)) (ResL.cons (by first | exact ResR.cell rfl (by repeat (first | exact Pick.here | apply Pick.there)) rfl | exact ResR.agg rfl (by repeat (first | exact Pick.here | apply Pick.there)) rfl rfl) ResL.nil) ?_
          exact ⟨(), trivial, by rw [check_some h12 h16 h23 hy]; rfl, (Leads.has (by repeat' (first | exact Has.nil | exact Pick.here | apply Has.cons | apply Pick.there)))⟩
end Go.Proofs.YtnidmlngkpkmlaaS
