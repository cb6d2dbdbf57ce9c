import Derived.Test.YtogaiijhicfoaaaGreatWa

/-
  The reference of scope: Twice, Check.
-/
namespace Go.Proofs.YtogaiijhicfoaaaGreatW
set_option linter.unusedVariables false
set_option linter.unusedSimpArgs false
open Go.RowKit Go.Proofs.YtogaiijhicfoaaaGreatK Go.Proofs.YtogaiijhicfoaaaGreatT Go.Proofs.YtogaiijhicfoaaaGreatL Go.Proofs.YtogaiijhicfoaaaGreatV

abbrev rejL (r : Int × Int × Int) : List Value := [.int .i64 r.1, .int .i64 r.2.1, .int .i64 r.2.2]
def rowP (l : List ApiObject) (p : Nat → Nat → Bool) (i : Nat) : Bool := (List.range (symsAt l (i : Int)).length).any (p i)
def fI (l : List ApiObject) (p : Nat → Nat → Bool) : Int := idxI (rowP l p) (List.range l.length)
def fK (l : List ApiObject) (p : Nat → Nat → Bool) : Int := idxI (p (fI l p).toNat) (List.range (symsAt l (fI l p)).length)
theorem rng {n i : Nat} (h : i < n) : (List.range n)[i]? = some i := List.getElem?_range h
theorem fI_stop {l : List ApiObject} {p : Nat → Nat → Bool} {i k : Nat} {o : ApiObject} (hs : ∀ j ∈ (List.range l.length).take i, rowP l p j = false) (ho : l[i]? = some o) (hs2 : ∀ j ∈ (List.range o.fSymbols.length).take k, p i j = false) (hk : k < o.fSymbols.length) (hp : p i k = true) : fI l p = (i : Int) ∧ fK l p = (k : Int) := by
  have hi := (List.getElem?_eq_some_iff.1 ho).1
  have h1 : fI l p = (i : Int) := idxI_stop hs (rng hi) (by unfold rowP; rw [symsAt_eq ho]; exact any_T hk hp)
  refine ⟨h1, ?_⟩
  unfold fK
  rw [h1, symsAt_eq ho, Int.toNat_natCast]
  exact idxI_stop hs2 (rng hk) hp
theorem fI_none {l : List ApiObject} {p : Nat → Nat → Bool} (hs : ∀ j ∈ List.range l.length, rowP l p j = false) : fI l p = -1 := idxI_none hs
theorem fI_all {l : List ApiObject} {p : Nat → Nat → Bool} (h : fI l p < 0) {i k : Nat} {o : ApiObject} (ho : l[i]? = some o) (hk : k < o.fSymbols.length) : p i k = false := by
  cases hp : p i k with
  | false => rfl
  | true =>
    have hi := (List.getElem?_eq_some_iff.1 ho).1
    have : 0 ≤ fI l p := idxI_iff.2 (List.any_eq_true.2 ⟨i, List.mem_range.2 hi, by unfold rowP; rw [symsAt_eq ho]; exact any_T hk hp⟩)
    omega
def twP (l : List ApiObject) (i k : Nat) : Bool := glob (symOf l i k) && decide ((fnd l (symOf l i k).fName).1 ≠ (i : Int) ∨ (fnd l (symOf l i k).fName).2.1 ≠ (k : Int))
def unP (l : List ApiObject) (i k : Nat) : Bool := decide ((bndF l i k).2.2 ≠ 0)
def chk23 (l : List ApiObject) : Int × Int × Int := if l.length = 0 ∨ 6 < l.length then (19, -1, -1) else if 0 ≤ fI l (twP l) then (12, fI l (twP l), fK l (twP l)) else if 0 ≤ fI l (unP l) then ((bndF l (fI l (unP l)) (fK l (unP l))).2.2, fI l (unP l), fK l (unP l)) else (0, 0, 0)
set_option maxRecDepth 100000 in
set_option maxHeartbeats 1000000 in
theorem ref23_Twice {B : Base} {w : World} (hS : St B [] w) (A : Option Addr) (cp : Nat) (l : List ApiObject) (hC : kApiObject.C B.e A l) (hsm : FewO l) :
    CallsIn Fence.wide 0 Tryz.prog 132 #[.slice A l.length cp] w (Ret B (fun _ : Unit => True) (fun _ => .tuple #[.agg (rejL (if 0 ≤ fI l (twP l) then (12, fI l (twP l), fK l (twP l)) else (0, 0, 0))).toArray, .bool (decide (0 ≤ fI l (twP l)))]) (fun _ => [])) := by
  have hln := hsm.len
  (refine enter Tryz.func132 rfl rfl hS ?_; simp only [List.zipIdx_cons, List.zipIdx_nil, List.map_cons, List.map_nil, Nat.reduceAdd, Nat.zero_add])
  refine wSeq (wRegion' (oAlloc rfl (by repeat constructor) (fun b2 => ?_)))
  refine oAssign rfl (oNil (thn_n (wSeq (wSeq (wRegion' (oAssign rfl (oNil (thn_n (wBlock (wLoop (ι := Nat) (fun i => [(0, .slice A l.length cp), (2, .pointer (some ⟨b2, 0, none⟩)), (4, .int .i64 (i : Int))]) (fun i => [blk b2 32 [.int .i64 0, .int .i64 0, .int .i64 0]]) (fun i => i ≤ l.length ∧ ∀ j ∈ (List.range l.length).take i, rowP l (twP l) j = false) (fun i => l.length - i) 0 ?_ cv Lh ?_))))))))))
  ·
   exact ⟨Nat.zero_le _, by simp⟩
  rintro i ⟨hi, hs⟩
  try dsimp only
  refine wSeq (wSeq (wRegion' (oMove rfl (oMove rfl (oLenS rfl rfl (oLss rfl rfl (oNil (thn_n (wC (fun h13 => ?_) (fun h13 => ?_))))))))))
  ·
   obtain ⟨o, ho⟩ : ∃ o, l[i]? = some o := ⟨_, List.getElem?_eq_getElem (by omega)⟩
   have hil : i < l.length := by omega
   have hol := hsm.syms o (List.mem_of_getElem? ho)
   obtain ⟨e1, cs1, hE⟩ := hC.elm ho
   obtain ⟨B0, d0, B1, d1, B2, d2, rfl, m0, q0, m1, q1, m2, q2⟩ := kApiObject_open hE.K
   refine wSkip (thn_n (wSeq (wBlock (wSeq (wRegion' (oAssign rfl (oNil (thn_n (wBlock (wLoop (ι := Nat) (fun k => [(0, .slice A l.length cp), (2, .pointer (some ⟨b2, 0, none⟩)), (4, .int .i64 (i : Int)), (5, .int .i64 (k : Int))]) (fun k => [blk b2 32 [.int .i64 0, .int .i64 0, .int .i64 0]]) (fun k => k ≤ o.fSymbols.length ∧ ∀ j ∈ (List.range o.fSymbols.length).take k, twP l i j = false) (fun k => o.fSymbols.length - k) 0 ?_ cv Lh ?_))))))))))
   ·
    exact ⟨Nat.zero_le _, by simp⟩
   rintro k ⟨hk, hs2⟩
   try dsimp only
   refine wSeq (wSeq (wRegion' (oMove rfl (oMove rfl (oMove rfl (oIdxE rfl rfl (hE) (by omega) rfl rfl ?_))))))
   have hc19 := (hE).cell
   first | refine oFldX (n := 0) (m := 0) rfl rfl rfl ?_ | refine oFldR (n := 0) (m := 0) rfl rfl rfl ?_ | refine oFldD (n := 0) (m := 0) rfl rfl rfl ?_
   first | refine oLdX rfl hc19 rfl rfl ?_ | refine oLdXA rfl hc19 rfl (by repeat constructor) ?_ | (refine oLdR1 rfl (by repeat constructor) (by omega) rfl (fun u21 hu21 => ?_))
   refine oLenS rfl rfl (oLss rfl rfl (oNil (thn_n (wC (fun h23 => ?_) (fun h23 => ?_)))))
   ·
    obtain ⟨x, hx⟩ : ∃ x, o.fSymbols[k]? = some x := ⟨_, List.getElem?_eq_getElem (by omega)⟩
    have hkl : k < o.fSymbols.length := by omega
    obtain ⟨e2, cs2, hE2⟩ := q0.elm hx
    obtain rfl := kApiSymbol_open hE2.K
    have htp : twP l i k = (glob x && decide ((fnd l x.fName).1 ≠ (i : Int) ∨ (fnd l x.fName).2.1 ≠ (k : Int))) := by unfold twP; rw [symOf_eq ho hx]
    refine wSkip (thn_n (wSeq (wBlock (wSeq (wRegion' (oMove rfl (oMove rfl (oIdxE rfl rfl (hE) (by omega) rfl rfl ?_))))))))
    have hc28 := (hE).cell
    first | refine oFldX (n := 0) (m := 0) rfl rfl rfl ?_ | refine oFldR (n := 0) (m := 0) rfl rfl rfl ?_ | refine oFldD (n := 0) (m := 0) rfl rfl rfl ?_
    first | refine oLdX rfl hc28 rfl rfl ?_ | refine oLdXA rfl hc28 rfl (by repeat constructor) ?_ | (refine oLdR1 rfl (by repeat constructor) (by omega) rfl (fun u30 hu30 => ?_))
    refine oMove rfl (oIdxE rfl rfl (hE2) (by omega) rfl rfl ?_)
    have hc32 := (hE2).cell
    first | refine oLdX rfl hc32 rfl rfl ?_ | refine oLdXA rfl hc32 rfl (by repeat constructor) ?_ | (refine oLdR1 rfl (by repeat constructor) (by omega) rfl (fun u33 hu33 => ?_))
    refine oAlloc rfl (by repeat constructor) (fun b6 => ?_)
    refine oStA rfl rfl rfl rfl (by repeat constructor) (by rfl) ?_
    refine oNil (thn_n (wSeq (wRegion' (oMove rfl (oFld (n := 0) (m := 0) rfl rfl rfl (oLd rfl (by repeat constructor) rfl rfl ?_))))))
    (refine oCall rfl (by kernel_rfl) (fun w hS => frame hS (by repeat' constructor) (fun B' hB hS' => ref23_Find hS' A cp l (Kd.C_grow hB hC) hsm x.fName)) ?_; rintro ⟨⟩ -)
    refine oMove rfl (oExt rfl (by repeat constructor) ?_)
    refine oExt rfl (by repeat constructor) ?_
    refine oExt rfl (by repeat constructor) ?_
    refine oAssign rfl (oAssign rfl (oAssign rfl (oNil (thn_n (wSeq (wRegion' (oLdA rfl (by repeat constructor) rfl (by repeat constructor) ?_)))))))
    (refine oCall rfl (by kernel_rfl) (fun w hS => frame hS (by repeat' constructor) (fun B' hB hS' => ref23_global hS' x _ (kApiSymbol_mk _ x))) ?_; rintro ⟨⟩ -)
    refine oMove rfl ?_
    first | refine oSplit (t := 44) rfl (fun h44 => ?_) (fun h44 => ?_) | refine oSplitB (t := 44) rfl (fun h44 => ?_) (fun h44 => ?_)
    ·
     refine oWant rfl rfl (oMove rfl (oWant rfl rfl (oMove rfl (oWant rfl rfl (oNeq rfl rfl (oWant rfl rfl (oMove rfl ?_)))))))
     first | refine oSplit (t := 48) rfl (fun h48 => ?_) (fun h48 => ?_) | refine oSplitB (t := 48) rfl (fun h48 => ?_) (fun h48 => ?_)
     ·
      refine oSkip rfl rfl rfl rfl (oSkip rfl rfl rfl rfl (oSkip rfl rfl rfl rfl (oWant rfl rfl (oPickT rfl rfl (oPickT rfl rfl (oNil (thn_n ?_)))))))
      first | refine wCondT rfl ?_ | refine wCondTd h53 rfl ?_ | refine wCondTb h53 rfl ?_
      refine wSeq (wRegion' (oMove rfl (oMove rfl (oBuild (Parts.cons rfl (Parts.cons rfl (Parts.cons rfl Parts.nil))) rfl rfl (Built.cons (off := 0) (s := 1) rfl (by repeat constructor) rfl (by repeat constructor) (Built.cons (off := 1) (s := 1) rfl (by repeat constructor) rfl (by repeat constructor) (Built.cons (off := 2) (s := 1) rfl (by repeat constructor) rfl (by repeat constructor) Built.nil))) ?_))))
      refine oStA rfl rfl rfl rfl (by repeat constructor) (by rfl) ?_
      refine oAssign rfl (oNil (thn_n (wRet (blk_r (thn_r (thn_r (blk_r (blk_r (thn_r (thn_r (blk_r ?_)))))))))))
      refine thn_r (fin_r ?_)
      refine ⟨rfl, _, (ResL.cons (by first | exact ResR.cell rfl (by repeat constructor) rfl | exact ResR.agg rfl (by repeat constructor) rfl rfl) (ResL.cons (ResR.tmp rfl) ResL.nil)), ?_⟩
      have ht : twP l i k = true := by rw [htp]; simp_all
      obtain ⟨h1, h2⟩ := fI_stop hs ho hs2 hkl ht
      exact ⟨(), trivial, by rw [h1, h2, if_pos (by omega), decide_eq_true (by omega)]; rfl, Lh⟩
     refine oWant rfl rfl (oMove rfl (oWant rfl rfl (oMove rfl (oWant rfl rfl (oNeq rfl rfl (oWant rfl rfl (oPickF rfl rfl (oPickT rfl rfl (oNil (thn_n (wC (fun h53 => ?_) (fun h53 => ?_))))))))))))
     ·
      refine wSeq (wRegion' (oMove rfl (oMove rfl (oBuild (Parts.cons rfl (Parts.cons rfl (Parts.cons rfl Parts.nil))) rfl rfl (Built.cons (off := 0) (s := 1) rfl (by repeat constructor) rfl (by repeat constructor) (Built.cons (off := 1) (s := 1) rfl (by repeat constructor) rfl (by repeat constructor) (Built.cons (off := 2) (s := 1) rfl (by repeat constructor) rfl (by repeat constructor) Built.nil))) ?_))))
      refine oStA rfl rfl rfl rfl (by repeat constructor) (by rfl) ?_
      refine oAssign rfl (oNil (thn_n (wRet (blk_r (thn_r (thn_r (blk_r (blk_r (thn_r (thn_r (blk_r ?_)))))))))))
      refine thn_r (fin_r ?_)
      refine ⟨rfl, _, (ResL.cons (by first | exact ResR.cell rfl (by repeat constructor) rfl | exact ResR.agg rfl (by repeat constructor) rfl rfl) (ResL.cons (ResR.tmp rfl) ResL.nil)), ?_⟩
      have ht : twP l i k = true := by rw [htp]; simp_all
      obtain ⟨h1, h2⟩ := fI_stop hs ho hs2 hkl ht
      exact ⟨(), trivial, by rw [h1, h2, if_pos (by omega), decide_eq_true (by omega)]; rfl, Lh⟩
     refine wSkip (blk_n (thn_n (wRegion' (oMove rfl (oSucc rfl rfl (by omega) ?_)))))
     refine oAssign rfl (oNil (thn_n ?_))
     exact ⟨rfl, k + 1, ⟨by omega, take_not hs2 (rng hkl) (by rw [htp]; simp_all)⟩, by omega, cv, Lh⟩
    refine oSkip rfl rfl rfl rfl (oSkip rfl rfl rfl rfl (oSkip rfl rfl rfl rfl (oSkip rfl rfl rfl rfl (oSkipU rfl rfl rfl (oSkipU rfl rfl rfl (oSkipU rfl rfl rfl (oSkip rfl rfl rfl rfl (oPickF rfl rfl (oNil (thn_n ?_))))))))))
    first | refine wCondF rfl ?_ | refine wCondFd h53 rfl ?_ | refine wCondFb h53 rfl ?_
    refine wSkip (blk_n (thn_n (wRegion' (oMove rfl (oSucc rfl rfl (by omega) ?_)))))
    refine oAssign rfl (oNil (thn_n ?_))
    exact ⟨rfl, k + 1, ⟨by omega, take_not hs2 (rng hkl) (by rw [htp]; simp_all)⟩, by omega, cv, Lh⟩
   obtain rfl : k = o.fSymbols.length := by omega
   rw [List.take_of_length_le (by simp)] at hs2
   have hno : rowP l (twP l) i = false := by unfold rowP; rw [symsAt_eq ho, List.any_eq_false]; intro y hy; rw [hs2 y hy]; simp
   refine wExit (thn_x (thn_x (blk_x (blk_n (thn_n (wRegion' (oMove rfl (oSucc rfl rfl (by omega) ?_))))))))
   refine oAssign rfl (oNil (thn_n ?_))
   exact ⟨rfl, i + 1, ⟨by omega, take_not hs (rng (by omega)) hno⟩, by omega, cv, Lh⟩
  refine wExit (thn_x (thn_x (blk_x (thn_n (wSeq (wRegion' (oBuild Parts.nil rfl rfl Built.nil (oStA rfl rfl rfl rfl (by repeat constructor) (by rfl) ?_))))))))
  refine oAssign rfl (oNil (thn_n (wRet (fin_r ?_))))
  refine ⟨rfl, _, (ResL.cons (by first | exact ResR.cell rfl (by repeat constructor) rfl | exact ResR.agg rfl (by repeat constructor) rfl rfl) (ResL.cons (ResR.tmp rfl) ResL.nil)), ?_⟩
  obtain rfl : i = l.length := by omega
  rw [List.take_of_length_le (by simp)] at hs
  exact ⟨(), trivial, by rw [fI_none hs]; rfl, Lh⟩
set_option maxRecDepth 100000 in
set_option maxHeartbeats 1000000 in
theorem ref23_Check {B : Base} {w : World} (hS : St B [] w) (A : Option Addr) (cp : Nat) (l : List ApiObject) (hC : kApiObject.C B.e A l) (hsm : FewO l) :
    CallsIn Fence.wide 0 Tryz.prog 70 #[.slice A l.length cp] w (Ret B (fun _ : Unit => True) (fun _ => .agg (rejL (chk23 l)).toArray) (fun _ => [])) := by
  have hln := hsm.len
  (refine enter Tryz.func70 rfl rfl hS ?_; simp only [List.zipIdx_cons, List.zipIdx_nil, List.map_cons, List.map_nil, Nat.reduceAdd, Nat.zero_add])
  refine wSeq (wRegion' (oAlloc rfl (by repeat constructor) (fun b2 => ?_)))
  refine oNil (thn_n (wSeq (wSeq (wRegion' (oMove rfl (oLenS rfl rfl (oEql rfl rfl (oMove rfl ?_))))))))
  first | refine oSplit (t := 13) rfl (fun h13 => ?_) (fun h13 => ?_) | refine oSplitB (t := 13) rfl (fun h13 => ?_) (fun h13 => ?_)
  ·
   refine oSkip rfl rfl rfl rfl (oSkip rfl rfl rfl rfl (oSkip rfl rfl rfl rfl (oPickT rfl rfl (oNil (thn_n ?_)))))
   first | refine wCondT rfl ?_ | refine wCondTd h17 rfl ?_ | refine wCondTb h17 rfl ?_
   refine wSeq (wRegion' (oBuild (Parts.cons rfl (Parts.cons rfl (Parts.cons rfl Parts.nil))) rfl rfl (Built.cons (off := 0) (s := 1) rfl (by repeat constructor) rfl (by repeat constructor) (Built.cons (off := 1) (s := 1) rfl (by repeat constructor) rfl (by repeat constructor) (Built.cons (off := 2) (s := 1) rfl (by repeat constructor) rfl (by repeat constructor) Built.nil))) ?_))
   refine oStA rfl rfl rfl rfl (by repeat constructor) (by rfl) ?_
   refine oNil (thn_n (wRet (thn_r (fin_r ?_))))
   refine ⟨rfl, _, (ResL.cons (by first | exact ResR.cell rfl (by repeat constructor) rfl | exact ResR.agg rfl (by repeat constructor) rfl rfl) ResL.nil), ?_⟩
   exact ⟨(), trivial, by unfold chk23; rw [if_pos (by omega)]; rfl, Lh⟩
  refine oWant rfl rfl (oMove rfl (oWant rfl rfl (oLenS rfl rfl (oWant rfl rfl (oGtr rfl rfl (oPickF rfl rfl (oNil (thn_n (wC (fun h17 => ?_) (fun h17 => ?_))))))))))
  ·
   refine wSeq (wRegion' (oBuild (Parts.cons rfl (Parts.cons rfl (Parts.cons rfl Parts.nil))) rfl rfl (Built.cons (off := 0) (s := 1) rfl (by repeat constructor) rfl (by repeat constructor) (Built.cons (off := 1) (s := 1) rfl (by repeat constructor) rfl (by repeat constructor) (Built.cons (off := 2) (s := 1) rfl (by repeat constructor) rfl (by repeat constructor) Built.nil))) ?_))
   refine oStA rfl rfl rfl rfl (by repeat constructor) (by rfl) ?_
   refine oNil (thn_n (wRet (thn_r (fin_r ?_))))
   refine ⟨rfl, _, (ResL.cons (by first | exact ResR.cell rfl (by repeat constructor) rfl | exact ResR.agg rfl (by repeat constructor) rfl rfl) ResL.nil), ?_⟩
   exact ⟨(), trivial, by unfold chk23; rw [if_pos (by omega)]; rfl, Lh⟩
  have hl0 : ¬ (l.length = 0 ∨ 6 < l.length) := by omega
  refine wSkip (thn_n (wSeq (wSeq (wRegion' (oMove rfl ?_)))))
  (refine oCall rfl (by kernel_rfl) (fun w hS => frame hS (by repeat' constructor) (fun B' hB hS' => ref23_Twice hS' A cp l (Kd.C_grow hB hC) hsm)) ?_; rintro ⟨⟩ -)
  refine oMove rfl (oExt rfl (by repeat constructor) ?_)
  refine oExt rfl (by repeat constructor) ?_
  refine oAlloc rfl (by repeat constructor) (fun b3 => ?_)
  refine oStA rfl rfl rfl rfl (by repeat constructor) (by rfl) ?_
  refine oAssign rfl (oNil (thn_n (wSeq (wRegion' (oMove rfl (oNil (thn_n (wC (fun h24 => ?_) (fun h24 => ?_)))))))))
  ·
   have ht : 0 ≤ fI l (twP l) := by first | exact h24 | exact of_decide_eq_true h24
   rw [if_pos ht]
   refine wSeq (wRegion' (oLdA rfl (by repeat constructor) rfl (by repeat constructor) ?_))
   refine oStA rfl rfl rfl rfl (by repeat constructor) (by rfl) ?_
   refine oNil (thn_n (wRet (thn_r (fin_r ?_))))
   refine ⟨rfl, _, (ResL.cons (by first | exact ResR.cell rfl (by repeat constructor) rfl | exact ResR.agg rfl (by repeat constructor) rfl rfl) ResL.nil), ?_⟩
   have ht : 0 ≤ fI l (twP l) := by first | exact h24 | exact of_decide_eq_true h24
   exact ⟨(), trivial, by unfold chk23; rw [if_neg hl0, if_pos ht]; rfl, Lh⟩
  have ht : ¬ 0 ≤ fI l (twP l) := by first | exact h24 | exact of_decide_eq_false h24
  refine wSkip (thn_n (wSeq (wSeq (wRegion' (oAssign rfl (oNil (thn_n (wBlock (wLoop (ι := Nat) (fun i => [(0, .slice A l.length cp), (2, .pointer (some ⟨b2, 0, none⟩)), (5, .int .i64 (i : Int))]) (fun i => [blk b2 32 [.int .i64 0, .int .i64 0, .int .i64 0]]) (fun i => i ≤ l.length ∧ ∀ j ∈ (List.range l.length).take i, rowP l (unP l) j = false) (fun i => l.length - i) 0 ?_ cv Lh ?_)))))))))
  ·
   exact ⟨Nat.zero_le _, by simp⟩
  rintro i ⟨hi, hs⟩
  try dsimp only
  refine wSeq (wSeq (wRegion' (oMove rfl (oMove rfl (oLenS rfl rfl (oLss rfl rfl (oNil (thn_n (wC (fun h29 => ?_) (fun h29 => ?_))))))))))
  ·
   obtain ⟨o, ho⟩ : ∃ o, l[i]? = some o := ⟨_, List.getElem?_eq_getElem (by omega)⟩
   have hil : i < l.length := by omega
   have hol := hsm.syms o (List.mem_of_getElem? ho)
   obtain ⟨e1, cs1, hE⟩ := hC.elm ho
   obtain ⟨B0, d0, B1, d1, B2, d2, rfl, m0, q0, m1, q1, m2, q2⟩ := kApiObject_open hE.K
   refine wSkip (thn_n (wSeq (wBlock (wSeq (wRegion' (oAssign rfl (oNil (thn_n (wBlock (wLoop (ι := Nat) (fun k => [(0, .slice A l.length cp), (2, .pointer (some ⟨b2, 0, none⟩)), (5, .int .i64 (i : Int)), (6, .int .i64 (k : Int))]) (fun k => [blk b2 32 [.int .i64 0, .int .i64 0, .int .i64 0]]) (fun k => k ≤ o.fSymbols.length ∧ ∀ j ∈ (List.range o.fSymbols.length).take k, unP l i j = false) (fun k => o.fSymbols.length - k) 0 ?_ cv Lh ?_))))))))))
   ·
    exact ⟨Nat.zero_le _, by simp⟩
   rintro k ⟨hk, hs2⟩
   try dsimp only
   refine wSeq (wSeq (wRegion' (oMove rfl (oMove rfl (oMove rfl (oIdxE rfl rfl (hE) (by omega) rfl rfl ?_))))))
   have hc35 := (hE).cell
   first | refine oFldX (n := 0) (m := 0) rfl rfl rfl ?_ | refine oFldR (n := 0) (m := 0) rfl rfl rfl ?_ | refine oFldD (n := 0) (m := 0) rfl rfl rfl ?_
   first | refine oLdX rfl hc35 rfl rfl ?_ | refine oLdXA rfl hc35 rfl (by repeat constructor) ?_ | (refine oLdR1 rfl (by repeat constructor) (by omega) rfl (fun u37 hu37 => ?_))
   refine oLenS rfl rfl (oLss rfl rfl (oNil (thn_n (wC (fun h39 => ?_) (fun h39 => ?_)))))
   ·
    have hkl : k < o.fSymbols.length := by omega
    refine wSkip (thn_n (wSeq (wBlock (wSeq (wRegion' (oMove rfl (oMove rfl (oMove rfl ?_))))))))
    (refine oCall rfl (by kernel_rfl) (fun w hS => frame hS (by repeat' constructor) (fun B' hB hS' => ref23_Bound hS' A cp l (Kd.C_grow hB hC) hsm (i : Int) (k : Int))) ?_; rintro ⟨⟩ -)
    refine oMove rfl (oExt rfl (by repeat constructor) ?_)
    refine oExt rfl (by repeat constructor) ?_
    refine oExt rfl (by repeat constructor) ?_
    refine oAssign rfl (oAssign rfl (oAssign rfl (oNil (thn_n (wSeq (wRegion' (oMove rfl (oNeq rfl rfl (oNil (thn_n (wC (fun h51 => ?_) (fun h51 => ?_))))))))))))
    ·
     refine wSeq (wRegion' (oMove rfl (oMove rfl (oMove rfl (oBuild (Parts.cons rfl (Parts.cons rfl (Parts.cons rfl Parts.nil))) rfl rfl (Built.cons (off := 0) (s := 1) rfl (by repeat constructor) rfl (by repeat constructor) (Built.cons (off := 1) (s := 1) rfl (by repeat constructor) rfl (by repeat constructor) (Built.cons (off := 2) (s := 1) rfl (by repeat constructor) rfl (by repeat constructor) Built.nil))) ?_)))))
     refine oStA rfl rfl rfl rfl (by repeat constructor) (by rfl) ?_
     refine oNil (thn_n (wRet (blk_r (thn_r (thn_r (blk_r (blk_r (thn_r (thn_r (blk_r (thn_r ?_)))))))))))
     refine fin_r ?_
     refine ⟨rfl, _, (ResL.cons (by first | exact ResR.cell rfl (by repeat constructor) rfl | exact ResR.agg rfl (by repeat constructor) rfl rfl) ResL.nil), ?_⟩
     obtain ⟨h1, h2⟩ := fI_stop hs ho hs2 hkl (decide_eq_true h51)
     exact ⟨(), trivial, by unfold chk23; rw [if_neg hl0, if_neg ht, h1, h2, if_pos (by omega)]; rfl, Lh⟩
    refine wSkip (blk_n (thn_n (wRegion' (oMove rfl (oSucc rfl rfl (by omega) ?_)))))
    refine oAssign rfl (oNil (thn_n ?_))
    exact ⟨rfl, k + 1, ⟨by omega, take_not hs2 (rng hkl) (decide_eq_false h51)⟩, by omega, cv, Lh⟩
   obtain rfl : k = o.fSymbols.length := by omega
   rw [List.take_of_length_le (by simp)] at hs2
   have hno : rowP l (unP l) i = false := by unfold rowP; rw [symsAt_eq ho, List.any_eq_false]; intro y hy; rw [hs2 y hy]; simp
   refine wExit (thn_x (thn_x (blk_x (blk_n (thn_n (wRegion' (oMove rfl (oSucc rfl rfl (by omega) ?_))))))))
   refine oAssign rfl (oNil (thn_n ?_))
   exact ⟨rfl, i + 1, ⟨by omega, take_not hs (rng (by omega)) hno⟩, by omega, cv, Lh⟩
  refine wExit (thn_x (thn_x (blk_x (thn_n (wSeq (wRegion' (oBuild Parts.nil rfl rfl Built.nil (oStA rfl rfl rfl rfl (by repeat constructor) (by rfl) ?_))))))))
  refine oNil (thn_n (wRet (fin_r ?_)))
  refine ⟨rfl, _, (ResL.cons (by first | exact ResR.cell rfl (by repeat constructor) rfl | exact ResR.agg rfl (by repeat constructor) rfl rfl) ResL.nil), ?_⟩
  obtain rfl : i = l.length := by omega
  rw [List.take_of_length_le (by simp)] at hs
  exact ⟨(), trivial, by unfold chk23; rw [if_neg hl0, if_neg ht, fI_none hs]; rfl, Lh⟩
end Go.Proofs.YtogaiijhicfoaaaGreatW
