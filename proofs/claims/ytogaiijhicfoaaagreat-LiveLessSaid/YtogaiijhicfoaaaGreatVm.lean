import Derived.Test.YtogaiijhicfoaaaGreatVl

/-
  The reference of fun.
-/
namespace Go.Proofs.YtogaiijhicfoaaaGreatV
set_option linter.unusedVariables false
set_option linter.unusedSimpArgs false
open Go.RowKit Go.Proofs.YtogaiijhicfoaaaGreatK Go.Proofs.YtogaiijhicfoaaaGreatT Go.Proofs.YtogaiijhicfoaaaGreatL

set_option maxRecDepth 100000 in
set_option maxHeartbeats 600000 in
theorem ref16_slots {B : Base} {w : World} (hS : St B [] w) (f : ApiFunc) (fc : List Value) (hf : kApiFunc.K B.e f fc) (hv : ∀ y ∈ f.fKinds, in64 y) :
    CallsIn Fence.wide 0 Tryz.prog 253 #[.agg fc.toArray] w (Ret B (fun _ : Unit => True) (fun _ => .int .i64 (slotsF f)) (fun _ => [])) := by
  obtain ⟨A0, c0, A1, c1, A2, c2, A3, c3, rfl, l0, g0, l1, g1, l2, g2, l3, g3⟩ := kApiFunc_open hf
  have hp := parF_in f.fClass
  (refine enter Tryz.func253 rfl rfl hS ?_; simp only [List.zipIdx_cons, List.zipIdx_nil, List.map_cons, List.map_nil, Nat.reduceAdd, Nat.zero_add])
  refine wSeq (wRegion' (oBox rfl (by repeat constructor) (fun b1 => ?_)))
  refine oAssign rfl (oNil (thn_n (wSeq (wSeq (wRegion' (oFld (n := 0) (m := 0) rfl rfl rfl (oLd rfl (by repeat constructor) rfl rfl ?_)))))))
  (refine oCall rfl (by kernel_rfl) (fun w hS => frame hS (by repeat' constructor) (fun B' hB hS' => ref5_Is hS' f.fClass)) ?_; rintro ⟨⟩ -)
  first | refine oNot rfl ?_ | refine oNotB rfl ?_
  refine oNil (thn_n (wC (fun h7 => ?_) (fun h7 => ?_)))
  ·
   refine wSeq (wRegion' (oAssign rfl (oNil (thn_n (wRet (thn_r (fin_r (fi1 rfl ?_))))))))
   exact ⟨(), trivial, by unfold slotsF; rw [if_neg (by simpa using h7)]; rfl, Lh⟩
  have hc : isC f.fClass = true := by simpa using h7
  refine wSkip (thn_n (wSeq (wSeq (wRegion' (oFld (n := 1) (m := 1) rfl rfl rfl (oLd rfl (by repeat constructor) rfl rfl ?_))))))
  refine oLenS rfl rfl (oGtr rfl rfl (oNil (thn_n (wC (fun h11 => ?_) (fun h11 => ?_)))))
  ·
   refine wSeq (wRegion' (oAssign rfl (oNil (thn_n (wRet (thn_r (fin_r (fi1 rfl ?_))))))))
   exact ⟨(), trivial, by unfold slotsF; rw [if_pos hc, if_pos (by omega)]; rfl, Lh⟩
  refine wSkip (thn_n (wSeq (wSeq (wDrawG rfl [0, 1, 2, 3, 4] [(5, [0, 1, 2], [])] [6] 24 (by kernel_rfl) rfl rfl (fun w0 => ?_)))))
  refine oFld (n := 1) (m := 1) rfl rfl rfl (oLd rfl (by repeat constructor) rfl rfl ?_)
  refine oLenS rfl rfl (oFld (n := 0) (m := 0) rfl rfl rfl (oLd rfl (by repeat constructor) rfl rfl ?_))
  refine oLkSegG (oSegG rfl ?_)
  (refine oCall rfl (by kernel_rfl) (fun w hS => frame hS (by repeat' constructor) (fun B' hB hS' => ref5_Params hS' f.fClass)) ?_; rintro ⟨⟩ -)
  refine oAgainG ?_ rfl (fun w0 => ?_)
  ·
   refine AgainG.cons rfl rfl rfl rfl (fun w0 => ?_) ?_
   ·
    refine oFld (n := 1) (m := 1) rfl rfl rfl ?_
    exact oLkHas rfl
   refine AgainG.cons rfl rfl rfl rfl (fun w0 => ?_) ?_
   ·
    refine oLd rfl (by repeat constructor) rfl rfl ?_
    exact oLkHas rfl
   refine AgainG.cons rfl rfl rfl rfl (fun w0 => ?_) ?_
   ·
    refine oLenS rfl rfl ?_
    exact oLkHas rfl
   exact AgainG.nil
  refine oTailG (oLss rfl rfl (oNil (thn_n (wC (fun h18 => ?_) (fun h18 => ?_)))))
  ·
   refine wSeq (wRegion' (oAssign rfl (oNil (thn_n (wRet (thn_r (fin_r (fi1 rfl ?_))))))))
   exact ⟨(), trivial, by unfold slotsF; rw [if_pos hc, if_neg (by omega), if_pos (by omega)]; rfl, Lh⟩
  have hk1 : ¬ 16 < f.fKinds.length := by omega
  have hk2 : ¬ (f.fKinds.length : Int) < parF f.fClass := by omega
  refine wSkip (thn_n (wSeq (wSeq (wRegion' (oAssign rfl (oNil (thn_n (wBlock (wLoop (ι := Nat) (fun i => [(1, .pointer (some ⟨b1, 0, none⟩)), (3, .int .i64 (i : Int))]) (fun i => [blk b1 47 [.int .i64 f.fClass, .slice A0 f.fKinds.length c0, .int .i64 f.fPad, .bool f.fNosplit, .int .i64 f.fFrom, .int .i64 f.fTo, .slice A1 f.fLines.length c1, .slice A2 f.fCode.length c2, .slice A3 f.fRelocs.length c3]]) (fun i => i ≤ f.fKinds.length ∧ ∀ j, j < i → kindBad (parF f.fClass) j (f.fKinds.getD j 0) = false) (fun i => f.fKinds.length - i) 0 ?_ cv Lh ?_)))))))))
  ·
   exact ⟨Nat.zero_le _, fun j hj => by omega⟩
  rintro i ⟨hi, hs⟩
  try dsimp only
  refine wSeq (wSeq (wRegion' (oMove rfl (oFld (n := 1) (m := 1) rfl rfl rfl (oLd rfl (by repeat constructor) rfl rfl ?_)))))
  refine oLenS rfl rfl (oLss rfl rfl (oNil (thn_n (wC (fun h23 => ?_) (fun h23 => ?_)))))
  ·
   obtain ⟨x, hx⟩ : ∃ x, f.fKinds[i]? = some x := ⟨_, List.getElem?_eq_getElem (by omega)⟩
   obtain ⟨e1, cs1, hE⟩ := g0.elm hx
   obtain rfl := hE.K
   refine wSkip (thn_n (wSeq (wBlock (wSeq (wRegion' (oFld (n := 1) (m := 1) rfl rfl rfl (oLd rfl (by repeat constructor) rfl rfl ?_)))))))
   refine oMove rfl (oIdxE rfl rfl (hE) (by omega) rfl rfl ?_)
   have hc29 := (hE).cell
   first | refine oLdX rfl hc29 rfl rfl ?_ | refine oLdXA rfl hc29 rfl (by repeat constructor) ?_ | (refine oLdR1 rfl (by repeat constructor) (by omega) rfl (fun u30 hu30 => ?_))
   (refine oCall rfl (by kernel_rfl) (fun w hS => frame hS (by repeat' constructor) (fun B' hB hS' => ref5_Text hS' x (hv x (List.mem_of_getElem? hx)))) ?_; rintro ⟨⟩ -)
   refine oSEq rfl rfl (oMove rfl ?_)
   first | refine oSplit (t := 33) rfl (fun h33 => ?_) (fun h33 => ?_) | refine oSplitB (t := 33) rfl (fun h33 => ?_) (fun h33 => ?_)
   ·
    have h33 : textF x = ByteArray.empty := h33
    refine oSkip rfl rfl rfl rfl (oSkip rfl rfl rfl rfl (oSkip rfl rfl rfl rfl (oSkip rfl rfl rfl rfl (oSkip rfl rfl rfl rfl (oSkip rfl rfl rfl rfl (oSkipU rfl rfl rfl (oSkipU rfl rfl rfl (oSkipU rfl rfl rfl (oSkipU rfl rfl rfl (oSkipU rfl rfl rfl (oSkipU rfl rfl rfl ?_)))))))))))
    refine oSkip rfl rfl rfl rfl (oPickT rfl rfl (oNil (thn_n ?_)))
    first | refine wCondT rfl ?_ | refine wCondTd h47 rfl ?_ | refine wCondTb h47 rfl ?_
    refine wSeq (wRegion' (oAssign rfl (oNil (thn_n (wRet (blk_r (thn_r (thn_r (blk_r (thn_r (fin_r ?_)))))))))))
    refine fi1 rfl ?_
    exact ⟨(), trivial, by unfold slotsF; rw [if_pos hc, if_neg hk1, if_neg hk2, if_pos (any_T (show i < f.fKinds.length by omega) (by rw [getDat hx]; simp_all [kindBad]))]; rfl, Lh⟩
   have h33 : ¬ textF x = ByteArray.empty := h33
   refine oWant rfl rfl (oMove rfl (oWant rfl rfl (oFld (n := 0) (m := 0) rfl rfl rfl (oWant rfl rfl (oLd rfl (by repeat constructor) rfl rfl ?_)))))
   refine oWant rfl rfl ?_
   (refine oCall rfl (by kernel_rfl) (fun w hS => frame hS (by repeat' constructor) (fun B' hB hS' => ref5_Params hS' f.fClass)) ?_; rintro ⟨⟩ -)
   refine oWant rfl rfl (oLss rfl rfl (oWant rfl rfl (oMove rfl ?_)))
   first | refine oSplit (t := 39) rfl (fun h39 => ?_) (fun h39 => ?_) | refine oSplitB (t := 39) rfl (fun h39 => ?_) (fun h39 => ?_)
   ·
    refine oWant rfl rfl (oFld (n := 1) (m := 1) rfl rfl rfl (oWant rfl rfl (oLd rfl (by repeat constructor) rfl rfl ?_)))
    refine oWant rfl rfl (oMove rfl (oWant rfl rfl (oIdxE rfl rfl (hE) (by omega) rfl rfl ?_)))
    have hc43 := (hE).cell
    refine oWant rfl rfl ?_
    first | refine oLdX rfl hc43 rfl rfl ?_ | refine oLdXA rfl hc43 rfl (by repeat constructor) ?_ | (refine oLdR1 rfl (by repeat constructor) (by omega) rfl (fun u44 hu44 => ?_))
    refine oWant rfl rfl (oNeq rfl rfl (oWant rfl rfl (oPickT rfl rfl (oPickF rfl rfl (oNil (thn_n (wC (fun h47 => ?_) (fun h47 => ?_))))))))
    ·
     refine wSeq (wRegion' (oAssign rfl (oNil (thn_n (wRet (blk_r (thn_r (thn_r (blk_r (thn_r (fin_r ?_)))))))))))
     refine fi1 rfl ?_
     exact ⟨(), trivial, by unfold slotsF; rw [if_pos hc, if_neg hk1, if_neg hk2, if_pos (any_T (show i < f.fKinds.length by omega) (by rw [getDat hx]; simp_all [kindBad]))]; rfl, Lh⟩
    refine wSkip (blk_n (thn_n (wRegion' (oMove rfl (oSucc rfl rfl (by omega) ?_)))))
    refine oAssign rfl (oNil (thn_n ?_))
    exact ⟨rfl, i + 1, ⟨by omega, fun j hj => by
    by_cases e : j = i
    · subst e; rw [getDat hx]; simp_all [kindBad] <;> omega
    · exact hs j (by omega)⟩, by omega, cv, Lh⟩
   refine oSkip rfl rfl rfl rfl (oSkip rfl rfl rfl rfl (oSkip rfl rfl rfl rfl (oSkip rfl rfl rfl rfl (oSkip rfl rfl rfl rfl (oSkip rfl rfl rfl rfl (oWant rfl rfl (oPickF rfl rfl (oPickF rfl rfl (oNil (thn_n ?_))))))))))
   first | refine wCondF rfl ?_ | refine wCondFd h47 rfl ?_ | refine wCondFb h47 rfl ?_
   refine wSkip (blk_n (thn_n (wRegion' (oMove rfl (oSucc rfl rfl (by omega) ?_)))))
   refine oAssign rfl (oNil (thn_n ?_))
   exact ⟨rfl, i + 1, ⟨by omega, fun j hj => by
   by_cases e : j = i
   · subst e; rw [getDat hx]; simp_all [kindBad] <;> omega
   · exact hs j (by omega)⟩, by omega, cv, Lh⟩
  refine wExit (thn_x (thn_x (blk_x (thn_n (wSeq (wRegion' (oAssign rfl (oNil (thn_n (wRet (fin_r ?_)))))))))))
  refine fi1 rfl ?_
  obtain rfl : i = f.fKinds.length := by omega
  exact ⟨(), trivial, by unfold slotsF; rw [if_pos hc, if_neg hk1, if_neg hk2, if_neg (by rw [any_F hs]; simp)]; rfl, Lh⟩
set_option maxRecDepth 100000 in
set_option maxHeartbeats 600000 in
theorem ref16_code {B : Base} {w : World} (hS : St B [] w) (f : ApiFunc) (fc : List Value) (hf : kApiFunc.K B.e f fc) :
    CallsIn Fence.wide 0 Tryz.prog 254 #[.agg fc.toArray] w (Ret B (fun _ : Unit => True) (fun _ => .int .i64 (codeF f)) (fun _ => [])) := by
  obtain ⟨A0, c0, A1, c1, A2, c2, A3, c3, rfl, l0, g0, l1, g1, l2, g2, l3, g3⟩ := kApiFunc_open hf
  have hcl := g2.1
  (refine enter Tryz.func254 rfl rfl hS ?_; simp only [List.zipIdx_cons, List.zipIdx_nil, List.map_cons, List.map_nil, Nat.reduceAdd, Nat.zero_add])
  refine wSeq (wRegion' (oBox rfl (by repeat constructor) (fun b1 => ?_)))
  refine oAssign rfl (oNil (thn_n (wSeq (wSeq (wRegion' (oFld (n := 7) (m := 7) rfl rfl rfl (oLd rfl (by repeat constructor) rfl rfl ?_)))))))
  (refine oCall rfl (by kernel_rfl) (fun w hS => frame hS (by repeat' constructor) (fun B' hB hS' => ref14_Check hS' A2 c2 f.fCode (Kd.C_grow hB g2))) ?_; rintro ⟨⟩ -)
  refine oAssign rfl (oNil (thn_n (wSeq (wRegion' (oMove rfl (oNeq rfl rfl (oNil (thn_n (wC (fun h10 => ?_) (fun h10 => ?_))))))))))
  ·
   refine wSeq (wRegion' (oMove rfl (oAssign rfl (oNil (thn_n (wRet (thn_r (fin_r (fi1 rfl ?_)))))))))
   exact ⟨(), trivial, by unfold codeF; rw [if_pos h10]; rfl, Lh⟩
  refine wSkip (thn_n (wSeq (wSeq (wRegion' (oAssign rfl (oNil (thn_n (wBlock (wLoop (ι := Nat) (fun i => [(1, .pointer (some ⟨b1, 0, none⟩)), (4, .int .i64 (i : Int))]) (fun i => [blk b1 47 [.int .i64 f.fClass, .slice A0 f.fKinds.length c0, .int .i64 f.fPad, .bool f.fNosplit, .int .i64 f.fFrom, .int .i64 f.fTo, .slice A1 f.fLines.length c1, .slice A2 f.fCode.length c2, .slice A3 f.fRelocs.length c3]]) (fun i => i ≤ f.fCode.length ∧ fstE ((f.fCode.map ceF).take i) = 0) (fun i => f.fCode.length - i) 0 ?_ cv Lh ?_)))))))))
  ·
   exact ⟨Nat.zero_le _, rfl⟩
  rintro i ⟨hi, hs⟩
  try dsimp only
  refine wSeq (wSeq (wRegion' (oMove rfl (oFld (n := 7) (m := 7) rfl rfl rfl (oLd rfl (by repeat constructor) rfl rfl ?_)))))
  refine oLenS rfl rfl (oLss rfl rfl (oNil (thn_n (wC (fun h16 => ?_) (fun h16 => ?_)))))
  ·
   obtain ⟨x, hx⟩ : ∃ x, f.fCode[i]? = some x := ⟨_, List.getElem?_eq_getElem (by omega)⟩
   have hxe : (f.fCode.map ceF)[i]? = some (ceF x) := by rw [List.getElem?_map, hx]; rfl
   obtain ⟨e1, cs1, hE⟩ := g2.elm hx
   obtain rfl := kApiInstr_open hE.K
   refine wSkip (thn_n (wSeq (wBlock (wSeq (wSeq (wRegion' (oFld (n := 7) (m := 7) rfl rfl rfl (oLd rfl (by repeat constructor) rfl rfl ?_))))))))
   refine oMove rfl (oIdxE rfl rfl (hE) (by omega) rfl rfl ?_)
   have hc22 := (hE).cell
   first | refine oLdX rfl hc22 rfl rfl ?_ | refine oLdXA rfl hc22 rfl (by repeat constructor) ?_ | (refine oLdR1 rfl (by repeat constructor) (by omega) rfl (fun u23 hu23 => ?_))
   (refine oCall rfl (by kernel_rfl) (fun w hS => frame hS (by repeat' constructor) (fun B' hB hS' => ref8_Check hS' x _ (kApiInstr_mk _ x))) ?_; rintro ⟨⟩ -)
   refine oAssign rfl (oNil (thn_n (wSeq (wRegion' (oMove rfl (oNeq rfl rfl (oNil (thn_n (wC (fun h26 => ?_) (fun h26 => ?_))))))))))
   ·
    refine wSeq (wRegion' (oMove rfl (oAssign rfl (oNil (thn_n (wRet (thn_r (blk_r (thn_r (thn_r (blk_r ?_)))))))))))
    refine thn_r (fin_r (fi1 rfl ?_))
    exact ⟨(), trivial, by unfold codeF; rw [if_neg h10, fstE_stop hs hxe (by unfold ceF; rw [if_pos h26]; exact h26)]; unfold ceF; rw [if_pos h26]; rfl, Lh⟩
   refine wSkip (thn_n (wSeq (wRegion' (oFld (n := 7) (m := 7) rfl rfl rfl (oLd rfl (by repeat constructor) rfl rfl ?_)))))
   refine oMove rfl (oIdxE rfl rfl (hE) (by omega) rfl rfl ?_)
   have hc31 := (hE).cell
   first | refine oFldX (n := 0) (m := 0) rfl rfl rfl ?_ | refine oFldR (n := 0) (m := 0) rfl rfl rfl ?_ | refine oFldD (n := 0) (m := 0) rfl rfl rfl ?_
   first | refine oLdX rfl hc31 rfl rfl ?_ | refine oLdXA rfl hc31 rfl (by repeat constructor) ?_ | (refine oLdR1 rfl (by repeat constructor) (by omega) rfl (fun u33 hu33 => ?_))
   (refine oCall rfl (by kernel_rfl) (fun w hS => frame hS (by repeat' constructor) (fun B' hB hS' => ref7_Own hS' x.fOp)) ?_; rintro ⟨⟩ -)
   first | refine oNot rfl ?_ | refine oNotB rfl ?_
   refine oNil (thn_n (wC (fun h35 => ?_) (fun h35 => ?_)))
   ·
    refine wSeq (wRegion' (oAssign rfl (oNil (thn_n (wRet (blk_r (thn_r (thn_r (blk_r (thn_r (fin_r ?_)))))))))))
    refine fi1 rfl ?_
    have hce : ceF x = 8 := by unfold ceF; rw [if_neg h26, if_neg (by simpa using h35)]
    exact ⟨(), trivial, by unfold codeF; rw [if_neg h10, fstE_stop hs hxe (by rw [hce]; decide), hce]; rfl, Lh⟩
   refine wSkip (blk_n (thn_n (wRegion' (oMove rfl (oSucc rfl rfl (by omega) ?_)))))
   refine oAssign rfl (oNil (thn_n ?_))
   exact ⟨rfl, i + 1, ⟨by omega, fstE_next hs hxe (by unfold ceF; rw [if_neg h26, if_pos (by simpa using h35)])⟩, by omega, cv, Lh⟩
  refine wExit (thn_x (thn_x (blk_x (thn_n (wSeq (wRegion' (oAssign rfl (oNil (thn_n (wRet (fin_r ?_)))))))))))
  refine fi1 rfl ?_
  obtain rfl : i = f.fCode.length := by omega
  rw [← List.length_map (f := ceF), List.take_length] at hs
  exact ⟨(), trivial, by unfold codeF; rw [if_neg h10, hs]; rfl, Lh⟩
theorem risF_iff {n : Int} : ∀ {last : Int} {l : List Int}, risF n last l = true ↔ ∀ j, j < l.length → (if j = 0 then last else l.getD (j - 1) 0) < l.getD j 0 ∧ l.getD j 0 < n
  | last, [] => by simp [risF]
  | last, a :: l => by
    unfold risF
    have ih := risF_iff (n := n) (last := a) (l := l)
    constructor
    · intro h
      split at h
      · cases h
      · next k =>
        have h2 := ih.1 h
        intro j hj
        cases j with
        | zero => rw [if_pos rfl]; show last < a ∧ a < n; omega
        | succ j =>
          have h3 := h2 j (by simpa using hj)
          rw [if_neg (by omega)]
          cases j with
          | zero => rw [if_pos rfl] at h3; exact h3
          | succ j => rw [if_neg (by omega)] at h3; exact h3
    · intro h
      have h0 := h 0 (by simp)
      rw [if_pos rfl] at h0
      have h0 : last < a ∧ a < n := h0
      rw [if_neg (by omega)]
      refine ih.2 (fun j hj => ?_)
      have h3 := h (j + 1) (by simpa using hj)
      rw [if_neg (by omega)] at h3
      cases j with
      | zero => rw [if_pos rfl]; exact h3
      | succ j => rw [if_neg (by omega)]; exact h3
theorem ris_ge {n : Int} {l : List Int} (h : risF n (-1) l = true) : ∀ j, j < l.length → 0 ≤ l.getD j 0
  | 0, hj => by have := (risF_iff.1 h 0 hj).1; rw [if_pos rfl] at this; omega
  | j + 1, hj => by
    have h1 := ris_ge h j (by omega)
    have := (risF_iff.1 h (j + 1) hj).1
    rw [if_neg (by omega)] at this
    simp only [Nat.add_sub_cancel] at this
    omega
def atBad (n : Int) (l : List Int) (j : Nat) : Prop := l.getD j 0 < 0 ∨ n ≤ l.getD j 0 ∨ (0 < j ∧ l.getD j 0 ≤ l.getD (j - 1) 0)
theorem ris_bad {n : Int} {l : List Int} {j : Nat} (hj : j < l.length) (h : atBad n l j) : risF n (-1) l = false := by
  rw [Bool.eq_false_iff]
  intro hr
  have h1 := risF_iff.1 hr j hj
  have h2 := ris_ge hr j hj
  rcases h with h | h | ⟨h, k⟩
  · omega
  · omega
  · rw [if_neg (by omega)] at h1; omega
theorem ris_good {n : Int} {l : List Int} (h : ∀ j, j < l.length → ¬ atBad n l j) : risF n (-1) l = true := by
  refine risF_iff.2 (fun j hj => ?_)
  have h1 := h j hj
  unfold atBad at h1
  by_cases k : j = 0
  · rw [if_pos k]; omega
  · rw [if_neg k]; omega
abbrev atsL (f : ApiFunc) : List Int := f.fLines.map (·.fAt)
theorem map_getD {α : Type} {l : List α} {g : α → Int} {j : Nat} {x : α} (h : l[j]? = some x) : (l.map g).getD j 0 = g x := by rw [List.getD_eq_getElem?_getD, List.getElem?_map, h]; rfl
def lnBad (f : ApiFunc) (j : Nat) : Prop := (j = 0 ∧ (atsL f).getD 0 0 ≠ 0) ∨ atBad f.fCode.length (atsL f) j ∨ (f.fLines.map (·.fLine)).getD j 0 < 0 ∨ 65535 < (f.fLines.map (·.fLine)).getD j 0
theorem lines_bad {f : ApiFunc} {j : Nat} (h16 : ¬ 16 < f.fLines.length) (hj : j < f.fLines.length) (h : lnBad f j) : linesF f = 9 := by
  unfold linesF
  rw [if_neg h16]
  by_cases ha : f.fLines.any lineBad = true
  · rw [if_pos ha]
  · rw [if_neg ha]
    obtain ⟨x, hx⟩ : ∃ x, f.fLines[j]? = some x := ⟨_, List.getElem?_eq_getElem hj⟩
    rcases h with h | h | h
    · rw [if_pos (.inl h.2)]
    · rw [if_pos (.inr (ris_bad (by rw [List.length_map]; exact hj) h))]
    · rw [map_getD hx] at h
      exact absurd (List.any_eq_true.2 ⟨x, List.mem_of_getElem? hx, decide_eq_true h⟩) ha
theorem lines_good {f : ApiFunc} (h16 : ¬ 16 < f.fLines.length) (h : ∀ j, j < f.fLines.length → ¬ lnBad f j) : linesF f = 0 := by
  unfold linesF
  rw [if_neg h16, if_neg, if_neg]
  · rintro (k | k)
    · by_cases h0 : 0 < f.fLines.length
      · exact h 0 h0 (.inl ⟨rfl, k⟩)
      · have : f.fLines = [] := List.eq_nil_of_length_eq_zero (by omega)
        rw [this] at k; exact k rfl
    · rw [ris_good (fun j hj hb => h j (by rw [List.length_map] at hj; exact hj) (.inr (.inl hb)))] at k; cases k
  · intro k
    obtain ⟨x, hx, hb⟩ := List.any_eq_true.1 k
    obtain ⟨j, hj⟩ := List.getElem?_of_mem hx
    have := h j (List.getElem?_eq_some_iff.1 hj).1
    apply this
    refine .inr (.inr ?_)
    rw [map_getD hj]
    exact of_decide_eq_true hb
theorem ln_iff {f : ApiFunc} {i : Nat} {x pv : ApiLine} (hx : f.fLines[i]? = some x) (hp : 0 < i → f.fLines[i - 1]? = some pv) : lnBad f i ↔ (i = 0 ∧ x.fAt ≠ 0) ∨ (x.fAt < 0 ∨ (f.fCode.length : Int) ≤ x.fAt ∨ (0 < i ∧ x.fAt ≤ pv.fAt)) ∨ x.fLine < 0 ∨ 65535 < x.fLine := by
  unfold lnBad atBad
  have h1 : (atsL f).getD i 0 = x.fAt := map_getD hx
  have h2 : (f.fLines.map (·.fLine)).getD i 0 = x.fLine := map_getD hx
  rw [h1, h2]
  by_cases h0 : 0 < i
  · have h3 : (atsL f).getD (i - 1) 0 = pv.fAt := map_getD (hp h0)
    have : ¬ i = 0 := by omega
    rw [h3]
    simp only [this, false_and]
  · obtain rfl : i = 0 := by omega
    rw [h1]
    simp
set_option maxRecDepth 100000 in
set_option maxHeartbeats 1000000 in
theorem ref16_lines {B : Base} {w : World} (hS : St B [] w) (f : ApiFunc) (fc : List Value) (hf : kApiFunc.K B.e f fc) :
    CallsIn Fence.wide 0 Tryz.prog 255 #[.agg fc.toArray] w (Ret B (fun _ : Unit => True) (fun _ => .int .i64 (linesF f)) (fun _ => [])) := by
  obtain ⟨A0, c0, A1, c1, A2, c2, A3, c3, rfl, l0, g0, l1, g1, l2, g2, l3, g3⟩ := kApiFunc_open hf
  have hcl := g2.1
  (refine enter Tryz.func255 rfl rfl hS ?_; simp only [List.zipIdx_cons, List.zipIdx_nil, List.map_cons, List.map_nil, Nat.reduceAdd, Nat.zero_add])
  refine wSeq (wRegion' (oBox rfl (by repeat constructor) (fun b1 => ?_)))
  refine oAssign rfl (oNil (thn_n (wSeq (wSeq (wRegion' (oFld (n := 6) (m := 6) rfl rfl rfl (oLd rfl (by repeat constructor) rfl rfl ?_)))))))
  refine oLenS rfl rfl (oGtr rfl rfl (oNil (thn_n (wC (fun h8 => ?_) (fun h8 => ?_)))))
  ·
   refine wSeq (wRegion' (oAssign rfl (oNil (thn_n (wRet (thn_r (fin_r (fi1 rfl ?_))))))))
   exact ⟨(), trivial, by unfold linesF; rw [if_pos (by omega)]; rfl, Lh⟩
  have hk0 : ¬ 16 < f.fLines.length := by omega
  refine wSkip (thn_n (wSeq (wSeq (wRegion' (oAssign rfl (oNil (thn_n (wBlock (wLoop (ι := Nat) (fun i => [(1, .pointer (some ⟨b1, 0, none⟩)), (3, .int .i64 (i : Int))]) (fun i => [blk b1 47 [.int .i64 f.fClass, .slice A0 f.fKinds.length c0, .int .i64 f.fPad, .bool f.fNosplit, .int .i64 f.fFrom, .int .i64 f.fTo, .slice A1 f.fLines.length c1, .slice A2 f.fCode.length c2, .slice A3 f.fRelocs.length c3]]) (fun i => i ≤ f.fLines.length ∧ ∀ j, j < i → ¬ lnBad f j) (fun i => f.fLines.length - i) 0 ?_ cv Lh ?_)))))))))
  ·
   exact ⟨Nat.zero_le _, fun j hj => by omega⟩
  rintro i ⟨hi, hs⟩
  try dsimp only
  refine wSeq (wSeq (wRegion' (oMove rfl (oFld (n := 6) (m := 6) rfl rfl rfl (oLd rfl (by repeat constructor) rfl rfl ?_)))))
  refine oLenS rfl rfl (oLss rfl rfl (oNil (thn_n (wC (fun h13 => ?_) (fun h13 => ?_)))))
  ·
   obtain ⟨x, hx⟩ : ∃ x, f.fLines[i]? = some x := ⟨_, List.getElem?_eq_getElem (by omega)⟩
   have hil : i < f.fLines.length := by omega
   obtain ⟨e1, cs1, hE⟩ := g1.elm hx
   obtain rfl := kApiLine_open hE.K
   obtain ⟨pv, hpv⟩ : ∃ y : ApiLine, 0 < i → f.fLines[i - 1]? = some y := by
     by_cases h0 : 0 < i
     · exact ⟨_, fun _ => List.getElem?_eq_getElem (show i - 1 < f.fLines.length by omega)⟩
     · exact ⟨default, fun h => absurd h h0⟩
   have hlb : lnBad f i ↔ (i = 0 ∧ x.fAt ≠ 0) ∨ (x.fAt < 0 ∨ (f.fCode.length : Int) ≤ x.fAt ∨ (0 < i ∧ x.fAt ≤ pv.fAt)) ∨ x.fLine < 0 ∨ 65535 < x.fLine := ln_iff hx hpv
   refine wSkip (thn_n (wSeq (wBlock (wSeq (wRegion' (oFld (n := 6) (m := 6) rfl rfl rfl (oLd rfl (by repeat constructor) rfl rfl ?_)))))))
   refine oMove rfl (oIdxE rfl rfl (hE) (by omega) rfl rfl ?_)
   have hc19 := (hE).cell
   first | refine oLdX rfl hc19 rfl rfl ?_ | refine oLdXA rfl hc19 rfl (by repeat constructor) ?_ | (refine oLdR1 rfl (by repeat constructor) (by omega) rfl (fun u20 hu20 => ?_))
   refine oAlloc rfl (by repeat constructor) (fun b4 => ?_)
   refine oStA rfl rfl rfl rfl (by repeat constructor) (by rfl) ?_
   refine oNil (thn_n (wSeq (wDraw2 rfl rfl [0] [1, 2, 3, 4, 5, 6, 7, 8, 9, 10, 11, 12, 13, 14, 15, 16, 17, 18, 19, 20, 21, 22, 23, 24, 25, 26, 27, 28, 29, 30, 31, 32, 33, 34, 35, 36, 37, 38, 39, 40, 41, 42, 43, 44] 45 (by kernel_rfl) rfl rfl rfl (fun w0 => ?_))))
   refine oEql rfl rfl (oMove rfl ?_)
   first | refine oSplit (t := 23) rfl (fun h23 => ?_) (fun h23 => ?_) | refine oSplitB (t := 23) rfl (fun h23 => ?_) (fun h23 => ?_)
   ·
    refine oWant rfl rfl (oFld (n := 0) (m := 0) rfl rfl rfl (oWant rfl rfl (oLd rfl (by repeat constructor) rfl rfl ?_)))
    refine oWant rfl rfl (oNeq rfl rfl (oPickT rfl rfl (oMove rfl ?_)))
    first | refine oSplit (t := 28) rfl (fun h28 => ?_) (fun h28 => ?_) | refine oSplitB (t := 28) rfl (fun h28 => ?_) (fun h28 => ?_)
    ·
     refine oSkip rfl rfl rfl rfl (oSkip rfl rfl rfl rfl (oSkip rfl rfl rfl rfl (oPickT rfl rfl (oMove rfl (oSkip rfl rfl rfl rfl (oSkip rfl rfl rfl rfl (oSkip rfl rfl rfl rfl (oSkip rfl rfl rfl rfl (oSkip rfl rfl rfl rfl (oSkip rfl rfl rfl rfl (oPickT rfl rfl ?_)))))))))))
     refine oMove rfl (oSkip rfl rfl rfl rfl (oSkip rfl rfl rfl rfl (oSkip rfl rfl rfl rfl (oSkipU rfl rfl rfl (oSkipU rfl rfl rfl (oSkipU rfl rfl rfl (oSkipU rfl rfl rfl (oSkipU rfl rfl rfl (oSkipU rfl rfl rfl (oSkipU rfl rfl rfl (oSkipU rfl rfl rfl ?_)))))))))))
     refine oSkipU rfl rfl rfl (oSkipU rfl rfl rfl (oSkip rfl rfl rfl rfl (oPickT rfl rfl (oMove rfl (oSkip rfl rfl rfl rfl (oSkip rfl rfl rfl rfl (oSkip rfl rfl rfl rfl (oPickT rfl rfl (oMove rfl (oSkip rfl rfl rfl rfl (oSkip rfl rfl rfl rfl ?_)))))))))))
     refine oSkip rfl rfl rfl rfl (oHead (oPickT rfl rfl (oNilT (thn_n ?_))))
     first | refine wCondT rfl ?_ | refine wCondTd h66 rfl ?_ | refine wCondTb h66 rfl ?_
     refine wSeq (wRegion' (oAssign rfl (oNil (thn_n (wRet (blk_r (thn_r (thn_r (blk_r (thn_r (fin_r ?_)))))))))))
     refine fi1 rfl ?_
     exact ⟨(), trivial, by rw [lines_bad hk0 hil (hlb.2 (by simp_all <;> omega))]; rfl, Lh⟩
    refine oWant rfl rfl (oFld (n := 0) (m := 0) rfl rfl rfl (oWant rfl rfl (oLd rfl (by repeat constructor) rfl rfl ?_)))
    refine oWant rfl rfl (oLss rfl rfl (oPickF rfl rfl (oMove rfl ?_)))
    first | refine oSplit (t := 33) rfl (fun h33 => ?_) (fun h33 => ?_) | refine oSplitB (t := 33) rfl (fun h33 => ?_) (fun h33 => ?_)
    ·
     refine oSkip rfl rfl rfl rfl (oSkip rfl rfl rfl rfl (oSkip rfl rfl rfl rfl (oSkip rfl rfl rfl rfl (oSkip rfl rfl rfl rfl (oSkip rfl rfl rfl rfl (oPickT rfl rfl (oMove rfl (oSkip rfl rfl rfl rfl (oSkip rfl rfl rfl rfl (oSkip rfl rfl rfl rfl (oSkipU rfl rfl rfl ?_)))))))))))
     refine oSkipU rfl rfl rfl (oSkipU rfl rfl rfl (oSkipU rfl rfl rfl (oSkipU rfl rfl rfl (oSkipU rfl rfl rfl (oSkipU rfl rfl rfl (oSkipU rfl rfl rfl (oSkipU rfl rfl rfl (oSkipU rfl rfl rfl (oSkip rfl rfl rfl rfl (oPickT rfl rfl (oMove rfl ?_)))))))))))
     refine oSkip rfl rfl rfl rfl (oSkip rfl rfl rfl rfl (oSkip rfl rfl rfl rfl (oPickT rfl rfl (oMove rfl (oSkip rfl rfl rfl rfl (oSkip rfl rfl rfl rfl (oSkip rfl rfl rfl rfl (oHead (oPickT rfl rfl (oNilT (thn_n ?_)))))))))))
     first | refine wCondT rfl ?_ | refine wCondTd h66 rfl ?_ | refine wCondTb h66 rfl ?_
     refine wSeq (wRegion' (oAssign rfl (oNil (thn_n (wRet (blk_r (thn_r (thn_r (blk_r (thn_r (fin_r ?_)))))))))))
     refine fi1 rfl ?_
     exact ⟨(), trivial, by rw [lines_bad hk0 hil (hlb.2 (by simp_all <;> omega))]; rfl, Lh⟩
    refine oWant rfl rfl (oFld (n := 0) (m := 0) rfl rfl rfl (oWant rfl rfl (oLd rfl (by repeat constructor) rfl rfl ?_)))
    refine oWant rfl rfl (oFld (n := 7) (m := 7) rfl rfl rfl (oWant rfl rfl (oLd rfl (by repeat constructor) rfl rfl ?_)))
    refine oWant rfl rfl (oLenS rfl rfl (oWant rfl rfl (oGeq rfl rfl (oPickF rfl rfl (oMove rfl ?_)))))
    first | refine oSplit (t := 41) rfl (fun h41 => ?_) (fun h41 => ?_) | refine oSplitB (t := 41) rfl (fun h41 => ?_) (fun h41 => ?_)
    ·
     refine oSkip rfl rfl rfl rfl (oSkip rfl rfl rfl rfl (oSkip rfl rfl rfl rfl (oSkipU rfl rfl rfl (oSkipU rfl rfl rfl (oSkipU rfl rfl rfl (oSkipU rfl rfl rfl (oSkipU rfl rfl rfl (oSkipU rfl rfl rfl (oSkipU rfl rfl rfl (oSkipU rfl rfl rfl (oSkipU rfl rfl rfl ?_)))))))))))
     refine oSkipU rfl rfl rfl (oSkip rfl rfl rfl rfl (oPickT rfl rfl (oMove rfl (oSkip rfl rfl rfl rfl (oSkip rfl rfl rfl rfl (oSkip rfl rfl rfl rfl (oPickT rfl rfl (oMove rfl (oSkip rfl rfl rfl rfl (oSkip rfl rfl rfl rfl (oSkip rfl rfl rfl rfl ?_)))))))))))
     refine oHead (oPickT rfl rfl (oNilT (thn_n ?_)))
     first | refine wCondT rfl ?_ | refine wCondTd h66 rfl ?_ | refine wCondTb h66 rfl ?_
     refine wSeq (wRegion' (oAssign rfl (oNil (thn_n (wRet (blk_r (thn_r (thn_r (blk_r (thn_r (fin_r ?_)))))))))))
     refine fi1 rfl ?_
     exact ⟨(), trivial, by rw [lines_bad hk0 hil (hlb.2 (by simp_all <;> omega))]; rfl, Lh⟩
    refine oWant rfl rfl (oMove rfl (oWant rfl rfl (oGtr rfl rfl (oWant rfl rfl (oMove rfl ?_)))))
    first | refine oSplit (t := 44) rfl (fun h44 => ?_) (fun h44 => ?_) | refine oSplitB (t := 44) rfl (fun h44 => ?_) (fun h44 => ?_)
    ·
     have hi0 : 0 < i := by omega
     obtain ⟨e2, cs2, hE2⟩ := g1.elm (hpv hi0)
     obtain rfl := kApiLine_open hE2.K
     refine oWant rfl rfl (oFld (n := 0) (m := 0) rfl rfl rfl (oWant rfl rfl (oLd rfl (by repeat constructor) rfl rfl ?_)))
     refine oWant rfl rfl (oFld (n := 6) (m := 6) rfl rfl rfl (oWant rfl rfl (oLd rfl (by repeat constructor) rfl rfl ?_)))
     refine oWant rfl rfl (oMove rfl (oWant rfl rfl (oSub rfl rfl (by omega) ?_)))
     refine oSet (t := 50) (v' := .int .i64 ((i - 1 : Nat) : Int)) rfl (by congr 1; omega) ?_
     refine oWant rfl rfl (oIdxE rfl rfl (hE2) (by omega) rfl rfl ?_)
     have hc51 := (hE2).cell
     refine oWant rfl rfl ?_
     first | refine oFldX (n := 0) (m := 0) rfl rfl rfl ?_ | refine oFldR (n := 0) (m := 0) rfl rfl rfl ?_ | refine oFldD (n := 0) (m := 0) rfl rfl rfl ?_
     refine oWant rfl rfl ?_
     first | refine oLdX rfl hc51 rfl rfl ?_ | refine oLdXA rfl hc51 rfl (by repeat constructor) ?_ | (refine oLdR1 rfl (by repeat constructor) (by omega) rfl (fun u53 hu53 => ?_))
     refine oWant rfl rfl (oLeq rfl rfl (oWant rfl rfl (oPickT rfl rfl (oPickF rfl rfl (oMove rfl ?_)))))
     first | refine oSplit (t := 57) rfl (fun h57 => ?_) (fun h57 => ?_) | refine oSplitB (t := 57) rfl (fun h57 => ?_) (fun h57 => ?_)
     ·
      refine oSkip rfl rfl rfl rfl (oSkip rfl rfl rfl rfl (oSkip rfl rfl rfl rfl (oPickT rfl rfl (oMove rfl (oSkip rfl rfl rfl rfl (oSkip rfl rfl rfl rfl (oSkip rfl rfl rfl rfl (oHead (oPickT rfl rfl (oNilT (thn_n ?_)))))))))))
      first | refine wCondT rfl ?_ | refine wCondTd h66 rfl ?_ | refine wCondTb h66 rfl ?_
      refine wSeq (wRegion' (oAssign rfl (oNil (thn_n (wRet (blk_r (thn_r (thn_r (blk_r (thn_r (fin_r ?_)))))))))))
      refine fi1 rfl ?_
      exact ⟨(), trivial, by rw [lines_bad hk0 hil (hlb.2 (by simp_all <;> omega))]; rfl, Lh⟩
     refine oWant rfl rfl (oFld (n := 1) (m := 1) rfl rfl rfl (oWant rfl rfl (oLd rfl (by repeat constructor) rfl rfl ?_)))
     refine oWant rfl rfl (oLss rfl rfl (oPickF rfl rfl (oMove rfl ?_)))
     first | refine oSplit (t := 62) rfl (fun h62 => ?_) (fun h62 => ?_) | refine oSplitB (t := 62) rfl (fun h62 => ?_) (fun h62 => ?_)
     ·
      refine oSkip rfl rfl rfl rfl (oSkip rfl rfl rfl rfl (oSkip rfl rfl rfl rfl (oHead (oPickT rfl rfl (oNilT (thn_n ?_))))))
      first | refine wCondT rfl ?_ | refine wCondTd h66 rfl ?_ | refine wCondTb h66 rfl ?_
      refine wSeq (wRegion' (oAssign rfl (oNil (thn_n (wRet (blk_r (thn_r (thn_r (blk_r (thn_r (fin_r ?_)))))))))))
      refine fi1 rfl ?_
      exact ⟨(), trivial, by rw [lines_bad hk0 hil (hlb.2 (by simp_all <;> omega))]; rfl, Lh⟩
     refine oWant rfl rfl (oFld (n := 1) (m := 1) rfl rfl rfl (oWant rfl rfl (oLd rfl (by repeat constructor) rfl rfl ?_)))
     refine oWant rfl rfl (oGtr rfl rfl (oHead (oPickF rfl rfl (oNilT (thn_n (wC (fun h66 => ?_) (fun h66 => ?_)))))))
     ·
      refine wSeq (wRegion' (oAssign rfl (oNil (thn_n (wRet (blk_r (thn_r (thn_r (blk_r (thn_r (fin_r ?_)))))))))))
      refine fi1 rfl ?_
      exact ⟨(), trivial, by rw [lines_bad hk0 hil (hlb.2 (by simp_all <;> omega))]; rfl, Lh⟩
     refine wSkip (blk_n (thn_n (wRegion' (oMove rfl (oSucc rfl rfl (by omega) ?_)))))
     refine oAssign rfl (oNil (thn_n ?_))
     exact ⟨rfl, i + 1, ⟨by omega, fun j hj => by
     by_cases e : j = i
     · subst e; rw [hlb]; simp_all <;> omega
     · exact hs j (by omega)⟩, by omega, cv, Lh⟩
    refine oSkip rfl rfl rfl rfl (oSkip rfl rfl rfl rfl (oSkip rfl rfl rfl rfl (oSkip rfl rfl rfl rfl (oSkip rfl rfl rfl rfl (oSkip rfl rfl rfl rfl (oSkip rfl rfl rfl rfl (oSkip rfl rfl rfl rfl (oSkip rfl rfl rfl rfl (oSkip rfl rfl rfl rfl (oWant rfl rfl (oPickF rfl rfl ?_)))))))))))
    refine oPickF rfl rfl (oMove rfl (oWant rfl rfl (oFld (n := 1) (m := 1) rfl rfl rfl (oWant rfl rfl (oLd rfl (by repeat constructor) rfl rfl ?_)))))
    refine oWant rfl rfl (oLss rfl rfl (oPickF rfl rfl (oMove rfl ?_)))
    first | refine oSplit (t := 62) rfl (fun h62 => ?_) (fun h62 => ?_) | refine oSplitB (t := 62) rfl (fun h62 => ?_) (fun h62 => ?_)
    ·
     refine oSkip rfl rfl rfl rfl (oSkip rfl rfl rfl rfl (oSkip rfl rfl rfl rfl (oHead (oPickT rfl rfl (oNilT (thn_n ?_))))))
     first | refine wCondT rfl ?_ | refine wCondTd h66 rfl ?_ | refine wCondTb h66 rfl ?_
     refine wSeq (wRegion' (oAssign rfl (oNil (thn_n (wRet (blk_r (thn_r (thn_r (blk_r (thn_r (fin_r ?_)))))))))))
     refine fi1 rfl ?_
     exact ⟨(), trivial, by rw [lines_bad hk0 hil (hlb.2 (by simp_all <;> omega))]; rfl, Lh⟩
    refine oWant rfl rfl (oFld (n := 1) (m := 1) rfl rfl rfl (oWant rfl rfl (oLd rfl (by repeat constructor) rfl rfl ?_)))
    refine oWant rfl rfl (oGtr rfl rfl (oHead (oPickF rfl rfl (oNilT (thn_n (wC (fun h66 => ?_) (fun h66 => ?_)))))))
    ·
     refine wSeq (wRegion' (oAssign rfl (oNil (thn_n (wRet (blk_r (thn_r (thn_r (blk_r (thn_r (fin_r ?_)))))))))))
     refine fi1 rfl ?_
     exact ⟨(), trivial, by rw [lines_bad hk0 hil (hlb.2 (by simp_all <;> omega))]; rfl, Lh⟩
    refine wSkip (blk_n (thn_n (wRegion' (oMove rfl (oSucc rfl rfl (by omega) ?_)))))
    refine oAssign rfl (oNil (thn_n ?_))
    exact ⟨rfl, i + 1, ⟨by omega, fun j hj => by
    by_cases e : j = i
    · subst e; rw [hlb]; simp_all <;> omega
    · exact hs j (by omega)⟩, by omega, cv, Lh⟩
   refine oSkip rfl rfl rfl rfl (oSkip rfl rfl rfl rfl (oSkip rfl rfl rfl rfl (oPickF rfl rfl (oMove rfl (oWant rfl rfl (oFld (n := 0) (m := 0) rfl rfl rfl (oWant rfl rfl (oLd rfl (by repeat constructor) rfl rfl ?_))))))))
   refine oWant rfl rfl (oLss rfl rfl (oPickF rfl rfl (oMove rfl ?_)))
   first | refine oSplit (t := 33) rfl (fun h33 => ?_) (fun h33 => ?_) | refine oSplitB (t := 33) rfl (fun h33 => ?_) (fun h33 => ?_)
   ·
    refine oSkip rfl rfl rfl rfl (oSkip rfl rfl rfl rfl (oSkip rfl rfl rfl rfl (oSkip rfl rfl rfl rfl (oSkip rfl rfl rfl rfl (oSkip rfl rfl rfl rfl (oPickT rfl rfl (oMove rfl (oSkip rfl rfl rfl rfl (oSkip rfl rfl rfl rfl (oSkip rfl rfl rfl rfl (oSkipU rfl rfl rfl ?_)))))))))))
    refine oSkipU rfl rfl rfl (oSkipU rfl rfl rfl (oSkipU rfl rfl rfl (oSkipU rfl rfl rfl (oSkipU rfl rfl rfl (oSkipU rfl rfl rfl (oSkipU rfl rfl rfl (oSkipU rfl rfl rfl (oSkipU rfl rfl rfl (oSkip rfl rfl rfl rfl (oPickT rfl rfl (oMove rfl ?_)))))))))))
    refine oSkip rfl rfl rfl rfl (oSkip rfl rfl rfl rfl (oSkip rfl rfl rfl rfl (oPickT rfl rfl (oMove rfl (oSkip rfl rfl rfl rfl (oSkip rfl rfl rfl rfl (oSkip rfl rfl rfl rfl (oHead (oPickT rfl rfl (oNilT (thn_n ?_)))))))))))
    first | refine wCondT rfl ?_ | refine wCondTd h66 rfl ?_ | refine wCondTb h66 rfl ?_
    refine wSeq (wRegion' (oAssign rfl (oNil (thn_n (wRet (blk_r (thn_r (thn_r (blk_r (thn_r (fin_r ?_)))))))))))
    refine fi1 rfl ?_
    exact ⟨(), trivial, by rw [lines_bad hk0 hil (hlb.2 (by simp_all <;> omega))]; rfl, Lh⟩
   refine oWant rfl rfl (oFld (n := 0) (m := 0) rfl rfl rfl (oWant rfl rfl (oLd rfl (by repeat constructor) rfl rfl ?_)))
   refine oWant rfl rfl (oFld (n := 7) (m := 7) rfl rfl rfl (oWant rfl rfl (oLd rfl (by repeat constructor) rfl rfl ?_)))
   refine oWant rfl rfl (oLenS rfl rfl (oWant rfl rfl (oGeq rfl rfl (oPickF rfl rfl (oMove rfl ?_)))))
   first | refine oSplit (t := 41) rfl (fun h41 => ?_) (fun h41 => ?_) | refine oSplitB (t := 41) rfl (fun h41 => ?_) (fun h41 => ?_)
   ·
    refine oSkip rfl rfl rfl rfl (oSkip rfl rfl rfl rfl (oSkip rfl rfl rfl rfl (oSkipU rfl rfl rfl (oSkipU rfl rfl rfl (oSkipU rfl rfl rfl (oSkipU rfl rfl rfl (oSkipU rfl rfl rfl (oSkipU rfl rfl rfl (oSkipU rfl rfl rfl (oSkipU rfl rfl rfl (oSkipU rfl rfl rfl ?_)))))))))))
    refine oSkipU rfl rfl rfl (oSkip rfl rfl rfl rfl (oPickT rfl rfl (oMove rfl (oSkip rfl rfl rfl rfl (oSkip rfl rfl rfl rfl (oSkip rfl rfl rfl rfl (oPickT rfl rfl (oMove rfl (oSkip rfl rfl rfl rfl (oSkip rfl rfl rfl rfl (oSkip rfl rfl rfl rfl ?_)))))))))))
    refine oHead (oPickT rfl rfl (oNilT (thn_n ?_)))
    first | refine wCondT rfl ?_ | refine wCondTd h66 rfl ?_ | refine wCondTb h66 rfl ?_
    refine wSeq (wRegion' (oAssign rfl (oNil (thn_n (wRet (blk_r (thn_r (thn_r (blk_r (thn_r (fin_r ?_)))))))))))
    refine fi1 rfl ?_
    exact ⟨(), trivial, by rw [lines_bad hk0 hil (hlb.2 (by simp_all <;> omega))]; rfl, Lh⟩
   refine oWant rfl rfl (oMove rfl (oWant rfl rfl (oGtr rfl rfl (oWant rfl rfl (oMove rfl ?_)))))
   first | refine oSplit (t := 44) rfl (fun h44 => ?_) (fun h44 => ?_) | refine oSplitB (t := 44) rfl (fun h44 => ?_) (fun h44 => ?_)
   ·
    have hi0 : 0 < i := by omega
    obtain ⟨e2, cs2, hE2⟩ := g1.elm (hpv hi0)
    obtain rfl := kApiLine_open hE2.K
    refine oWant rfl rfl (oFld (n := 0) (m := 0) rfl rfl rfl (oWant rfl rfl (oLd rfl (by repeat constructor) rfl rfl ?_)))
    refine oWant rfl rfl (oFld (n := 6) (m := 6) rfl rfl rfl (oWant rfl rfl (oLd rfl (by repeat constructor) rfl rfl ?_)))
    refine oWant rfl rfl (oMove rfl (oWant rfl rfl (oSub rfl rfl (by omega) ?_)))
    refine oSet (t := 50) (v' := .int .i64 ((i - 1 : Nat) : Int)) rfl (by congr 1; omega) ?_
    refine oWant rfl rfl (oIdxE rfl rfl (hE2) (by omega) rfl rfl ?_)
    have hc51 := (hE2).cell
    refine oWant rfl rfl ?_
    first | refine oFldX (n := 0) (m := 0) rfl rfl rfl ?_ | refine oFldR (n := 0) (m := 0) rfl rfl rfl ?_ | refine oFldD (n := 0) (m := 0) rfl rfl rfl ?_
    refine oWant rfl rfl ?_
    first | refine oLdX rfl hc51 rfl rfl ?_ | refine oLdXA rfl hc51 rfl (by repeat constructor) ?_ | (refine oLdR1 rfl (by repeat constructor) (by omega) rfl (fun u53 hu53 => ?_))
    refine oWant rfl rfl (oLeq rfl rfl (oWant rfl rfl (oPickT rfl rfl (oPickF rfl rfl (oMove rfl ?_)))))
    first | refine oSplit (t := 57) rfl (fun h57 => ?_) (fun h57 => ?_) | refine oSplitB (t := 57) rfl (fun h57 => ?_) (fun h57 => ?_)
    ·
     refine oSkip rfl rfl rfl rfl (oSkip rfl rfl rfl rfl (oSkip rfl rfl rfl rfl (oPickT rfl rfl (oMove rfl (oSkip rfl rfl rfl rfl (oSkip rfl rfl rfl rfl (oSkip rfl rfl rfl rfl (oHead (oPickT rfl rfl (oNilT (thn_n ?_)))))))))))
     first | refine wCondT rfl ?_ | refine wCondTd h66 rfl ?_ | refine wCondTb h66 rfl ?_
     refine wSeq (wRegion' (oAssign rfl (oNil (thn_n (wRet (blk_r (thn_r (thn_r (blk_r (thn_r (fin_r ?_)))))))))))
     refine fi1 rfl ?_
     exact ⟨(), trivial, by rw [lines_bad hk0 hil (hlb.2 (by simp_all <;> omega))]; rfl, Lh⟩
    refine oWant rfl rfl (oFld (n := 1) (m := 1) rfl rfl rfl (oWant rfl rfl (oLd rfl (by repeat constructor) rfl rfl ?_)))
    refine oWant rfl rfl (oLss rfl rfl (oPickF rfl rfl (oMove rfl ?_)))
    first | refine oSplit (t := 62) rfl (fun h62 => ?_) (fun h62 => ?_) | refine oSplitB (t := 62) rfl (fun h62 => ?_) (fun h62 => ?_)
    ·
     refine oSkip rfl rfl rfl rfl (oSkip rfl rfl rfl rfl (oSkip rfl rfl rfl rfl (oHead (oPickT rfl rfl (oNilT (thn_n ?_))))))
     first | refine wCondT rfl ?_ | refine wCondTd h66 rfl ?_ | refine wCondTb h66 rfl ?_
     refine wSeq (wRegion' (oAssign rfl (oNil (thn_n (wRet (blk_r (thn_r (thn_r (blk_r (thn_r (fin_r ?_)))))))))))
     refine fi1 rfl ?_
     exact ⟨(), trivial, by rw [lines_bad hk0 hil (hlb.2 (by simp_all <;> omega))]; rfl, Lh⟩
    refine oWant rfl rfl (oFld (n := 1) (m := 1) rfl rfl rfl (oWant rfl rfl (oLd rfl (by repeat constructor) rfl rfl ?_)))
    refine oWant rfl rfl (oGtr rfl rfl (oHead (oPickF rfl rfl (oNilT (thn_n (wC (fun h66 => ?_) (fun h66 => ?_)))))))
    ·
     refine wSeq (wRegion' (oAssign rfl (oNil (thn_n (wRet (blk_r (thn_r (thn_r (blk_r (thn_r (fin_r ?_)))))))))))
     refine fi1 rfl ?_
     exact ⟨(), trivial, by rw [lines_bad hk0 hil (hlb.2 (by simp_all <;> omega))]; rfl, Lh⟩
    refine wSkip (blk_n (thn_n (wRegion' (oMove rfl (oSucc rfl rfl (by omega) ?_)))))
    refine oAssign rfl (oNil (thn_n ?_))
    exact ⟨rfl, i + 1, ⟨by omega, fun j hj => by
    by_cases e : j = i
    · subst e; rw [hlb]; simp_all <;> omega
    · exact hs j (by omega)⟩, by omega, cv, Lh⟩
   refine oSkip rfl rfl rfl rfl (oSkip rfl rfl rfl rfl (oSkip rfl rfl rfl rfl (oSkip rfl rfl rfl rfl (oSkip rfl rfl rfl rfl (oSkip rfl rfl rfl rfl (oSkip rfl rfl rfl rfl (oSkip rfl rfl rfl rfl (oSkip rfl rfl rfl rfl (oSkip rfl rfl rfl rfl (oWant rfl rfl (oPickF rfl rfl ?_)))))))))))
   refine oPickF rfl rfl (oMove rfl (oWant rfl rfl (oFld (n := 1) (m := 1) rfl rfl rfl (oWant rfl rfl (oLd rfl (by repeat constructor) rfl rfl ?_)))))
   refine oWant rfl rfl (oLss rfl rfl (oPickF rfl rfl (oMove rfl ?_)))
   first | refine oSplit (t := 62) rfl (fun h62 => ?_) (fun h62 => ?_) | refine oSplitB (t := 62) rfl (fun h62 => ?_) (fun h62 => ?_)
   ·
    refine oSkip rfl rfl rfl rfl (oSkip rfl rfl rfl rfl (oSkip rfl rfl rfl rfl (oHead (oPickT rfl rfl (oNilT (thn_n ?_))))))
    first | refine wCondT rfl ?_ | refine wCondTd h66 rfl ?_ | refine wCondTb h66 rfl ?_
    refine wSeq (wRegion' (oAssign rfl (oNil (thn_n (wRet (blk_r (thn_r (thn_r (blk_r (thn_r (fin_r ?_)))))))))))
    refine fi1 rfl ?_
    exact ⟨(), trivial, by rw [lines_bad hk0 hil (hlb.2 (by simp_all <;> omega))]; rfl, Lh⟩
   refine oWant rfl rfl (oFld (n := 1) (m := 1) rfl rfl rfl (oWant rfl rfl (oLd rfl (by repeat constructor) rfl rfl ?_)))
   refine oWant rfl rfl (oGtr rfl rfl (oHead (oPickF rfl rfl (oNilT (thn_n (wC (fun h66 => ?_) (fun h66 => ?_)))))))
   ·
    refine wSeq (wRegion' (oAssign rfl (oNil (thn_n (wRet (blk_r (thn_r (thn_r (blk_r (thn_r (fin_r ?_)))))))))))
    refine fi1 rfl ?_
    exact ⟨(), trivial, by rw [lines_bad hk0 hil (hlb.2 (by simp_all <;> omega))]; rfl, Lh⟩
   refine wSkip (blk_n (thn_n (wRegion' (oMove rfl (oSucc rfl rfl (by omega) ?_)))))
   refine oAssign rfl (oNil (thn_n ?_))
   exact ⟨rfl, i + 1, ⟨by omega, fun j hj => by
   by_cases e : j = i
   · subst e; rw [hlb]; simp_all <;> omega
   · exact hs j (by omega)⟩, by omega, cv, Lh⟩
  refine wExit (thn_x (thn_x (blk_x (thn_n (wSeq (wRegion' (oAssign rfl (oNil (thn_n (wRet (fin_r ?_)))))))))))
  refine fi1 rfl ?_
  obtain rfl : i = f.fLines.length := by omega
  exact ⟨(), trivial, by rw [lines_good hk0 hs]; rfl, Lh⟩
def rlBad (f : ApiFunc) (j : Nat) : Prop := atBad f.fCode.length (f.fRelocs.map (·.fAt)) j ∨ (f.fRelocs.map (·.fSym)).getD j 0 < 0 ∨ 32 ≤ (f.fRelocs.map (·.fSym)).getD j 0
theorem relocs_bad {f : ApiFunc} {j : Nat} (hj : j < f.fRelocs.length) (h : rlBad f j) : relocsF f = 11 := by
  unfold relocsF
  by_cases ha : f.fRelocs.any relBad = true
  · rw [if_pos ha]
  · rw [if_neg ha]
    obtain ⟨x, hx⟩ : ∃ x, f.fRelocs[j]? = some x := ⟨_, List.getElem?_eq_getElem hj⟩
    rcases h with h | h
    · rw [ris_bad (by rw [List.length_map]; exact hj) h]; rfl
    · rw [map_getD hx] at h
      exact absurd (List.any_eq_true.2 ⟨x, List.mem_of_getElem? hx, decide_eq_true h⟩) ha
theorem relocs_good {f : ApiFunc} (h : ∀ j, j < f.fRelocs.length → ¬ rlBad f j) : relocsF f = 0 := by
  unfold relocsF
  rw [if_neg, ris_good (fun j hj hb => h j (by rw [List.length_map] at hj; exact hj) (.inl hb)), if_pos rfl]
  intro k
  obtain ⟨x, hx, hb⟩ := List.any_eq_true.1 k
  obtain ⟨j, hj⟩ := List.getElem?_of_mem hx
  refine h j (List.getElem?_eq_some_iff.1 hj).1 (.inr ?_)
  rw [map_getD hj]
  exact of_decide_eq_true hb
theorem rl_iff {f : ApiFunc} {i : Nat} {x pv : ApiReloc} (hx : f.fRelocs[i]? = some x) (hp : 0 < i → f.fRelocs[i - 1]? = some pv) : rlBad f i ↔ (x.fAt < 0 ∨ (f.fCode.length : Int) ≤ x.fAt ∨ (0 < i ∧ x.fAt ≤ pv.fAt)) ∨ x.fSym < 0 ∨ 32 ≤ x.fSym := by
  unfold rlBad atBad
  have h1 : (f.fRelocs.map (·.fAt)).getD i 0 = x.fAt := map_getD hx
  have h2 : (f.fRelocs.map (·.fSym)).getD i 0 = x.fSym := map_getD hx
  rw [h1, h2]
  by_cases h0 : 0 < i
  · have h3 : (f.fRelocs.map (·.fAt)).getD (i - 1) 0 = pv.fAt := map_getD (hp h0)
    rw [h3]
  · obtain rfl : i = 0 := by omega
    simp
set_option maxRecDepth 100000 in
set_option maxHeartbeats 1000000 in
theorem ref16_Check {B : Base} {w : World} (hS : St B [] w) (f : ApiFunc) (fc : List Value) (hf : kApiFunc.K B.e f fc) (hv : ∀ y ∈ f.fKinds, in64 y) :
    CallsIn Fence.wide 0 Tryz.prog 215 #[.agg fc.toArray] w (Ret B (fun _ : Unit => True) (fun _ => .int .i64 (funF f)) (fun _ => [])) := by
  obtain ⟨A0, c0, A1, c1, A2, c2, A3, c3, rfl, l0, g0, l1, g1, l2, g2, l3, g3⟩ := kApiFunc_open hf
  have hrl := g3.1
  (refine enter Tryz.func215 rfl rfl hS ?_; simp only [List.zipIdx_cons, List.zipIdx_nil, List.map_cons, List.map_nil, Nat.reduceAdd, Nat.zero_add])
  refine wSeq (wRegion' (oBox rfl (by repeat constructor) (fun b1 => ?_)))
  refine oAssign rfl (oNil (thn_n (wSeq (wSeq (wRegion' (oLdA rfl (by repeat constructor) rfl (by repeat constructor) ?_))))))
  (refine oCall rfl (by kernel_rfl) (fun w hS => frame hS (by repeat' constructor) (fun B' hB hS' => ref16_slots hS' f _ (kApiFunc.K_grow hB hf) hv)) ?_; rintro ⟨⟩ -)
  refine oAssign rfl (oNil (thn_n (wSeq (wRegion' (oMove rfl (oNeq rfl rfl (oNil (thn_n (wC (fun h11 => ?_) (fun h11 => ?_))))))))))
  ·
   refine wSeq (wRegion' (oMove rfl (oAssign rfl (oNil (thn_n (wRet (thn_r (fin_r (fi1 rfl ?_)))))))))
   exact ⟨(), trivial, by unfold funF; rw [if_pos h11]; rfl, Lh⟩
  refine wSkip (thn_n (wSeq (wSeq (wRegion' (oFld (n := 2) (m := 2) rfl rfl rfl (oLd rfl (by repeat constructor) rfl rfl ?_))))))
  refine oLss rfl rfl (oMove rfl ?_)
  first | refine oSplit (t := 16) rfl (fun h16 => ?_) (fun h16 => ?_) | refine oSplitB (t := 16) rfl (fun h16 => ?_) (fun h16 => ?_)
  ·
   refine oSkip rfl rfl rfl rfl (oSkip rfl rfl rfl rfl (oSkip rfl rfl rfl rfl (oPickT rfl rfl (oNil (thn_n ?_)))))
   first | refine wCondT rfl ?_ | refine wCondTd h20 rfl ?_ | refine wCondTb h20 rfl ?_
   refine wSeq (wRegion' (oAssign rfl (oNil (thn_n (wRet (thn_r (fin_r (fi1 rfl ?_))))))))
   exact ⟨(), trivial, by unfold funF; rw [if_neg h11, if_pos (by omega)]; rfl, Lh⟩
  refine oWant rfl rfl (oFld (n := 2) (m := 2) rfl rfl rfl (oWant rfl rfl (oLd rfl (by repeat constructor) rfl rfl ?_)))
  refine oWant rfl rfl (oGtr rfl rfl (oPickF rfl rfl (oNil (thn_n (wC (fun h20 => ?_) (fun h20 => ?_))))))
  ·
   refine wSeq (wRegion' (oAssign rfl (oNil (thn_n (wRet (thn_r (fin_r (fi1 rfl ?_))))))))
   exact ⟨(), trivial, by unfold funF; rw [if_neg h11, if_pos (by omega)]; rfl, Lh⟩
  refine wSkip (thn_n (wSeq (wSeq (wRegion' (oLdA rfl (by repeat constructor) rfl (by repeat constructor) ?_)))))
  (refine oCall rfl (by kernel_rfl) (fun w hS => frame hS (by repeat' constructor) (fun B' hB hS' => ref16_code hS' f _ (kApiFunc.K_grow hB hf))) ?_; rintro ⟨⟩ -)
  refine oAssign rfl (oNil (thn_n (wSeq (wRegion' (oMove rfl (oNeq rfl rfl (oNil (thn_n (wC (fun h24 => ?_) (fun h24 => ?_))))))))))
  ·
   refine wSeq (wRegion' (oMove rfl (oAssign rfl (oNil (thn_n (wRet (thn_r (fin_r (fi1 rfl ?_)))))))))
   exact ⟨(), trivial, by unfold funF; rw [if_neg h11, if_neg (by omega), if_pos h24]; rfl, Lh⟩
  refine wSkip (thn_n (wSeq (wSeq (wRegion' (oFld (n := 4) (m := 4) rfl rfl rfl (oLd rfl (by repeat constructor) rfl rfl ?_))))))
  refine oLss rfl rfl (oMove rfl ?_)
  first | refine oSplit (t := 29) rfl (fun h29 => ?_) (fun h29 => ?_) | refine oSplitB (t := 29) rfl (fun h29 => ?_) (fun h29 => ?_)
  ·
   refine oSkip rfl rfl rfl rfl (oSkip rfl rfl rfl rfl (oSkip rfl rfl rfl rfl (oSkip rfl rfl rfl rfl (oSkip rfl rfl rfl rfl (oPickT rfl rfl (oMove rfl (oSkip rfl rfl rfl rfl (oSkip rfl rfl rfl rfl (oSkip rfl rfl rfl rfl (oSkip rfl rfl rfl rfl (oSkip rfl rfl rfl rfl ?_)))))))))))
   refine oSkip rfl rfl rfl rfl (oPickT rfl rfl (oNil (thn_n ?_)))
   first | refine wCondT rfl ?_ | refine wCondTd h43 rfl ?_ | refine wCondTb h43 rfl ?_
   refine wSeq (wRegion' (oAssign rfl (oNil (thn_n (wRet (thn_r (fin_r (fi1 rfl ?_))))))))
   exact ⟨(), trivial, by unfold funF; rw [if_neg h11, if_neg (by omega), if_neg h24, if_pos (by omega)]; rfl, Lh⟩
  refine oWant rfl rfl (oFld (n := 5) (m := 5) rfl rfl rfl (oWant rfl rfl (oLd rfl (by repeat constructor) rfl rfl ?_)))
  refine oWant rfl rfl (oFld (n := 4) (m := 4) rfl rfl rfl (oWant rfl rfl (oLd rfl (by repeat constructor) rfl rfl ?_)))
  refine oWant rfl rfl (oLss rfl rfl (oPickF rfl rfl (oMove rfl ?_)))
  first | refine oSplit (t := 36) rfl (fun h36 => ?_) (fun h36 => ?_) | refine oSplitB (t := 36) rfl (fun h36 => ?_) (fun h36 => ?_)
  ·
   refine oSkip rfl rfl rfl rfl (oSkip rfl rfl rfl rfl (oSkip rfl rfl rfl rfl (oSkip rfl rfl rfl rfl (oSkip rfl rfl rfl rfl (oSkip rfl rfl rfl rfl (oPickT rfl rfl (oNil (thn_n ?_))))))))
   first | refine wCondT rfl ?_ | refine wCondTd h43 rfl ?_ | refine wCondTb h43 rfl ?_
   refine wSeq (wRegion' (oAssign rfl (oNil (thn_n (wRet (thn_r (fin_r (fi1 rfl ?_))))))))
   exact ⟨(), trivial, by unfold funF; rw [if_neg h11, if_neg (by omega), if_neg h24, if_pos (by omega)]; rfl, Lh⟩
  refine oWant rfl rfl (oFld (n := 5) (m := 5) rfl rfl rfl (oWant rfl rfl (oLd rfl (by repeat constructor) rfl rfl ?_)))
  refine oWant rfl rfl (oFld (n := 7) (m := 7) rfl rfl rfl (oWant rfl rfl (oLd rfl (by repeat constructor) rfl rfl ?_)))
  refine oWant rfl rfl (oLenS rfl rfl (oWant rfl rfl (oGtr rfl rfl (oPickF rfl rfl (oNil (thn_n (wC (fun h43 => ?_) (fun h43 => ?_))))))))
  ·
   refine wSeq (wRegion' (oAssign rfl (oNil (thn_n (wRet (thn_r (fin_r (fi1 rfl ?_))))))))
   exact ⟨(), trivial, by unfold funF; rw [if_neg h11, if_neg (by omega), if_neg h24, if_pos (by omega)]; rfl, Lh⟩
  refine wSkip (thn_n (wSeq (wSeq (wRegion' (oLdA rfl (by repeat constructor) rfl (by repeat constructor) ?_)))))
  (refine oCall rfl (by kernel_rfl) (fun w hS => frame hS (by repeat' constructor) (fun B' hB hS' => ref16_lines hS' f _ (kApiFunc.K_grow hB hf))) ?_; rintro ⟨⟩ -)
  refine oAssign rfl (oNil (thn_n (wSeq (wRegion' (oMove rfl (oNeq rfl rfl (oNil (thn_n (wC (fun h47 => ?_) (fun h47 => ?_))))))))))
  ·
   refine wSeq (wRegion' (oMove rfl (oAssign rfl (oNil (thn_n (wRet (thn_r (fin_r (fi1 rfl ?_)))))))))
   exact ⟨(), trivial, by unfold funF; rw [if_neg h11, if_neg (by omega), if_neg h24, if_neg (by omega), if_pos h47]; rfl, Lh⟩
  have hfr : funF f = relocsF f := by unfold funF; rw [if_neg h11, if_neg (by omega), if_neg h24, if_neg (by omega), if_neg h47]
  refine wSkip (thn_n (wSeq (wSeq (wRegion' (oAssign rfl (oNil (thn_n (wBlock (wLoop (ι := Nat) (fun i => [(1, .pointer (some ⟨b1, 0, none⟩)), (6, .int .i64 (i : Int))]) (fun i => [blk b1 47 [.int .i64 f.fClass, .slice A0 f.fKinds.length c0, .int .i64 f.fPad, .bool f.fNosplit, .int .i64 f.fFrom, .int .i64 f.fTo, .slice A1 f.fLines.length c1, .slice A2 f.fCode.length c2, .slice A3 f.fRelocs.length c3]]) (fun i => i ≤ f.fRelocs.length ∧ ∀ j, j < i → ¬ rlBad f j) (fun i => f.fRelocs.length - i) 0 ?_ cv Lh ?_)))))))))
  ·
   exact ⟨Nat.zero_le _, fun j hj => by omega⟩
  rintro i ⟨hi, hs⟩
  try dsimp only
  refine wSeq (wSeq (wRegion' (oMove rfl (oFld (n := 8) (m := 8) rfl rfl rfl (oLd rfl (by repeat constructor) rfl rfl ?_)))))
  refine oLenS rfl rfl (oLss rfl rfl (oNil (thn_n (wC (fun h53 => ?_) (fun h53 => ?_)))))
  ·
   obtain ⟨x, hx⟩ : ∃ x, f.fRelocs[i]? = some x := ⟨_, List.getElem?_eq_getElem (by omega)⟩
   have hil : i < f.fRelocs.length := by omega
   obtain ⟨e1, cs1, hE⟩ := g3.elm hx
   obtain rfl := kApiReloc_open hE.K
   obtain ⟨pv, hpv⟩ : ∃ y : ApiReloc, 0 < i → f.fRelocs[i - 1]? = some y := by
     by_cases h0 : 0 < i
     · exact ⟨_, fun _ => List.getElem?_eq_getElem (show i - 1 < f.fRelocs.length by omega)⟩
     · exact ⟨default, fun h => absurd h h0⟩
   have hlb : rlBad f i ↔ (x.fAt < 0 ∨ (f.fCode.length : Int) ≤ x.fAt ∨ (0 < i ∧ x.fAt ≤ pv.fAt)) ∨ x.fSym < 0 ∨ 32 ≤ x.fSym := rl_iff hx hpv
   refine wSkip (thn_n (wSeq (wBlock (wSeq (wRegion' (oFld (n := 8) (m := 8) rfl rfl rfl (oLd rfl (by repeat constructor) rfl rfl ?_)))))))
   refine oMove rfl (oIdxE rfl rfl (hE) (by omega) rfl rfl ?_)
   have hc59 := (hE).cell
   first | refine oFldX (n := 0) (m := 0) rfl rfl rfl ?_ | refine oFldR (n := 0) (m := 0) rfl rfl rfl ?_ | refine oFldD (n := 0) (m := 0) rfl rfl rfl ?_
   first | refine oLdX rfl hc59 rfl rfl ?_ | refine oLdXA rfl hc59 rfl (by repeat constructor) ?_ | (refine oLdR1 rfl (by repeat constructor) (by omega) rfl (fun u61 hu61 => ?_))
   refine oAssign rfl (oNil (thn_n (wSeq (wRegion' (oMove rfl (oLss rfl rfl (oMove rfl ?_)))))))
   first | refine oSplit (t := 64) rfl (fun h64 => ?_) (fun h64 => ?_) | refine oSplitB (t := 64) rfl (fun h64 => ?_) (fun h64 => ?_)
   ·
    refine oSkip rfl rfl rfl rfl (oSkip rfl rfl rfl rfl (oSkip rfl rfl rfl rfl (oSkip rfl rfl rfl rfl (oSkip rfl rfl rfl rfl (oPickT rfl rfl (oMove rfl (oSkip rfl rfl rfl rfl (oSkip rfl rfl rfl rfl (oSkip rfl rfl rfl rfl (oSkipU rfl rfl rfl (oSkipU rfl rfl rfl ?_)))))))))))
    refine oSkipU rfl rfl rfl (oSkipU rfl rfl rfl (oSkipU rfl rfl rfl (oSkipU rfl rfl rfl (oSkipU rfl rfl rfl (oSkipU rfl rfl rfl (oSkipU rfl rfl rfl (oSkip rfl rfl rfl rfl (oPickT rfl rfl (oMove rfl (oSkip rfl rfl rfl rfl (oSkip rfl rfl rfl rfl ?_)))))))))))
    refine oSkip rfl rfl rfl rfl (oSkip rfl rfl rfl rfl (oSkip rfl rfl rfl rfl (oSkip rfl rfl rfl rfl (oSkip rfl rfl rfl rfl (oPickT rfl rfl (oMove rfl (oSkip rfl rfl rfl rfl (oSkip rfl rfl rfl rfl (oSkip rfl rfl rfl rfl (oSkip rfl rfl rfl rfl (oSkip rfl rfl rfl rfl ?_)))))))))))
    refine oSkip rfl rfl rfl rfl (oSkip rfl rfl rfl rfl (oPickT rfl rfl (oNil (thn_n ?_))))
    first | refine wCondT rfl ?_ | refine wCondTd h103 rfl ?_ | refine wCondTb h103 rfl ?_
    refine wSeq (wRegion' (oAssign rfl (oNil (thn_n (wRet (blk_r (thn_r (thn_r (blk_r (thn_r (fin_r ?_)))))))))))
    refine fi1 rfl ?_
    exact ⟨(), trivial, by rw [hfr, relocs_bad hil (hlb.2 (by simp_all <;> omega))]; rfl, Lh⟩
   refine oWant rfl rfl (oMove rfl (oWant rfl rfl (oFld (n := 7) (m := 7) rfl rfl rfl (oWant rfl rfl (oLd rfl (by repeat constructor) rfl rfl ?_)))))
   refine oWant rfl rfl (oLenS rfl rfl (oWant rfl rfl (oGeq rfl rfl (oPickF rfl rfl (oMove rfl ?_)))))
   first | refine oSplit (t := 71) rfl (fun h71 => ?_) (fun h71 => ?_) | refine oSplitB (t := 71) rfl (fun h71 => ?_) (fun h71 => ?_)
   ·
    refine oSkip rfl rfl rfl rfl (oSkip rfl rfl rfl rfl (oSkip rfl rfl rfl rfl (oSkipU rfl rfl rfl (oSkipU rfl rfl rfl (oSkipU rfl rfl rfl (oSkipU rfl rfl rfl (oSkipU rfl rfl rfl (oSkipU rfl rfl rfl (oSkipU rfl rfl rfl (oSkipU rfl rfl rfl (oSkipU rfl rfl rfl ?_)))))))))))
    refine oSkip rfl rfl rfl rfl (oPickT rfl rfl (oMove rfl (oSkip rfl rfl rfl rfl (oSkip rfl rfl rfl rfl (oSkip rfl rfl rfl rfl (oSkip rfl rfl rfl rfl (oSkip rfl rfl rfl rfl (oSkip rfl rfl rfl rfl (oSkip rfl rfl rfl rfl (oPickT rfl rfl (oMove rfl ?_)))))))))))
    refine oSkip rfl rfl rfl rfl (oSkip rfl rfl rfl rfl (oSkip rfl rfl rfl rfl (oSkip rfl rfl rfl rfl (oSkip rfl rfl rfl rfl (oSkip rfl rfl rfl rfl (oSkip rfl rfl rfl rfl (oPickT rfl rfl (oNil (thn_n ?_)))))))))
    first | refine wCondT rfl ?_ | refine wCondTd h103 rfl ?_ | refine wCondTb h103 rfl ?_
    refine wSeq (wRegion' (oAssign rfl (oNil (thn_n (wRet (blk_r (thn_r (thn_r (blk_r (thn_r (fin_r ?_)))))))))))
    refine fi1 rfl ?_
    exact ⟨(), trivial, by rw [hfr, relocs_bad hil (hlb.2 (by simp_all <;> omega))]; rfl, Lh⟩
   refine oWant rfl rfl (oMove rfl (oWant rfl rfl (oGtr rfl rfl (oWant rfl rfl (oMove rfl ?_)))))
   first | refine oSplit (t := 74) rfl (fun h74 => ?_) (fun h74 => ?_) | refine oSplitB (t := 74) rfl (fun h74 => ?_) (fun h74 => ?_)
   ·
    have hi0 : 0 < i := by omega
    obtain ⟨e2, cs2, hE2⟩ := g3.elm (hpv hi0)
    obtain rfl := kApiReloc_open hE2.K
    refine oWant rfl rfl (oMove rfl (oWant rfl rfl (oFld (n := 8) (m := 8) rfl rfl rfl (oWant rfl rfl (oLd rfl (by repeat constructor) rfl rfl ?_)))))
    refine oWant rfl rfl (oMove rfl (oWant rfl rfl (oSub rfl rfl (by omega) ?_)))
    refine oSet (t := 79) (v' := .int .i64 ((i - 1 : Nat) : Int)) rfl (by congr 1; omega) ?_
    refine oWant rfl rfl (oIdxE rfl rfl (hE2) (by omega) rfl rfl ?_)
    have hc80 := (hE2).cell
    refine oWant rfl rfl ?_
    first | refine oFldX (n := 0) (m := 0) rfl rfl rfl ?_ | refine oFldR (n := 0) (m := 0) rfl rfl rfl ?_ | refine oFldD (n := 0) (m := 0) rfl rfl rfl ?_
    refine oWant rfl rfl ?_
    first | refine oLdX rfl hc80 rfl rfl ?_ | refine oLdXA rfl hc80 rfl (by repeat constructor) ?_ | (refine oLdR1 rfl (by repeat constructor) (by omega) rfl (fun u82 hu82 => ?_))
    refine oWant rfl rfl (oLeq rfl rfl (oWant rfl rfl (oPickT rfl rfl (oPickF rfl rfl (oMove rfl ?_)))))
    first | refine oSplit (t := 86) rfl (fun h86 => ?_) (fun h86 => ?_) | refine oSplitB (t := 86) rfl (fun h86 => ?_) (fun h86 => ?_)
    ·
     refine oSkip rfl rfl rfl rfl (oSkip rfl rfl rfl rfl (oSkip rfl rfl rfl rfl (oSkip rfl rfl rfl rfl (oSkip rfl rfl rfl rfl (oSkip rfl rfl rfl rfl (oSkip rfl rfl rfl rfl (oPickT rfl rfl (oMove rfl (oSkip rfl rfl rfl rfl (oSkip rfl rfl rfl rfl (oSkip rfl rfl rfl rfl ?_)))))))))))
     refine oSkip rfl rfl rfl rfl (oSkip rfl rfl rfl rfl (oSkip rfl rfl rfl rfl (oSkip rfl rfl rfl rfl (oPickT rfl rfl (oNil (thn_n ?_))))))
     first | refine wCondT rfl ?_ | refine wCondTd h103 rfl ?_ | refine wCondTb h103 rfl ?_
     refine wSeq (wRegion' (oAssign rfl (oNil (thn_n (wRet (blk_r (thn_r (thn_r (blk_r (thn_r (fin_r ?_)))))))))))
     refine fi1 rfl ?_
     exact ⟨(), trivial, by rw [hfr, relocs_bad hil (hlb.2 (by simp_all <;> omega))]; rfl, Lh⟩
    refine oWant rfl rfl (oFld (n := 8) (m := 8) rfl rfl rfl (oWant rfl rfl (oLd rfl (by repeat constructor) rfl rfl ?_)))
    refine oWant rfl rfl (oMove rfl (oWant rfl rfl (oIdxE rfl rfl (hE) (by omega) rfl rfl ?_)))
    have hc90 := (hE).cell
    refine oWant rfl rfl ?_
    first | refine oFldX (n := 1) (m := 1) rfl rfl rfl ?_ | refine oFldR (n := 1) (m := 1) rfl rfl rfl ?_ | refine oFldD (n := 1) (m := 1) rfl rfl rfl ?_
    refine oWant rfl rfl ?_
    first | refine oLdX rfl hc90 rfl rfl ?_ | refine oLdXA rfl hc90 rfl (by repeat constructor) ?_ | (refine oLdR1 rfl (by repeat constructor) (by omega) rfl (fun u92 hu92 => ?_))
    refine oWant rfl rfl (oLss rfl rfl (oPickF rfl rfl (oMove rfl ?_)))
    first | refine oSplit (t := 95) rfl (fun h95 => ?_) (fun h95 => ?_) | refine oSplitB (t := 95) rfl (fun h95 => ?_) (fun h95 => ?_)
    ·
     refine oSkip rfl rfl rfl rfl (oSkip rfl rfl rfl rfl (oSkip rfl rfl rfl rfl (oSkip rfl rfl rfl rfl (oSkip rfl rfl rfl rfl (oSkip rfl rfl rfl rfl (oSkip rfl rfl rfl rfl (oPickT rfl rfl (oNil (thn_n ?_)))))))))
     first | refine wCondT rfl ?_ | refine wCondTd h103 rfl ?_ | refine wCondTb h103 rfl ?_
     refine wSeq (wRegion' (oAssign rfl (oNil (thn_n (wRet (blk_r (thn_r (thn_r (blk_r (thn_r (fin_r ?_)))))))))))
     refine fi1 rfl ?_
     exact ⟨(), trivial, by rw [hfr, relocs_bad hil (hlb.2 (by simp_all <;> omega))]; rfl, Lh⟩
    refine oWant rfl rfl (oFld (n := 8) (m := 8) rfl rfl rfl (oWant rfl rfl (oLd rfl (by repeat constructor) rfl rfl ?_)))
    refine oWant rfl rfl (oMove rfl (oWant rfl rfl (oIdxE rfl rfl (hE) (by omega) rfl rfl ?_)))
    have hc99 := (hE).cell
    refine oWant rfl rfl ?_
    first | refine oFldX (n := 1) (m := 1) rfl rfl rfl ?_ | refine oFldR (n := 1) (m := 1) rfl rfl rfl ?_ | refine oFldD (n := 1) (m := 1) rfl rfl rfl ?_
    refine oWant rfl rfl ?_
    first | refine oLdX rfl hc99 rfl rfl ?_ | refine oLdXA rfl hc99 rfl (by repeat constructor) ?_ | (refine oLdR1 rfl (by repeat constructor) (by omega) rfl (fun u101 hu101 => ?_))
    refine oWant rfl rfl (oGeq rfl rfl (oPickF rfl rfl (oNil (thn_n (wC (fun h103 => ?_) (fun h103 => ?_))))))
    ·
     refine wSeq (wRegion' (oAssign rfl (oNil (thn_n (wRet (blk_r (thn_r (thn_r (blk_r (thn_r (fin_r ?_)))))))))))
     refine fi1 rfl ?_
     exact ⟨(), trivial, by rw [hfr, relocs_bad hil (hlb.2 (by simp_all <;> omega))]; rfl, Lh⟩
    refine wSkip (blk_n (thn_n (wRegion' (oMove rfl (oSucc rfl rfl (by omega) ?_)))))
    refine oAssign rfl (oNil (thn_n ?_))
    exact ⟨rfl, i + 1, ⟨by omega, fun j hj => by
    by_cases e : j = i
    · subst e; rw [hlb]; simp_all <;> omega
    · exact hs j (by omega)⟩, by omega, cv, Lh⟩
   refine oSkip rfl rfl rfl rfl (oSkip rfl rfl rfl rfl (oSkip rfl rfl rfl rfl (oSkip rfl rfl rfl rfl (oSkip rfl rfl rfl rfl (oSkip rfl rfl rfl rfl (oSkip rfl rfl rfl rfl (oSkip rfl rfl rfl rfl (oSkip rfl rfl rfl rfl (oWant rfl rfl (oPickF rfl rfl (oPickF rfl rfl ?_)))))))))))
   refine oMove rfl (oWant rfl rfl (oFld (n := 8) (m := 8) rfl rfl rfl (oWant rfl rfl (oLd rfl (by repeat constructor) rfl rfl ?_))))
   refine oWant rfl rfl (oMove rfl (oWant rfl rfl (oIdxE rfl rfl (hE) (by omega) rfl rfl ?_)))
   have hc90 := (hE).cell
   refine oWant rfl rfl ?_
   first | refine oFldX (n := 1) (m := 1) rfl rfl rfl ?_ | refine oFldR (n := 1) (m := 1) rfl rfl rfl ?_ | refine oFldD (n := 1) (m := 1) rfl rfl rfl ?_
   refine oWant rfl rfl ?_
   first | refine oLdX rfl hc90 rfl rfl ?_ | refine oLdXA rfl hc90 rfl (by repeat constructor) ?_ | (refine oLdR1 rfl (by repeat constructor) (by omega) rfl (fun u92 hu92 => ?_))
   refine oWant rfl rfl (oLss rfl rfl (oPickF rfl rfl (oMove rfl ?_)))
   first | refine oSplit (t := 95) rfl (fun h95 => ?_) (fun h95 => ?_) | refine oSplitB (t := 95) rfl (fun h95 => ?_) (fun h95 => ?_)
   ·
    refine oSkip rfl rfl rfl rfl (oSkip rfl rfl rfl rfl (oSkip rfl rfl rfl rfl (oSkip rfl rfl rfl rfl (oSkip rfl rfl rfl rfl (oSkip rfl rfl rfl rfl (oSkip rfl rfl rfl rfl (oPickT rfl rfl (oNil (thn_n ?_)))))))))
    first | refine wCondT rfl ?_ | refine wCondTd h103 rfl ?_ | refine wCondTb h103 rfl ?_
    refine wSeq (wRegion' (oAssign rfl (oNil (thn_n (wRet (blk_r (thn_r (thn_r (blk_r (thn_r (fin_r ?_)))))))))))
    refine fi1 rfl ?_
    exact ⟨(), trivial, by rw [hfr, relocs_bad hil (hlb.2 (by simp_all <;> omega))]; rfl, Lh⟩
   refine oWant rfl rfl (oFld (n := 8) (m := 8) rfl rfl rfl (oWant rfl rfl (oLd rfl (by repeat constructor) rfl rfl ?_)))
   refine oWant rfl rfl (oMove rfl (oWant rfl rfl (oIdxE rfl rfl (hE) (by omega) rfl rfl ?_)))
   have hc99 := (hE).cell
   refine oWant rfl rfl ?_
   first | refine oFldX (n := 1) (m := 1) rfl rfl rfl ?_ | refine oFldR (n := 1) (m := 1) rfl rfl rfl ?_ | refine oFldD (n := 1) (m := 1) rfl rfl rfl ?_
   refine oWant rfl rfl ?_
   first | refine oLdX rfl hc99 rfl rfl ?_ | refine oLdXA rfl hc99 rfl (by repeat constructor) ?_ | (refine oLdR1 rfl (by repeat constructor) (by omega) rfl (fun u101 hu101 => ?_))
   refine oWant rfl rfl (oGeq rfl rfl (oPickF rfl rfl (oNil (thn_n (wC (fun h103 => ?_) (fun h103 => ?_))))))
   ·
    refine wSeq (wRegion' (oAssign rfl (oNil (thn_n (wRet (blk_r (thn_r (thn_r (blk_r (thn_r (fin_r ?_)))))))))))
    refine fi1 rfl ?_
    exact ⟨(), trivial, by rw [hfr, relocs_bad hil (hlb.2 (by simp_all <;> omega))]; rfl, Lh⟩
   refine wSkip (blk_n (thn_n (wRegion' (oMove rfl (oSucc rfl rfl (by omega) ?_)))))
   refine oAssign rfl (oNil (thn_n ?_))
   exact ⟨rfl, i + 1, ⟨by omega, fun j hj => by
   by_cases e : j = i
   · subst e; rw [hlb]; simp_all <;> omega
   · exact hs j (by omega)⟩, by omega, cv, Lh⟩
  refine wExit (thn_x (thn_x (blk_x (thn_n (wSeq (wRegion' (oAssign rfl (oNil (thn_n (wRet (fin_r ?_)))))))))))
  refine fi1 rfl ?_
  obtain rfl : i = f.fRelocs.length := by omega
  exact ⟨(), trivial, by rw [hfr, relocs_good hs]; rfl, Lh⟩
end Go.Proofs.YtogaiijhicfoaaaGreatV
