import Derived.Test.YtogaiijhicfoaaaGreatVm

/-
  The reference of verify; sheerleglaw17: VerifyTells.
-/
namespace Go.Proofs.YtogaiijhicfoaaaGreatV
set_option linter.unusedVariables false
set_option linter.unusedSimpArgs false
open Go.RowKit Go.Proofs.YtogaiijhicfoaaaGreatK Go.Proofs.YtogaiijhicfoaaaGreatT Go.Proofs.YtogaiijhicfoaaaGreatL

def operK (f : ApiFunc) (k letter n : Int) : Int := if letter = 119 ∨ letter = 114 then slotF f.fKinds n 0 else if letter = 103 ∨ letter = 102 then slotF f.fKinds n (IntKind.i64.wrap (1 + k)) else if letter = 99 then callF f.fKinds k n else if letter = 100 then lateF f.fKinds k n else if letter = 118 then answF f.fKinds f.fClass n else 0
def clsR (x : ApiInstr) (s : ApiSymbol) : Int := if x.fOp = 18 then IntKind.i64.wrap (s.fKind - 1) else if x.fOp = 19 ∨ x.fOp = 17 ∨ x.fOp = 21 then s.fKind else x.fC
def lettersL : List Int := [119, 114, 103, 102, 99, 100, 118, 116, 110, 107, 45]
theorem fst0 (l : List Int) : fstE (0 :: l) = fstE l := by conv => lhs; unfold fstE
                                                           simp
theorem fstA (e : Int) {l : List Int} (h : fstE l = 0) : fstE (e :: l) = e := by
  unfold fstE
  split
  · rfl
  · omega
theorem range6 : List.range 6 = [0, 1, 2, 3, 4, 5] := rfl
theorem hasL_tab : ∀ c ∈ lettersL, (hasL 0 c, hasL 1 c, hasL 2 c, hasL 3 c, hasL 4 c, hasL 5 c) = (decide (c = 119 ∨ c = 114), decide (c = 103 ∨ c = 102), decide (c = 99), decide (c = 100), decide (c = 118), decide (c = 116 ∨ c = 110 ∨ c = 107 ∨ c = 45)) := by decide
theorem letE_eq {f : ApiFunc} {k letter n : Int} (h : letter ∈ lettersL) : letE f k letter n = operK f k letter n := by
  have ht := hasL_tab letter h
  simp only [Prod.mk.injEq] at ht
  obtain ⟨h0, h1, h2, h3, h4, h5⟩ := ht
  unfold letE operK
  rw [range6]
  simp only [List.map_cons, List.map_nil, lookE, h0, h1, h2, h3, h4, h5, decide_eq_true_eq]
  have v0 : lookV f k n 0 = slotF f.fKinds n 0 := rfl
  have v1 : lookV f k n 1 = slotF f.fKinds n (IntKind.i64.wrap (1 + k)) := rfl
  have v2 : lookV f k n 2 = callF f.fKinds k n := rfl
  have v3 : lookV f k n 3 = lateF f.fKinds k n := rfl
  have v4 : lookV f k n 4 = answF f.fKinds f.fClass n := rfl
  have v5 : lookV f k n 5 = 0 := rfl
  rw [v0, v1, v2, v3, v4, v5]
  simp only [lettersL, List.mem_cons, List.not_mem_nil, or_false] at h
  rcases h with rfl | rfl | rfl | rfl | rfl | rfl | rfl | rfl | rfl | rfl | rfl <;> simp [fst0, fstA, fstE] <;> exact fun h => h.symm
theorem shape_letters {o : Int} {i : Nat} (h : i < (shapeF o).size) : byteAt (shapeF o) i ∈ lettersL := by
  rw [shapeF_size] at h
  split at h
  · next ho =>
    have h2 := ownF_iff.1 ho
    have : ∀ n, n < 24 → ∀ i, i < 4 → byteAt (shapesL.getD n ByteArray.empty) i ∈ lettersL := by decide
    unfold shapeF
    rw [if_pos ho]
    exact this _ (by omega) i h
  · omega
theorem shape_plain {o : Int} {i : Nat} (h : i < (shapeF o).size) (ho : ¬ (17 ≤ o ∧ o ≤ 21)) : byteAt (shapeF o) i ≠ 103 ∧ byteAt (shapeF o) i ≠ 102 ∧ byteAt (shapeF o) i ≠ 99 ∧ byteAt (shapeF o) i ≠ 100 := by
  rw [shapeF_size] at h
  split at h
  · next hw =>
    have h2 := ownF_iff.1 hw
    have : ∀ n, n < 24 → ¬ (16 ≤ n ∧ n ≤ 20) → ∀ i, i < 4 → byteAt (shapesL.getD n ByteArray.empty) i ≠ 103 ∧ byteAt (shapesL.getD n ByteArray.empty) i ≠ 102 ∧ byteAt (shapesL.getD n ByteArray.empty) i ≠ 99 ∧ byteAt (shapesL.getD n ByteArray.empty) i ≠ 100 := by decide
    unfold shapeF
    rw [if_pos hw]
    exact this _ (by omega) (by omega) i h
  · omega
def operR (f : ApiFunc) (x : ApiInstr) (s : ApiSymbol) (i : Nat) : Int := operK f (clsR x s) (byteAt (shapeF x.fOp) i) (opdF x i)
theorem fst_map {n : Nat} {e e' : Nat → Int} (h : ∀ i, i < n → e i = e' i) : fstE ((List.range n).map e) = fstE ((List.range n).map e') := by
  rw [List.map_congr_left (fun i hi => h i (List.mem_range.1 hi))]
theorem operF_R {f : ApiFunc} {x : ApiInstr} {s : ApiSymbol} {k : Int} (h : (17 ≤ x.fOp ∧ x.fOp ≤ 21) → k = clsR x s) : operF f x k = fstE ((List.range (shapeF x.fOp).size).map (operR f x s)) := by
  unfold operF
  refine fst_map (fun i hi => ?_)
  unfold opsE operR
  rw [letE_eq (shape_letters hi)]
  by_cases ho : 17 ≤ x.fOp ∧ x.fOp ≤ 21
  · rw [h ho]
  · obtain ⟨h1, h2, h3, h4⟩ := shape_plain hi ho
    unfold operK
    simp only [h1, h2, h3, h4, or_self, if_false]
theorem instrF_R {f : ApiFunc} {l : List ApiSymbol} {i : Int} (hi : ¬ (i < 0 ∨ (f.fCode.length : Int) ≤ i)) (he : refE f l i = 0) : instrF f l i = if ((codeAt f i).fOp = 20 ∧ isC (codeAt f i).fC = false) ∨ ((codeAt f i).fOp = 21 ∧ latF (refS f l i).fKind = false) then 14 else fstE ((List.range (shapeF (codeAt f i).fOp).size).map (operR f (codeAt f i) (refS f l i))) := by
  unfold instrF
  rw [if_neg hi, if_neg (by rw [he]; simp)]
  generalize codeAt f i = x
  generalize refS f l i = s
  by_cases h20 : x.fOp = 20
  · rw [if_pos h20]
    by_cases hc : isC x.fC = true
    · rw [if_pos hc, if_neg (by rintro (h | h); rw [hc] at h; cases h.2; omega), operF_R (s := s) (fun _ => by unfold clsR; rw [if_neg (by omega), if_neg (by omega)])]
    · rw [if_neg hc, if_pos (.inl ⟨h20, by simpa using hc⟩)]
  · rw [if_neg h20]
    by_cases h21 : x.fOp = 21
    · rw [if_pos h21]
      by_cases hc : latF s.fKind = true
      · rw [if_pos hc, if_neg (by rintro (h | h); exact h20 h.1; rw [hc] at h; cases h.2), operF_R (s := s) (fun _ => by unfold clsR; rw [if_neg (by omega), if_pos (by omega)])]
      · rw [if_neg hc, if_pos (.inr ⟨h21, by simpa using hc⟩)]
    · have hR : ¬ ((x.fOp = 20 ∧ isC x.fC = false) ∨ (x.fOp = 21 ∧ latF s.fKind = false)) := by
        rintro (h | h)
        · exact h20 h.1
        · exact h21 h.1
      rw [if_neg h21, if_neg hR]
      by_cases h18 : x.fOp = 18
      · rw [if_pos h18, operF_R (s := s) (fun _ => by unfold clsR; rw [if_pos h18])]
      · rw [if_neg h18, operF_R (s := s) (fun h => by unfold clsR; rw [if_neg h18, if_pos (by omega)])]
set_option maxRecDepth 100000 in
theorem ref17_has {B : Base} {w : World} (hS : St B [] w) (f : ApiFunc) (fc : List Value) (hf : kApiFunc.K B.e f fc) (i : Int) :
    CallsIn Fence.wide 0 Tryz.prog 292 #[.agg fc.toArray, .int .i64 i] w (Ret B (fun _ : Unit => True) (fun _ => .bool (decide (0 ≤ markF f i))) (fun _ => [])) := by
  obtain ⟨A0, c0, A1, c1, A2, c2, A3, c3, rfl, l0, g0, l1, g1, l2, g2, l3, g3⟩ := kApiFunc_open hf
  have hcl := g3.1
  (refine enter Tryz.func292 rfl rfl hS ?_; simp only [List.zipIdx_cons, List.zipIdx_nil, List.map_cons, List.map_nil, Nat.reduceAdd, Nat.zero_add])
  refine wSeq (wRegion' (oBox rfl (by repeat constructor) (fun b2 => ?_)))
  refine oAssign rfl (oNil (thn_n (wSeq (wSeq (wRegion' (oAssign rfl (oNil (thn_n (wBlock (wLoop (ι := Nat) (fun j => [(1, .int .i64 i), (2, .pointer (some ⟨b2, 0, none⟩)), (5, .int .i64 (j : Int))]) (fun j => [blk b2 47 [.int .i64 f.fClass, .slice A0 f.fKinds.length c0, .int .i64 f.fPad, .bool f.fNosplit, .int .i64 f.fFrom, .int .i64 f.fTo, .slice A1 f.fLines.length c1, .slice A2 f.fCode.length c2, .slice A3 f.fRelocs.length c3]]) (fun j => j ≤ f.fRelocs.length ∧ ∀ y ∈ f.fRelocs.take j, atR i y = false) (fun j => f.fRelocs.length - j) 0 ?_ cv Lh ?_))))))))))
  ·
   exact ⟨Nat.zero_le _, by simp⟩
  rintro j ⟨hj, hs⟩
  try dsimp only
  refine wSeq (wSeq (wRegion' (oMove rfl (oFld (n := 8) (m := 8) rfl rfl rfl (oLd rfl (by repeat constructor) rfl rfl ?_)))))
  refine oLenS rfl rfl (oLss rfl rfl (oNil (thn_n (wC (fun h10 => ?_) (fun h10 => ?_)))))
  ·
   obtain ⟨x, hx⟩ : ∃ x, f.fRelocs[j]? = some x := ⟨_, List.getElem?_eq_getElem (by omega)⟩
   obtain ⟨e1, cs1, hE⟩ := g3.elm hx
   obtain rfl := kApiReloc_open hE.K
   refine wSkip (thn_n (wSeq (wBlock (wSeq (wRegion' (oFld (n := 8) (m := 8) rfl rfl rfl (oLd rfl (by repeat constructor) rfl rfl ?_)))))))
   refine oMove rfl (oIdxE rfl rfl (hE) (by omega) rfl rfl ?_)
   have hc16 := (hE).cell
   first | refine oFldX (n := 0) (m := 0) rfl rfl rfl ?_ | refine oFldR (n := 0) (m := 0) rfl rfl rfl ?_ | refine oFldD (n := 0) (m := 0) rfl rfl rfl ?_
   first | refine oLdX rfl hc16 rfl rfl ?_ | refine oLdXA rfl hc16 rfl (by repeat constructor) ?_ | (refine oLdR1 rfl (by repeat constructor) (by omega) rfl (fun u18 hu18 => ?_))
   refine oMove rfl (oEql rfl rfl (oNil (thn_n (wC (fun h20 => ?_) (fun h20 => ?_)))))
   ·
    refine wSeq (wRegion' (oAssign rfl (oNil (thn_n (wRet (blk_r (thn_r (thn_r (blk_r (thn_r (fin_r ?_)))))))))))
    refine fi1 rfl ?_
    have hm : markF f i = (j : Int) := idxI_stop hs hx (decide_eq_true h20)
    exact ⟨(), trivial, by rw [hm, decide_eq_true (by omega)]; rfl, Lh⟩
   refine wSkip (blk_n (thn_n (wRegion' (oMove rfl (oSucc rfl rfl (by omega) ?_)))))
   refine oAssign rfl (oNil (thn_n ?_))
   exact ⟨rfl, j + 1, ⟨by omega, take_not hs hx (decide_eq_false h20)⟩, by omega, cv, Lh⟩
  refine wExit (thn_x (thn_x (blk_x (thn_n (wSeq (wRegion' (oAssign rfl (oNil (thn_n (wRet (fin_r ?_)))))))))))
  refine fi1 rfl ?_
  obtain rfl : j = f.fRelocs.length := by omega
  rw [List.take_length] at hs
  have hm : markF f i = -1 := idxI_none hs
  exact ⟨(), trivial, by rw [hm]; rfl, Lh⟩
theorem needF_in (o : Int) : 0 ≤ needF o ∧ needF o ≤ 5 := by
  unfold needF
  repeat' split
  all_goals omega
set_option maxRecDepth 100000 in
theorem ref17_fits {B : Base} {w : World} (hS : St B [] w) (need : Int) (hn : 1 ≤ need ∧ need ≤ 5) (s : ApiSymbol) (sc : List Value) (hs : kApiSymbol.K B.e s sc) :
    CallsIn Fence.wide 0 Tryz.prog 293 #[.int .i64 need, .agg sc.toArray] w (Ret B (fun _ : Unit => True) (fun _ => .bool (fitsF need s)) (fun _ => [])) := by
  obtain rfl := kApiSymbol_open hs
  generalize hz : IntKind.i64.wrap (s.fKind - 1) = z
  have hfz : fitsF need s = if need = 3 then decide (s.fSort = 2) && decide (s.fKind = 0) else if need = 4 then decide (s.fSort = 2) && isC z else decide (s.fSort = 1) := by unfold fitsF; rw [hz]
  rw [hfz]
  (refine enter Tryz.func293 rfl rfl hS ?_; simp only [List.zipIdx_cons, List.zipIdx_nil, List.map_cons, List.map_nil, Nat.reduceAdd, Nat.zero_add])
  refine wSeq (wRegion' (oBox rfl (by repeat constructor) (fun b3 => ?_)))
  refine oAssign rfl (oNil (thn_n (wSeq (wRegion' (oMove rfl (oNil (thn_n (wBlock (wSeq (wSeq (wRegion' ?_)))))))))))
  refine oEql rfl rfl (oAssign rfl (oNil (thn_n (wC (fun h15 => ?_) (fun h15 => ?_)))))
  ·
   refine wSkip (thn_n ?_)
   first | refine wCondT rfl ?_ | refine wCondTd h15 rfl ?_ | refine wCondTb h15 rfl ?_
   refine wSeq (wRegion' (oFld (n := 2) (m := 2) rfl rfl rfl (oLd rfl (by repeat constructor) rfl rfl ?_)))
   refine oEql rfl rfl (oAssign rfl (oNil (thn_n (wRet (blk_r (fin_r (fi1 rfl ?_)))))))
   exact ⟨(), trivial, by rw [if_neg (by omega), if_neg (by omega)]; rfl, Lh⟩
  refine wSeq (wRegion' (oEql rfl rfl (oAssign rfl (oNil (thn_n (wC (fun h15 => ?_) (fun h15 => ?_)))))))
  ·
   refine wSkip (thn_n ?_)
   first | refine wCondT rfl ?_ | refine wCondTd h15 rfl ?_ | refine wCondTb h15 rfl ?_
   refine wSeq (wRegion' (oFld (n := 2) (m := 2) rfl rfl rfl (oLd rfl (by repeat constructor) rfl rfl ?_)))
   refine oEql rfl rfl (oAssign rfl (oNil (thn_n (wRet (blk_r (fin_r (fi1 rfl ?_)))))))
   exact ⟨(), trivial, by rw [if_neg (by omega), if_neg (by omega)]; rfl, Lh⟩
  refine wRegion' (oEql rfl rfl (oAssign rfl (oNil (thn_n (wC (fun h15 => ?_) (fun h15 => ?_))))))
  ·
   refine wSeq (wRegion' (oFld (n := 2) (m := 2) rfl rfl rfl (oLd rfl (by repeat constructor) rfl rfl ?_)))
   refine oEql rfl rfl (oAssign rfl (oNil (thn_n (wRet (blk_r (fin_r (fi1 rfl ?_)))))))
   exact ⟨(), trivial, by rw [if_neg (by omega), if_neg (by omega)]; rfl, Lh⟩
  refine wSeq (wRegion' (oEql rfl rfl (oAssign rfl (oNil (thn_n (wC (fun h22 => ?_) (fun h22 => ?_)))))))
  ·
   refine wSeq (wRegion' (oFld (n := 2) (m := 2) rfl rfl rfl (oLd rfl (by repeat constructor) rfl rfl ?_)))
   refine oEql rfl rfl (oMove rfl ?_)
   first | refine oSplit (t := 27) rfl (fun h27 => ?_) (fun h27 => ?_) | refine oSplitB (t := 27) rfl (fun h27 => ?_) (fun h27 => ?_)
   ·
    refine oWant rfl rfl (oFld (n := 3) (m := 3) rfl rfl rfl (oWant rfl rfl (oLd rfl (by repeat constructor) rfl rfl ?_)))
    refine oWant rfl rfl (oEql rfl rfl (oPickT rfl rfl (oAssign rfl (oNil (thn_n (wRet (blk_r (fin_r (fi1 rfl ?_)))))))))
    exact ⟨(), trivial, by rw [if_pos h22]; simp_all [resVal], Lh⟩
   refine oSkip rfl rfl rfl rfl (oSkip rfl rfl rfl rfl (oSkip rfl rfl rfl rfl (oPickF rfl rfl (oAssign rfl (oNil (thn_n (wRet (blk_r (fin_r (fi1 rfl ?_))))))))))
   exact ⟨(), trivial, by rw [if_pos h22]; simp_all [resVal], Lh⟩
  refine wSeq (wRegion' (oFld (n := 2) (m := 2) rfl rfl rfl (oLd rfl (by repeat constructor) rfl rfl ?_)))
  refine oEql rfl rfl (oMove rfl ?_)
  first | refine oSplit (t := 9) rfl (fun h9 => ?_) (fun h9 => ?_) | refine oSplitB (t := 9) rfl (fun h9 => ?_) (fun h9 => ?_)
  ·
   refine oWant rfl rfl (oFld (n := 3) (m := 3) rfl rfl rfl (oWant rfl rfl (oLd rfl (by repeat constructor) rfl rfl ?_)))
   refine oWant rfl rfl (oSubW rfl rfl ?_)
   rw [hz]
   refine oWant rfl rfl ?_
   (refine oCall rfl (by kernel_rfl) (fun w hS => frame hS (by repeat' constructor) (fun B' hB hS' => ref5_Is hS' z)) ?_; rintro ⟨⟩ -)
   refine oPickT rfl rfl (oAssign rfl (oNil (thn_n (wRet (blk_r (fin_r (fi1 rfl ?_)))))))
   exact ⟨(), trivial, by rw [if_neg h22, if_pos (by omega)]; simp_all [resVal], Lh⟩
  refine oSkip rfl rfl rfl rfl (oSkip rfl rfl rfl rfl (oSkip rfl rfl rfl rfl (oSkip rfl rfl rfl rfl (oPickF rfl rfl (oAssign rfl (oNil (thn_n (wRet (blk_r (fin_r (fi1 rfl ?_)))))))))))
  exact ⟨(), trivial, by rw [if_neg h22, if_pos (by omega)]; simp_all [resVal], Lh⟩
set_option maxRecDepth 100000 in
set_option maxHeartbeats 1000000 in
theorem ref17_refers {B : Base} {w : World} (hS : St B [] w) (f : ApiFunc) (fc : List Value) (hf : kApiFunc.K B.e f fc) (Al : Option Addr) (cl : Nat) (l : List ApiSymbol) (hl : kApiSymbol.C B.e Al l) (i : Nat) (hi : i < f.fCode.length) :
    CallsIn Fence.wide 0 Tryz.prog 256 #[.agg fc.toArray, .slice Al l.length cl, .int .i64 (i : Int)] w (Ret B (fun _ : Unit => True) (fun _ => .tuple #[.agg (symL (refS f l i)).toArray, .int .i64 (refE f l i)]) (fun _ => [])) := by
  obtain ⟨A0, c0, A1, c1, A2, c2, A3, c3, rfl, l0, g0, l1, g1, l2, g2, l3, g3⟩ := kApiFunc_open hf
  obtain ⟨x, hx⟩ : ∃ x, f.fCode[i]? = some x := ⟨_, List.getElem?_eq_getElem hi⟩
  have hca : codeAt f (i : Int) = x := by unfold codeAt; rw [Int.toNat_natCast, List.getD_eq_getElem?_getD, hx]; rfl
  obtain ⟨e0, cs0, hE0⟩ := g2.elm hx
  obtain rfl := kApiInstr_open hE0.K
  have hnin := needF_in x.fOp
  generalize hne : needF x.fOp = need at *
  (refine enter Tryz.func256 rfl rfl hS ?_; simp only [List.zipIdx_cons, List.zipIdx_nil, List.map_cons, List.map_nil, Nat.reduceAdd, Nat.zero_add])
  refine wSeq (wRegion' (oBox rfl (by repeat constructor) (fun b3 => ?_)))
  refine oAlloc rfl (by repeat constructor) (fun b6 => ?_)
  refine oAssign rfl (oNil (thn_n (wSeq (wRegion' (oFld (n := 7) (m := 7) rfl rfl rfl (oLd rfl (by repeat constructor) rfl rfl ?_))))))
  refine oMove rfl (oIdxE rfl rfl (hE0) (by omega) rfl rfl ?_)
  have hc13 := (hE0).cell
  first | refine oFldX (n := 0) (m := 0) rfl rfl rfl ?_ | refine oFldR (n := 0) (m := 0) rfl rfl rfl ?_ | refine oFldD (n := 0) (m := 0) rfl rfl rfl ?_
  first | refine oLdX rfl hc13 rfl rfl ?_ | refine oLdXA rfl hc13 rfl (by repeat constructor) ?_ | (refine oLdR1 rfl (by repeat constructor) (by omega) rfl (fun u15 hu15 => ?_))
  (refine oCall rfl (by kernel_rfl) (fun w hS => frame hS (by repeat' constructor) (fun B' hB hS' => ref7_Need hS' x.fOp)) ?_; rintro ⟨⟩ -)
  rw [hne]
  refine oAssign rfl (oNil (thn_n (wSeq (wSeq (wRegion' (oMove rfl (oGtr rfl rfl (oLdA rfl (by repeat constructor) rfl (by repeat constructor) ?_))))))))
  refine oMove rfl ?_
  (refine oCall rfl (by kernel_rfl) (fun w hS => frame hS (by repeat' constructor) (fun B' hB hS' => ref17_has hS' f _ (kApiFunc.K_grow hB hf) (i : Int))) ?_; rintro ⟨⟩ -)
  refine oNeqBool rfl rfl rfl (oNil (thn_n (wC (fun h22 => ?_) (fun h22 => ?_))))
  ·
   have h22 : ¬ ((0 < need) ↔ (0 ≤ markF f i)) := by have := h22; simp at this; omega
   refine wSeq (wRegion' (oBuild Parts.nil rfl rfl Built.nil (oStA rfl rfl rfl rfl (by repeat constructor) (by rfl) ?_)))
   refine oAssign rfl (oNil (thn_n (wRet (thn_r (fin_r ?_)))))
   refine ⟨rfl, _, (ResL.cons (by first | exact ResR.cell rfl (by repeat constructor) rfl | exact ResR.agg rfl (by repeat constructor) rfl rfl) (ResL.cons (ResR.tmp rfl) ResL.nil)), ?_⟩
   have he : refE f l i = 11 := by unfold refE; rw [hca, hne, if_neg (by omega), if_pos (by omega)]
   have hr : refS f l i = default := by unfold refS; rw [he, if_pos (.inr (by decide))]
   exact ⟨(), trivial, by rw [he, hr]; rfl, Lh⟩
  have h22 : (0 < need) ↔ (0 ≤ markF f i) := by have := h22; simp at this; omega
  refine wSkip (thn_n (wSeq (wSeq (wRegion' (oMove rfl (oEql rfl rfl (oNil (thn_n (wC (fun h25 => ?_) (fun h25 => ?_))))))))))
  ·
   refine wSeq (wRegion' (oBuild Parts.nil rfl rfl Built.nil (oStA rfl rfl rfl rfl (by repeat constructor) (by rfl) ?_)))
   refine oAssign rfl (oNil (thn_n (wRet (thn_r (fin_r ?_)))))
   refine ⟨rfl, _, (ResL.cons (by first | exact ResR.cell rfl (by repeat constructor) rfl | exact ResR.agg rfl (by repeat constructor) rfl rfl) (ResL.cons (ResR.tmp rfl) ResL.nil)), ?_⟩
   have he : refE f l i = 0 := by unfold refE; rw [hca, hne, if_pos (by omega)]
   have hr : refS f l i = default := by unfold refS; rw [hca, hne, if_pos (.inl h25)]
   exact ⟨(), trivial, by rw [he, hr]; rfl, Lh⟩
  refine wSkip (thn_n (wSeq (wRegion' (oLdA rfl (by repeat constructor) rfl (by repeat constructor) ?_))))
  refine oMove rfl ?_
  (refine oCall rfl (by kernel_rfl) (fun w hS => frame hS (by repeat' constructor) (fun B' hB hS' => ref17_Sym hS' f _ (kApiFunc.K_grow hB hf) (i : Int))) ?_; rintro ⟨⟩ -)
  refine oAssign rfl (oNil (thn_n (wSeq (wSeq (wRegion' (oMove rfl (oLss rfl rfl (oMove rfl ?_))))))))
  first | refine oSplit (t := 32) rfl (fun h32 => ?_) (fun h32 => ?_) | refine oSplitB (t := 32) rfl (fun h32 => ?_) (fun h32 => ?_)
  ·
   refine oSkip rfl rfl rfl rfl (oSkip rfl rfl rfl rfl (oSkip rfl rfl rfl rfl (oSkip rfl rfl rfl rfl (oPickT rfl rfl (oNil (thn_n ?_))))))
   first | refine wCondT rfl ?_ | refine wCondTd h37 rfl ?_ | refine wCondTb h37 rfl ?_
   refine wSeq (wRegion' (oBuild Parts.nil rfl rfl Built.nil (oStA rfl rfl rfl rfl (by repeat constructor) (by rfl) ?_)))
   refine oAssign rfl (oNil (thn_n (wRet (thn_r (fin_r ?_)))))
   refine ⟨rfl, _, (ResL.cons (by first | exact ResR.cell rfl (by repeat constructor) rfl | exact ResR.agg rfl (by repeat constructor) rfl rfl) (ResL.cons (ResR.tmp rfl) ResL.nil)), ?_⟩
   have he : refE f l i = 11 := by unfold refE; rw [hca, hne, if_neg (by omega), if_pos (by omega)]
   have hr : refS f l i = default := by unfold refS; rw [he, if_pos (.inr (by decide))]
   exact ⟨(), trivial, by rw [he, hr]; rfl, Lh⟩
  refine oWant rfl rfl (oMove rfl (oWant rfl rfl (oMove rfl (oWant rfl rfl (oLenS rfl rfl (oWant rfl rfl (oGeq rfl rfl (oPickF rfl rfl (oNil (thn_n (wC (fun h37 => ?_) (fun h37 => ?_))))))))))))
  ·
   refine wSeq (wRegion' (oBuild Parts.nil rfl rfl Built.nil (oStA rfl rfl rfl rfl (by repeat constructor) (by rfl) ?_)))
   refine oAssign rfl (oNil (thn_n (wRet (thn_r (fin_r ?_)))))
   refine ⟨rfl, _, (ResL.cons (by first | exact ResR.cell rfl (by repeat constructor) rfl | exact ResR.agg rfl (by repeat constructor) rfl rfl) (ResL.cons (ResR.tmp rfl) ResL.nil)), ?_⟩
   have he : refE f l i = 11 := by unfold refE; rw [hca, hne, if_neg (by omega), if_pos (by omega)]
   have hr : refS f l i = default := by unfold refS; rw [he, if_pos (.inr (by decide))]
   exact ⟨(), trivial, by rw [he, hr]; rfl, Lh⟩
  obtain ⟨n, hn⟩ := Int.eq_ofNat_of_zero_le (show 0 ≤ symF f (i : Int) by omega)
  obtain ⟨s, hs⟩ : ∃ s, l[n]? = some s := ⟨_, List.getElem?_eq_getElem (by omega)⟩
  obtain ⟨e2, cs2, hE2⟩ := hl.elm hs
  obtain rfl := kApiSymbol_open hE2.K
  have hnl := (List.getElem?_eq_some_iff.1 hs).1
  have hsa : symAtF f l i = s := by unfold symAtF; rw [hn, Int.toNat_natCast, List.getD_eq_getElem?_getD, hs]; rfl
  rw [hn]
  refine wSkip (thn_n (wSeq (wSeq (wRegion' (oMove rfl (oMove rfl (oMove rfl (oIdxE rfl rfl (hE2) (by omega) rfl rfl ?_))))))))
  have hc42 := (hE2).cell
  first | refine oLdX rfl hc42 rfl rfl ?_ | refine oLdXA rfl hc42 rfl (by repeat constructor) ?_ | (refine oLdR1 rfl (by repeat constructor) (by omega) rfl (fun u43 hu43 => ?_))
  (refine oCall rfl (by kernel_rfl) (fun w hS => frame hS (by repeat' constructor) (fun B' hB hS' => ref17_fits hS' need (by omega) s _ (kApiSymbol_mk _ s))) ?_; rintro ⟨⟩ -)
  first | refine oNot rfl ?_ | refine oNotB rfl ?_
  refine oNil (thn_n (wC (fun h45 => ?_) (fun h45 => ?_)))
  ·
   refine wSeq (wRegion' (oBuild Parts.nil rfl rfl Built.nil (oStA rfl rfl rfl rfl (by repeat constructor) (by rfl) ?_)))
   refine oAssign rfl (oNil (thn_n (wRet (thn_r (fin_r ?_)))))
   refine ⟨rfl, _, (ResL.cons (by first | exact ResR.cell rfl (by repeat constructor) rfl | exact ResR.agg rfl (by repeat constructor) rfl rfl) (ResL.cons (ResR.tmp rfl) ResL.nil)), ?_⟩
   have he : refE f l i = 8 := by unfold refE; rw [hca, hne, hsa, if_neg (by omega), if_neg (by omega), if_neg (by simpa using h45)]
   have hr : refS f l i = default := by unfold refS; rw [he, if_pos (.inr (by decide))]
   exact ⟨(), trivial, by rw [he, hr]; rfl, Lh⟩
  refine wSkip (thn_n (wSeq (wRegion' (oMove rfl (oMove rfl (oIdxE rfl rfl (hE2) (by omega) rfl rfl ?_))))))
  have hc49 := (hE2).cell
  first | refine oLdX rfl hc49 rfl rfl ?_ | refine oLdXA rfl hc49 rfl (by repeat constructor) ?_ | (refine oLdR1 rfl (by repeat constructor) (by omega) rfl (fun u50 hu50 => ?_))
  refine oStA rfl rfl rfl rfl (by repeat constructor) (by rfl) ?_
  refine oAssign rfl (oNil (thn_n (wRet (fin_r ?_))))
  refine ⟨rfl, _, (ResL.cons (by first | exact ResR.cell rfl (by repeat constructor) rfl | exact ResR.agg rfl (by repeat constructor) rfl rfl) (ResL.cons (ResR.tmp rfl) ResL.nil)), ?_⟩
  have he : refE f l i = 0 := by unfold refE; rw [hca, hne, hsa, if_neg (by omega), if_neg (by omega), if_pos (by simpa using h45)]
  have hr : refS f l i = s := by unfold refS; rw [he, hca, hne, hsa, if_neg (by omega)]
  exact ⟨(), trivial, by rw [he, hr]; rfl, Lh⟩
set_option maxRecDepth 100000 in
theorem ref17_slot {B : Base} {w : World} (hS : St B [] w) (f : ApiFunc) (fc : List Value) (hf : kApiFunc.K B.e f fc) (at_ kind : Int) :
    CallsIn Fence.wide 0 Tryz.prog 294 #[.agg fc.toArray, .int .i64 at_, .int .i64 kind] w (Ret B (fun _ : Unit => True) (fun _ => .int .i64 (slotF f.fKinds at_ kind)) (fun _ => [])) := by
  obtain ⟨A0, c0, A1, c1, A2, c2, A3, c3, rfl, l0, g0, l1, g1, l2, g2, l3, g3⟩ := kApiFunc_open hf
  (refine enter Tryz.func294 rfl rfl hS ?_; simp only [List.zipIdx_cons, List.zipIdx_nil, List.map_cons, List.map_nil, Nat.reduceAdd, Nat.zero_add])
  refine wSeq (wRegion' (oBox rfl (by repeat constructor) (fun b3 => ?_)))
  refine oAssign rfl (oNil (thn_n (wSeq (wSeq (wRegion' (oMove rfl (oLss rfl rfl (oMove rfl ?_))))))))
  first | refine oSplit (t := 9) rfl (fun h9 => ?_) (fun h9 => ?_) | refine oSplitB (t := 9) rfl (fun h9 => ?_) (fun h9 => ?_)
  ·
   refine oSkip rfl rfl rfl rfl (oSkip rfl rfl rfl rfl (oSkip rfl rfl rfl rfl (oSkip rfl rfl rfl rfl (oSkip rfl rfl rfl rfl (oPickT rfl rfl (oNil (thn_n ?_)))))))
   first | refine wCondT rfl ?_ | refine wCondTd h15 rfl ?_ | refine wCondTb h15 rfl ?_
   refine wSeq (wRegion' (oAssign rfl (oNil (thn_n (wRet (thn_r (fin_r (fi1 rfl ?_))))))))
   exact ⟨(), trivial, by unfold slotF; rw [if_pos (by omega)]; rfl, Lh⟩
  refine oWant rfl rfl (oMove rfl (oWant rfl rfl (oFld (n := 1) (m := 1) rfl rfl rfl (oWant rfl rfl (oLd rfl (by repeat constructor) rfl rfl ?_)))))
  refine oWant rfl rfl (oLenS rfl rfl (oWant rfl rfl (oGeq rfl rfl (oPickF rfl rfl (oNil (thn_n (wC (fun h15 => ?_) (fun h15 => ?_))))))))
  ·
   refine wSeq (wRegion' (oAssign rfl (oNil (thn_n (wRet (thn_r (fin_r (fi1 rfl ?_))))))))
   exact ⟨(), trivial, by unfold slotF; rw [if_pos (by omega)]; rfl, Lh⟩
  obtain ⟨n, rfl⟩ := Int.eq_ofNat_of_zero_le (show 0 ≤ at_ by omega)
  refine wSkip (thn_n (wSeq (wSeq (wRegion' (oFld (n := 1) (m := 1) rfl rfl rfl (oLd rfl (by repeat constructor) rfl rfl ?_))))))
  refine oMove rfl (oIdx rfl rfl (g0) rfl (by omega) rfl rfl (fun e19 u19 cs19 hu19 hk19 hc19 => ?_))
  obtain rfl := hk19
  first | refine oLdX rfl hc19 rfl rfl ?_ | refine oLdXA rfl hc19 rfl (by repeat constructor) ?_ | (refine oLdR1 rfl (by repeat constructor) (by omega) rfl (fun u20 hu20 => ?_))
  refine oMove rfl (oNeq rfl rfl (oNil (thn_n (wC (fun h22 => ?_) (fun h22 => ?_)))))
  ·
   refine wSeq (wRegion' (oAssign rfl (oNil (thn_n (wRet (thn_r (fin_r (fi1 rfl ?_))))))))
   exact ⟨(), trivial, by unfold slotF; rw [if_neg (by omega), Int.toNat_natCast, getDat hu19, if_pos h22]; rfl, Lh⟩
  refine wSkip (thn_n (wSeq (wRegion' (oAssign rfl (oNil (thn_n (wRet (fin_r (fi1 rfl ?_)))))))))
  exact ⟨(), trivial, by unfold slotF; rw [if_neg (by omega), Int.toNat_natCast, getDat hu19, if_neg h22]; rfl, Lh⟩
theorem nCall_max {k : Int} (h : ¬ (parF k = 0 ∧ ansF k = false)) : nCall k = if parF k < 1 then 1 else parF k := by
  have := parF_in k
  unfold nCall
  by_cases h0 : parF k = 0
  · have ha : ansF k = true := by
      cases e : ansF k with
      | true => rfl
      | false => exact absurd ⟨h0, e⟩ h
    rw [if_pos ⟨h0, ha⟩, if_pos (by omega)]
  · rw [if_neg (fun e => h0 e.1), if_neg (by omega)]
set_option maxRecDepth 100000 in
set_option maxHeartbeats 600000 in
theorem ref17_called {B : Base} {w : World} (hS : St B [] w) (f : ApiFunc) (fc : List Value) (hf : kApiFunc.K B.e f fc) (at_ k : Int) :
    CallsIn Fence.wide 0 Tryz.prog 295 #[.agg fc.toArray, .int .i64 at_, .int .i64 k] w (Ret B (fun _ : Unit => True) (fun _ => .int .i64 (callF f.fKinds k at_)) (fun _ => [])) := by
  obtain ⟨A0, c0, A1, c1, A2, c2, A3, c3, rfl, l0, g0, l1, g1, l2, g2, l3, g3⟩ := kApiFunc_open hf
  have hn := nCall_in k
  have hpn := parF_in k
  have hml : ((List.range (nCall k).toNat).map fun i : Nat => slotF f.fKinds (IntKind.i64.wrap (at_ + (i : Int))) 0).length = (nCall k).toNat := by simp
  (refine enter Tryz.func295 rfl rfl hS ?_; simp only [List.zipIdx_cons, List.zipIdx_nil, List.map_cons, List.map_nil, Nat.reduceAdd, Nat.zero_add])
  refine wSeq (wRegion' (oBox rfl (by repeat constructor) (fun b3 => ?_)))
  refine oAssign rfl (oNil (thn_n (wSeq (wRegion' (oMove rfl ?_)))))
  (refine oCall rfl (by kernel_rfl) (fun w hS => frame hS (by repeat' constructor) (fun B' hB hS' => ref5_Params hS' k)) ?_; rintro ⟨⟩ -)
  refine oAssign rfl (oNil (thn_n (wSeq (wSeq (wRegion' (oMove rfl (oEql rfl rfl (oMove rfl ?_))))))))
  first | refine oSplit (t := 14) rfl (fun h14 => ?_) (fun h14 => ?_) | refine oSplitB (t := 14) rfl (fun h14 => ?_) (fun h14 => ?_)
  ·
   refine oWant rfl rfl (oMove rfl (oWant rfl rfl ?_))
   (refine oCall rfl (by kernel_rfl) (fun w hS => frame hS (by repeat' constructor) (fun B' hB hS' => ref5_Answers hS' k)) ?_; rintro ⟨⟩ -)
   refine oWant rfl rfl ?_
   first | refine oNot rfl ?_ | refine oNotB rfl ?_
   refine oPickT rfl rfl (oNil (thn_n (wC (fun h18 => ?_) (fun h18 => ?_))))
   ·
    have hn0 : nCall k = 0 := by unfold nCall; rw [if_neg (by rintro ⟨_, h⟩; simp [h] at h18)]; exact h14
    refine wSeq (wSeq (wRegion' (oMove rfl (oNeq rfl rfl (oNil (thn_n (wC (fun h20 => ?_) (fun h20 => ?_))))))))
    ·
     refine wSeq (wRegion' (oAssign rfl (oNil (thn_n (wRet (thn_r (thn_r (fin_r (fi1 rfl ?_)))))))))
     exact ⟨(), trivial, by unfold callF zeroF; rw [if_pos hn0, if_pos h20]; rfl, Lh⟩
    refine wSkip (thn_n (wSeq (wRegion' (oAssign rfl (oNil (thn_n (wRet (thn_r (fin_r (fi1 rfl ?_))))))))))
    exact ⟨(), trivial, by unfold callF zeroF; rw [if_pos hn0, if_neg h20]; rfl, Lh⟩
   refine wSkip (thn_n (wSeq (wSeq (wRegion' (oAssign rfl ?_)))))
   have hnm := nCall_max (k := k) (by rintro ⟨h, h'⟩; simp_all)
   have hnz : ¬ nCall k = 0 := by rw [hnm]; split <;> omega
   refine oNil (thn_n (wBlock (wLoop (ι := Nat) (fun i => [(1, .int .i64 at_), (3, .pointer (some ⟨b3, 0, none⟩)), (7, .int .i64 (parF k)), (8, .int .i64 (i : Int))]) (fun i => [blk b3 47 [.int .i64 f.fClass, .slice A0 f.fKinds.length c0, .int .i64 f.fPad, .bool f.fNosplit, .int .i64 f.fFrom, .int .i64 f.fTo, .slice A1 f.fLines.length c1, .slice A2 f.fCode.length c2, .slice A3 f.fRelocs.length c3]]) (fun i => i ≤ (nCall k).toNat ∧ fstE (((List.range (nCall k).toNat).map fun i : Nat => slotF f.fKinds (IntKind.i64.wrap (at_ + (i : Int))) 0).take i) = 0) (fun i => (nCall k).toNat - i) 0 ?_ cv Lh ?_)))
   ·
    exact ⟨Nat.zero_le _, rfl⟩
   rintro i ⟨hi, hs⟩
   try dsimp only
   refine wSeq (wSeq (wRegion' (oMove rfl (oMove rfl (oMaxI rfl rfl ?_)))))
   rw [← hnm]
   refine oLss rfl rfl (oNil (thn_n (wC (fun h24 => ?_) (fun h24 => ?_))))
   ·
    have hxe : ((List.range (nCall k).toNat).map fun i : Nat => slotF f.fKinds (IntKind.i64.wrap (at_ + (i : Int))) 0)[i]? = some (slotF f.fKinds (IntKind.i64.wrap (at_ + (i : Int))) 0) := by rw [List.getElem?_map, List.getElem?_range (by omega)]; rfl
    refine wSkip (thn_n (wSeq (wBlock (wSeq (wRegion' (oLdA rfl (by repeat constructor) rfl (by repeat constructor) ?_))))))
    refine oMove rfl (oMove rfl (oAddW rfl rfl ?_))
    (refine oCall rfl (by kernel_rfl) (fun w hS => frame hS (by repeat' constructor) (fun B' hB hS' => ref17_slot hS' f _ (kApiFunc.K_grow hB hf) (IntKind.i64.wrap (at_ + (i : Int))) 0)) ?_; rintro ⟨⟩ -)
    refine oAssign rfl (oNil (thn_n (wSeq (wRegion' (oMove rfl (oNeq rfl rfl (oNil (thn_n (wC (fun h33 => ?_) (fun h33 => ?_))))))))))
    ·
     refine wSeq (wRegion' (oMove rfl (oAssign rfl (oNil (thn_n (wRet (blk_r (thn_r (thn_r (blk_r (thn_r ?_)))))))))))
     refine fin_r (fi1 rfl ?_)
     exact ⟨(), trivial, by unfold callF; rw [if_neg hnz, fstE_stop hs hxe h33]; rfl, Lh⟩
    refine wSkip (blk_n (thn_n (wRegion' (oMove rfl (oSucc rfl rfl (by omega) ?_)))))
    refine oAssign rfl ?_
    skip
    refine oNil (thn_n ?_)
    exact ⟨rfl, i + 1, ⟨by omega, fstE_next hs hxe (Classical.not_not.1 h33)⟩, by omega, cv, Lh⟩
   refine wExit (thn_x (thn_x (blk_x (thn_n (wSeq (wRegion' (oAssign rfl (oNil (thn_n (wRet (fin_r ?_)))))))))))
   refine fi1 rfl ?_
   obtain rfl : i = (nCall k).toNat := by omega
   rw [List.take_of_length_le (by rw [hml]; exact Nat.le_refl _)] at hs
   exact ⟨(), trivial, by unfold callF; rw [if_neg hnz, hs]; rfl, Lh⟩
  refine oSkip rfl rfl rfl rfl (oSkip rfl rfl rfl rfl (oSkip rfl rfl rfl rfl (oPickF rfl rfl (oNil (thn_n ?_)))))
  first | refine wCondF rfl ?_ | refine wCondFd h18 rfl ?_ | refine wCondFb h18 rfl ?_
  refine wSkip (thn_n (wSeq (wSeq (wRegion' (oAssign rfl ?_)))))
  have hnm := nCall_max (k := k) (by rintro ⟨h, h'⟩; simp_all)
  have hnz : ¬ nCall k = 0 := by rw [hnm]; split <;> omega
  refine oNil (thn_n (wBlock (wLoop (ι := Nat) (fun i => [(1, .int .i64 at_), (3, .pointer (some ⟨b3, 0, none⟩)), (7, .int .i64 (parF k)), (8, .int .i64 (i : Int))]) (fun i => [blk b3 47 [.int .i64 f.fClass, .slice A0 f.fKinds.length c0, .int .i64 f.fPad, .bool f.fNosplit, .int .i64 f.fFrom, .int .i64 f.fTo, .slice A1 f.fLines.length c1, .slice A2 f.fCode.length c2, .slice A3 f.fRelocs.length c3]]) (fun i => i ≤ (nCall k).toNat ∧ fstE (((List.range (nCall k).toNat).map fun i : Nat => slotF f.fKinds (IntKind.i64.wrap (at_ + (i : Int))) 0).take i) = 0) (fun i => (nCall k).toNat - i) 0 ?_ cv Lh ?_)))
  ·
   exact ⟨Nat.zero_le _, rfl⟩
  rintro i ⟨hi, hs⟩
  try dsimp only
  refine wSeq (wSeq (wRegion' (oMove rfl (oMove rfl (oMaxI rfl rfl ?_)))))
  rw [← hnm]
  refine oLss rfl rfl (oNil (thn_n (wC (fun h24 => ?_) (fun h24 => ?_))))
  ·
   have hxe : ((List.range (nCall k).toNat).map fun i : Nat => slotF f.fKinds (IntKind.i64.wrap (at_ + (i : Int))) 0)[i]? = some (slotF f.fKinds (IntKind.i64.wrap (at_ + (i : Int))) 0) := by rw [List.getElem?_map, List.getElem?_range (by omega)]; rfl
   refine wSkip (thn_n (wSeq (wBlock (wSeq (wRegion' (oLdA rfl (by repeat constructor) rfl (by repeat constructor) ?_))))))
   refine oMove rfl (oMove rfl (oAddW rfl rfl ?_))
   (refine oCall rfl (by kernel_rfl) (fun w hS => frame hS (by repeat' constructor) (fun B' hB hS' => ref17_slot hS' f _ (kApiFunc.K_grow hB hf) (IntKind.i64.wrap (at_ + (i : Int))) 0)) ?_; rintro ⟨⟩ -)
   refine oAssign rfl (oNil (thn_n (wSeq (wRegion' (oMove rfl (oNeq rfl rfl (oNil (thn_n (wC (fun h33 => ?_) (fun h33 => ?_))))))))))
   ·
    refine wSeq (wRegion' (oMove rfl (oAssign rfl (oNil (thn_n (wRet (blk_r (thn_r (thn_r (blk_r (thn_r ?_)))))))))))
    refine fin_r (fi1 rfl ?_)
    exact ⟨(), trivial, by unfold callF; rw [if_neg hnz, fstE_stop hs hxe h33]; rfl, Lh⟩
   refine wSkip (blk_n (thn_n (wRegion' (oMove rfl (oSucc rfl rfl (by omega) ?_)))))
   refine oAssign rfl ?_
   skip
   refine oNil (thn_n ?_)
   exact ⟨rfl, i + 1, ⟨by omega, fstE_next hs hxe (Classical.not_not.1 h33)⟩, by omega, cv, Lh⟩
  refine wExit (thn_x (thn_x (blk_x (thn_n (wSeq (wRegion' (oAssign rfl (oNil (thn_n (wRet (fin_r ?_)))))))))))
  refine fi1 rfl ?_
  obtain rfl : i = (nCall k).toNat := by omega
  rw [List.take_of_length_le (by rw [hml]; exact Nat.le_refl _)] at hs
  exact ⟨(), trivial, by unfold callF; rw [if_neg hnz, hs]; rfl, Lh⟩
set_option maxRecDepth 100000 in
theorem ref17_perhaps {B : Base} {w : World} (hS : St B [] w) (f : ApiFunc) (fc : List Value) (hf : kApiFunc.K B.e f fc) (at_ : Int) (is : Bool) :
    CallsIn Fence.wide 0 Tryz.prog 296 #[.agg fc.toArray, .int .i64 at_, .bool is] w (Ret B (fun _ : Unit => True) (fun _ => .int .i64 (if is then slotF f.fKinds at_ 0 else zeroF at_)) (fun _ => [])) := by
  obtain ⟨A0, c0, A1, c1, A2, c2, A3, c3, rfl, l0, g0, l1, g1, l2, g2, l3, g3⟩ := kApiFunc_open hf
  (refine enter Tryz.func296 rfl rfl hS ?_; simp only [List.zipIdx_cons, List.zipIdx_nil, List.map_cons, List.map_nil, Nat.reduceAdd, Nat.zero_add])
  refine wSeq (wRegion' (oBox rfl (by repeat constructor) (fun b3 => ?_)))
  refine oAssign rfl (oNil (thn_n (wSeq (wSeq (wRegion' (oMove rfl (oNil (thn_n (wC (fun h7 => ?_) (fun h7 => ?_))))))))))
  ·
   refine wSeq (wRegion' (oLdA rfl (by repeat constructor) rfl (by repeat constructor) ?_))
   refine oMove rfl ?_
   (refine oCall rfl (by kernel_rfl) (fun w hS => frame hS (by repeat' constructor) (fun B' hB hS' => ref17_slot hS' f _ (kApiFunc.K_grow hB hf) at_ 0)) ?_; rintro ⟨⟩ -)
   refine oAssign rfl (oNil (thn_n (wRet (thn_r (fin_r (fi1 rfl ?_))))))
   exact ⟨(), trivial, by rw [if_pos (by simpa using h7)]; rfl, Lh⟩
  refine wSkip (thn_n (wSeq (wSeq (wRegion' (oMove rfl (oNeq rfl rfl (oNil (thn_n (wC (fun h12 => ?_) (fun h12 => ?_))))))))))
  ·
   refine wSeq (wRegion' (oAssign rfl (oNil (thn_n (wRet (thn_r (fin_r (fi1 rfl ?_))))))))
   exact ⟨(), trivial, by rw [if_neg (by simpa using h7)]; unfold zeroF; rw [if_pos h12]; rfl, Lh⟩
  refine wSkip (thn_n (wSeq (wRegion' (oAssign rfl (oNil (thn_n (wRet (fin_r (fi1 rfl ?_)))))))))
  exact ⟨(), trivial, by rw [if_neg (by simpa using h7)]; unfold zeroF; rw [if_neg h12]; rfl, Lh⟩
theorem late_perhaps {kinds : List Int} {k n : Int} : lateF kinds k n = if decide (0 < parF k) = true then slotF kinds n 0 else zeroF n := by
  have hpn := parF_in k
  unfold lateF
  by_cases h0 : parF k = 0
  · rw [if_neg (show ¬ decide (0 < parF k) = true by rw [h0]; decide), if_pos h0]
  · rw [if_pos (show decide (0 < parF k) = true from decide_eq_true (by omega)), if_neg h0]
set_option maxRecDepth 100000 in
set_option maxHeartbeats 1000000 in
theorem ref17_operand {B : Base} {w : World} (hS : St B [] w) (f : ApiFunc) (fc : List Value) (hf : kApiFunc.K B.e f fc) (x : ApiInstr) (xc : List Value) (hx : kApiInstr.K B.e x xc) (s : ApiSymbol) (letter n : Int) :
    CallsIn Fence.wide 0 Tryz.prog 259 #[.agg fc.toArray, .agg xc.toArray, .agg (symL s).toArray, .int .u8 letter, .int .i64 n] w (Ret B (fun _ : Unit => True) (fun _ => .int .i64 (operK f (clsR x s) letter n)) (fun _ => [])) := by
  obtain ⟨A0, c0, A1, c1, A2, c2, A3, c3, rfl, l0, g0, l1, g1, l2, g2, l3, g3⟩ := kApiFunc_open hf
  obtain rfl := kApiInstr_open hx
  generalize hz : IntKind.i64.wrap (s.fKind - 1) = z
  generalize hk : clsR x s = k
  (refine enter Tryz.func259 rfl rfl hS ?_; simp only [List.zipIdx_cons, List.zipIdx_nil, List.map_cons, List.map_nil, Nat.reduceAdd, Nat.zero_add])
  refine wSeq (wRegion' (oBox rfl (by repeat constructor) (fun b5 => ?_)))
  refine oBox rfl (by repeat constructor) (fun b6 => ?_)
  refine oBox rfl (by repeat constructor) (fun b7 => ?_)
  refine oAssign rfl (oNil (thn_n (wSeq (wRegion' (oFld (n := 3) (m := 3) rfl rfl rfl (oLd rfl (by repeat constructor) rfl rfl ?_))))))
  refine oAssign rfl (oNil (thn_n (wSeq (wSeq (wRegion' (oFld (n := 0) (m := 0) rfl rfl rfl (oLd rfl (by repeat constructor) rfl rfl ?_)))))))
  refine oEql rfl rfl (oMove rfl ?_)
  first | refine oSplit (t := 17) rfl (fun h17 => ?_) (fun h17 => ?_) | refine oSplitB (t := 17) rfl (fun h17 => ?_) (fun h17 => ?_)
  ·
   refine oSkip rfl rfl rfl rfl (oSkip rfl rfl rfl rfl (oSkip rfl rfl rfl rfl (oPickT rfl rfl (oMove rfl (oSkip rfl rfl rfl rfl (oSkip rfl rfl rfl rfl (oSkip rfl rfl rfl rfl (oPickT rfl rfl (oNil (thn_n ?_))))))))))
   first | refine wCondT rfl ?_ | refine wCondTd h26 rfl ?_ | refine wCondTb h26 rfl ?_
   refine wRegion' (oFld (n := 3) (m := 3) rfl rfl rfl (oLd rfl (by repeat constructor) rfl rfl ?_))
   refine oAssign rfl (oNil (thn_n (wSeq (wSeq (wRegion' (oFld (n := 0) (m := 0) rfl rfl rfl (oLd rfl (by repeat constructor) rfl rfl ?_)))))))
   refine oEql rfl rfl (oNil (thn_n (wC (fun h31 => ?_) (fun h31 => ?_))))
   ·
    refine wRegion' (oFld (n := 3) (m := 3) rfl rfl rfl (oLd rfl (by repeat constructor) rfl rfl ?_))
    refine oSubW rfl rfl ?_
    rw [hz]
    refine oAssign rfl (oNil (thn_n (wSeq (wRegion' (oMove rfl ?_)))))
    refine oSet (t := 11) (v' := .int .i64 k) rfl (by rw [← hk, ← hz]; unfold clsR; rw [if_pos h31]) ?_
    refine oNil (thn_n (wBlock (wSeq (wSeq (wRegion' (oEql rfl rfl (oAssign rfl (oNil (thn_n (wC (fun h36 => ?_) (fun h36 => ?_)))))))))))
    ·
     refine wSkip (thn_n ?_)
     first | refine wCondT rfl ?_ | refine wCondTd h36 rfl ?_ | refine wCondTb h36 rfl ?_
     refine wSeq (wRegion' (oLdA rfl (by repeat constructor) rfl (by repeat constructor) ?_))
     refine oMove rfl ?_
     (refine oCall rfl (by kernel_rfl) (fun w hS => frame hS (by repeat' constructor) (fun B' hB hS' => ref17_slot hS' f _ (kApiFunc.K_grow hB hf) n 0)) ?_; rintro ⟨⟩ -)
     refine oAssign rfl (oNil (thn_n (wRet (blk_r (fin_r (fi1 rfl ?_))))))
     exact ⟨(), trivial, by unfold operK; rw [if_pos (by omega)]; rfl, Lh⟩
    refine wRegion' (oEql rfl rfl ?_)
    have hl119 : ¬ letter = 119 := h36
    refine oAssign rfl (oNil (thn_n (wC (fun h36 => ?_) (fun h36 => ?_))))
    ·
     refine wSeq (wRegion' (oLdA rfl (by repeat constructor) rfl (by repeat constructor) ?_))
     refine oMove rfl ?_
     (refine oCall rfl (by kernel_rfl) (fun w hS => frame hS (by repeat' constructor) (fun B' hB hS' => ref17_slot hS' f _ (kApiFunc.K_grow hB hf) n 0)) ?_; rintro ⟨⟩ -)
     refine oAssign rfl (oNil (thn_n (wRet (blk_r (fin_r (fi1 rfl ?_))))))
     exact ⟨(), trivial, by unfold operK; rw [if_pos (by omega)]; rfl, Lh⟩
    refine wSeq (wSeq (wRegion' (oEql rfl rfl (oAssign rfl (oNil (thn_n (wC (fun h42 => ?_) (fun h42 => ?_))))))))
    ·
     refine wSkip (thn_n ?_)
     first | refine wCondT rfl ?_ | refine wCondTd h42 rfl ?_ | refine wCondTb h42 rfl ?_
     refine wSeq (wRegion' (oLdA rfl (by repeat constructor) rfl (by repeat constructor) ?_))
     refine oMove rfl (oMove rfl (oAddW rfl rfl ?_))
     (refine oCall rfl (by kernel_rfl) (fun w hS => frame hS (by repeat' constructor) (fun B' hB hS' => ref17_slot hS' f _ (kApiFunc.K_grow hB hf) n (IntKind.i64.wrap (1 + k)))) ?_; rintro ⟨⟩ -)
     refine oAssign rfl (oNil (thn_n (wRet (blk_r (fin_r (fi1 rfl ?_))))))
     exact ⟨(), trivial, by unfold operK; rw [if_neg (by omega), if_pos (by omega)]; rfl, Lh⟩
    refine wRegion' (oEql rfl rfl ?_)
    have hl103 : ¬ letter = 103 := h42
    refine oAssign rfl (oNil (thn_n (wC (fun h42 => ?_) (fun h42 => ?_))))
    ·
     refine wSeq (wRegion' (oLdA rfl (by repeat constructor) rfl (by repeat constructor) ?_))
     refine oMove rfl (oMove rfl (oAddW rfl rfl ?_))
     (refine oCall rfl (by kernel_rfl) (fun w hS => frame hS (by repeat' constructor) (fun B' hB hS' => ref17_slot hS' f _ (kApiFunc.K_grow hB hf) n (IntKind.i64.wrap (1 + k)))) ?_; rintro ⟨⟩ -)
     refine oAssign rfl (oNil (thn_n (wRet (blk_r (fin_r (fi1 rfl ?_))))))
     exact ⟨(), trivial, by unfold operK; rw [if_neg (by omega), if_pos (by omega)]; rfl, Lh⟩
    refine wSeq (wRegion' (oEql rfl rfl (oAssign rfl (oNil (thn_n (wC (fun h50 => ?_) (fun h50 => ?_)))))))
    ·
     refine wSeq (wRegion' (oLdA rfl (by repeat constructor) rfl (by repeat constructor) ?_))
     refine oMove rfl (oMove rfl ?_)
     (refine oCall rfl (by kernel_rfl) (fun w hS => frame hS (by repeat' constructor) (fun B' hB hS' => ref17_called hS' f _ (kApiFunc.K_grow hB hf) n k)) ?_; rintro ⟨⟩ -)
     refine oAssign rfl (oNil (thn_n (wRet (blk_r (fin_r (fi1 rfl ?_))))))
     exact ⟨(), trivial, by unfold operK; rw [if_neg (by omega), if_neg (by omega), if_pos h50]; rfl, Lh⟩
    refine wSeq (wRegion' (oEql rfl rfl (oAssign rfl (oNil (thn_n (wC (fun h56 => ?_) (fun h56 => ?_)))))))
    ·
     refine wSeq (wDrawG rfl [0, 1, 2] [(3, [0, 1], [4]), (5, [], [])] [6] 24 (by kernel_rfl) rfl rfl (fun w0 => ?_))
     refine oLdA rfl (by repeat constructor) rfl (by repeat constructor) ?_
     refine oMove rfl (oMove rfl (oLkSegG (oSegG rfl ?_)))
     (refine oCall rfl (by kernel_rfl) (fun w hS => frame hS (by repeat' constructor) (fun B' hB hS' => ref5_Params hS' k)) ?_; rintro ⟨⟩ -)
     refine oAgainG ?_ rfl (fun w0 => ?_)
     ·
      refine AgainG.cons rfl rfl rfl rfl (fun w0 => ?_) ?_
      ·
       refine oLdA rfl (by repeat constructor) rfl (by repeat constructor) ?_
       exact oLkHas rfl
      refine AgainG.cons rfl rfl rfl rfl (fun w0 => ?_) ?_
      ·
       refine oMove rfl ?_
       exact oLkHas rfl
      exact AgainG.nil
     refine oGtr rfl rfl (oLkSegG (oSegG rfl ?_))
     (refine oCall rfl (by kernel_rfl) (fun w hS => frame hS (by repeat' constructor) (fun B' hB hS' => ref17_perhaps hS' f _ (kApiFunc.K_grow hB hf) n (decide (0 < parF k)))) ?_; rintro ⟨⟩ -)
     refine oAgainG ?_ rfl (fun w0 => ?_)
     ·
      exact AgainG.nil
     refine oTailG (oAssign rfl (oNil (thn_n (wRet (blk_r (fin_r (fi1 rfl ?_)))))))
     have hpn := parF_in k
     have hop : operK f k letter n = lateF f.fKinds k n := by unfold operK; rw [if_neg (show ¬ (letter = 119 ∨ letter = 114) by omega), if_neg (show ¬ (letter = 103 ∨ letter = 102) by omega), if_neg h50, if_pos h56]
     exact ⟨(), trivial, by rw [hop, late_perhaps]; rfl, Lh⟩
    refine wSeq (wRegion' (oEql rfl rfl (oAssign rfl (oNil (thn_n (wC (fun h64 => ?_) (fun h64 => ?_)))))))
    ·
     refine wSeq (wDrawG rfl [0, 1, 2, 3] [(4, [0, 1], []), (5, [], [])] [6] 24 (by kernel_rfl) rfl rfl (fun w0 => ?_))
     refine oLdA rfl (by repeat constructor) rfl (by repeat constructor) ?_
     refine oMove rfl (oFld (n := 0) (m := 0) rfl rfl rfl (oLd rfl (by repeat constructor) rfl rfl ?_))
     refine oLkSegG (oSegG rfl ?_)
     (refine oCall rfl (by kernel_rfl) (fun w hS => frame hS (by repeat' constructor) (fun B' hB hS' => ref5_Answers hS' f.fClass)) ?_; rintro ⟨⟩ -)
     refine oAgainG ?_ rfl (fun w0 => ?_)
     ·
      refine AgainG.cons rfl rfl rfl rfl (fun w0 => ?_) ?_
      ·
       refine oLdA rfl (by repeat constructor) rfl (by repeat constructor) ?_
       exact oLkHas rfl
      refine AgainG.cons rfl rfl rfl rfl (fun w0 => ?_) ?_
      ·
       refine oMove rfl ?_
       exact oLkHas rfl
      exact AgainG.nil
     refine oLkSegG (oSegG rfl ?_)
     (refine oCall rfl (by kernel_rfl) (fun w hS => frame hS (by repeat' constructor) (fun B' hB hS' => ref17_perhaps hS' f _ (kApiFunc.K_grow hB hf) n (ansF f.fClass))) ?_; rintro ⟨⟩ -)
     refine oAgainG ?_ rfl (fun w0 => ?_)
     ·
      exact AgainG.nil
     refine oTailG (oAssign rfl (oNil (thn_n (wRet (blk_r (fin_r (fi1 rfl ?_)))))))
     have hop : operK f k letter n = answF f.fKinds f.fClass n := by unfold operK; rw [if_neg (show ¬ (letter = 119 ∨ letter = 114) by omega), if_neg (show ¬ (letter = 103 ∨ letter = 102) by omega), if_neg h50, if_neg h56, if_pos h64]
     exact ⟨(), trivial, by rw [hop]; rfl, Lh⟩
    refine wSeq (wRegion' (oAssign rfl (oNil (thn_n (wRet (blk_r (fin_r (fi1 rfl ?_))))))))
    exact ⟨(), trivial, by unfold operK; rw [if_neg (by omega), if_neg (by omega), if_neg h50, if_neg h56, if_neg h64]; rfl, Lh⟩
   refine wSkip (thn_n (wSeq (wRegion' (oMove rfl ?_))))
   refine oSet (t := 11) (v' := .int .i64 k) rfl (by rw [← hk]; unfold clsR; rw [if_neg h31, if_pos (by omega)]) ?_
   refine oNil (thn_n (wBlock (wSeq (wSeq (wRegion' (oEql rfl rfl (oAssign rfl (oNil (thn_n (wC (fun h36 => ?_) (fun h36 => ?_)))))))))))
   ·
    refine wSkip (thn_n ?_)
    first | refine wCondT rfl ?_ | refine wCondTd h36 rfl ?_ | refine wCondTb h36 rfl ?_
    refine wSeq (wRegion' (oLdA rfl (by repeat constructor) rfl (by repeat constructor) ?_))
    refine oMove rfl ?_
    (refine oCall rfl (by kernel_rfl) (fun w hS => frame hS (by repeat' constructor) (fun B' hB hS' => ref17_slot hS' f _ (kApiFunc.K_grow hB hf) n 0)) ?_; rintro ⟨⟩ -)
    refine oAssign rfl (oNil (thn_n (wRet (blk_r (fin_r (fi1 rfl ?_))))))
    exact ⟨(), trivial, by unfold operK; rw [if_pos (by omega)]; rfl, Lh⟩
   refine wRegion' (oEql rfl rfl ?_)
   have hl119 : ¬ letter = 119 := h36
   refine oAssign rfl (oNil (thn_n (wC (fun h36 => ?_) (fun h36 => ?_))))
   ·
    refine wSeq (wRegion' (oLdA rfl (by repeat constructor) rfl (by repeat constructor) ?_))
    refine oMove rfl ?_
    (refine oCall rfl (by kernel_rfl) (fun w hS => frame hS (by repeat' constructor) (fun B' hB hS' => ref17_slot hS' f _ (kApiFunc.K_grow hB hf) n 0)) ?_; rintro ⟨⟩ -)
    refine oAssign rfl (oNil (thn_n (wRet (blk_r (fin_r (fi1 rfl ?_))))))
    exact ⟨(), trivial, by unfold operK; rw [if_pos (by omega)]; rfl, Lh⟩
   refine wSeq (wSeq (wRegion' (oEql rfl rfl (oAssign rfl (oNil (thn_n (wC (fun h42 => ?_) (fun h42 => ?_))))))))
   ·
    refine wSkip (thn_n ?_)
    first | refine wCondT rfl ?_ | refine wCondTd h42 rfl ?_ | refine wCondTb h42 rfl ?_
    refine wSeq (wRegion' (oLdA rfl (by repeat constructor) rfl (by repeat constructor) ?_))
    refine oMove rfl (oMove rfl (oAddW rfl rfl ?_))
    (refine oCall rfl (by kernel_rfl) (fun w hS => frame hS (by repeat' constructor) (fun B' hB hS' => ref17_slot hS' f _ (kApiFunc.K_grow hB hf) n (IntKind.i64.wrap (1 + k)))) ?_; rintro ⟨⟩ -)
    refine oAssign rfl (oNil (thn_n (wRet (blk_r (fin_r (fi1 rfl ?_))))))
    exact ⟨(), trivial, by unfold operK; rw [if_neg (by omega), if_pos (by omega)]; rfl, Lh⟩
   refine wRegion' (oEql rfl rfl ?_)
   have hl103 : ¬ letter = 103 := h42
   refine oAssign rfl (oNil (thn_n (wC (fun h42 => ?_) (fun h42 => ?_))))
   ·
    refine wSeq (wRegion' (oLdA rfl (by repeat constructor) rfl (by repeat constructor) ?_))
    refine oMove rfl (oMove rfl (oAddW rfl rfl ?_))
    (refine oCall rfl (by kernel_rfl) (fun w hS => frame hS (by repeat' constructor) (fun B' hB hS' => ref17_slot hS' f _ (kApiFunc.K_grow hB hf) n (IntKind.i64.wrap (1 + k)))) ?_; rintro ⟨⟩ -)
    refine oAssign rfl (oNil (thn_n (wRet (blk_r (fin_r (fi1 rfl ?_))))))
    exact ⟨(), trivial, by unfold operK; rw [if_neg (by omega), if_pos (by omega)]; rfl, Lh⟩
   refine wSeq (wRegion' (oEql rfl rfl (oAssign rfl (oNil (thn_n (wC (fun h50 => ?_) (fun h50 => ?_)))))))
   ·
    refine wSeq (wRegion' (oLdA rfl (by repeat constructor) rfl (by repeat constructor) ?_))
    refine oMove rfl (oMove rfl ?_)
    (refine oCall rfl (by kernel_rfl) (fun w hS => frame hS (by repeat' constructor) (fun B' hB hS' => ref17_called hS' f _ (kApiFunc.K_grow hB hf) n k)) ?_; rintro ⟨⟩ -)
    refine oAssign rfl (oNil (thn_n (wRet (blk_r (fin_r (fi1 rfl ?_))))))
    exact ⟨(), trivial, by unfold operK; rw [if_neg (by omega), if_neg (by omega), if_pos h50]; rfl, Lh⟩
   refine wSeq (wRegion' (oEql rfl rfl (oAssign rfl (oNil (thn_n (wC (fun h56 => ?_) (fun h56 => ?_)))))))
   ·
    refine wSeq (wDrawG rfl [0, 1, 2] [(3, [0, 1], [4]), (5, [], [])] [6] 24 (by kernel_rfl) rfl rfl (fun w0 => ?_))
    refine oLdA rfl (by repeat constructor) rfl (by repeat constructor) ?_
    refine oMove rfl (oMove rfl (oLkSegG (oSegG rfl ?_)))
    (refine oCall rfl (by kernel_rfl) (fun w hS => frame hS (by repeat' constructor) (fun B' hB hS' => ref5_Params hS' k)) ?_; rintro ⟨⟩ -)
    refine oAgainG ?_ rfl (fun w0 => ?_)
    ·
     refine AgainG.cons rfl rfl rfl rfl (fun w0 => ?_) ?_
     ·
      refine oLdA rfl (by repeat constructor) rfl (by repeat constructor) ?_
      exact oLkHas rfl
     refine AgainG.cons rfl rfl rfl rfl (fun w0 => ?_) ?_
     ·
      refine oMove rfl ?_
      exact oLkHas rfl
     exact AgainG.nil
    refine oGtr rfl rfl (oLkSegG (oSegG rfl ?_))
    (refine oCall rfl (by kernel_rfl) (fun w hS => frame hS (by repeat' constructor) (fun B' hB hS' => ref17_perhaps hS' f _ (kApiFunc.K_grow hB hf) n (decide (0 < parF k)))) ?_; rintro ⟨⟩ -)
    refine oAgainG ?_ rfl (fun w0 => ?_)
    ·
     exact AgainG.nil
    refine oTailG (oAssign rfl (oNil (thn_n (wRet (blk_r (fin_r (fi1 rfl ?_)))))))
    have hpn := parF_in k
    have hop : operK f k letter n = lateF f.fKinds k n := by unfold operK; rw [if_neg (show ¬ (letter = 119 ∨ letter = 114) by omega), if_neg (show ¬ (letter = 103 ∨ letter = 102) by omega), if_neg h50, if_pos h56]
    exact ⟨(), trivial, by rw [hop, late_perhaps]; rfl, Lh⟩
   refine wSeq (wRegion' (oEql rfl rfl (oAssign rfl (oNil (thn_n (wC (fun h64 => ?_) (fun h64 => ?_)))))))
   ·
    refine wSeq (wDrawG rfl [0, 1, 2, 3] [(4, [0, 1], []), (5, [], [])] [6] 24 (by kernel_rfl) rfl rfl (fun w0 => ?_))
    refine oLdA rfl (by repeat constructor) rfl (by repeat constructor) ?_
    refine oMove rfl (oFld (n := 0) (m := 0) rfl rfl rfl (oLd rfl (by repeat constructor) rfl rfl ?_))
    refine oLkSegG (oSegG rfl ?_)
    (refine oCall rfl (by kernel_rfl) (fun w hS => frame hS (by repeat' constructor) (fun B' hB hS' => ref5_Answers hS' f.fClass)) ?_; rintro ⟨⟩ -)
    refine oAgainG ?_ rfl (fun w0 => ?_)
    ·
     refine AgainG.cons rfl rfl rfl rfl (fun w0 => ?_) ?_
     ·
      refine oLdA rfl (by repeat constructor) rfl (by repeat constructor) ?_
      exact oLkHas rfl
     refine AgainG.cons rfl rfl rfl rfl (fun w0 => ?_) ?_
     ·
      refine oMove rfl ?_
      exact oLkHas rfl
     exact AgainG.nil
    refine oLkSegG (oSegG rfl ?_)
    (refine oCall rfl (by kernel_rfl) (fun w hS => frame hS (by repeat' constructor) (fun B' hB hS' => ref17_perhaps hS' f _ (kApiFunc.K_grow hB hf) n (ansF f.fClass))) ?_; rintro ⟨⟩ -)
    refine oAgainG ?_ rfl (fun w0 => ?_)
    ·
     exact AgainG.nil
    refine oTailG (oAssign rfl (oNil (thn_n (wRet (blk_r (fin_r (fi1 rfl ?_)))))))
    have hop : operK f k letter n = answF f.fKinds f.fClass n := by unfold operK; rw [if_neg (show ¬ (letter = 119 ∨ letter = 114) by omega), if_neg (show ¬ (letter = 103 ∨ letter = 102) by omega), if_neg h50, if_neg h56, if_pos h64]
    exact ⟨(), trivial, by rw [hop]; rfl, Lh⟩
   refine wSeq (wRegion' (oAssign rfl (oNil (thn_n (wRet (blk_r (fin_r (fi1 rfl ?_))))))))
   exact ⟨(), trivial, by unfold operK; rw [if_neg (by omega), if_neg (by omega), if_neg h50, if_neg h56, if_neg h64]; rfl, Lh⟩
  refine oWant rfl rfl (oFld (n := 0) (m := 0) rfl rfl rfl (oWant rfl rfl (oLd rfl (by repeat constructor) rfl rfl ?_)))
  refine oWant rfl rfl (oEql rfl rfl (oPickF rfl rfl (oMove rfl ?_)))
  first | refine oSplit (t := 22) rfl (fun h22 => ?_) (fun h22 => ?_) | refine oSplitB (t := 22) rfl (fun h22 => ?_) (fun h22 => ?_)
  ·
   refine oSkip rfl rfl rfl rfl (oSkip rfl rfl rfl rfl (oSkip rfl rfl rfl rfl (oPickT rfl rfl (oNil (thn_n ?_)))))
   first | refine wCondT rfl ?_ | refine wCondTd h26 rfl ?_ | refine wCondTb h26 rfl ?_
   refine wRegion' (oFld (n := 3) (m := 3) rfl rfl rfl (oLd rfl (by repeat constructor) rfl rfl ?_))
   refine oAssign rfl (oNil (thn_n (wSeq (wSeq (wRegion' (oFld (n := 0) (m := 0) rfl rfl rfl (oLd rfl (by repeat constructor) rfl rfl ?_)))))))
   refine oEql rfl rfl (oNil (thn_n (wC (fun h31 => ?_) (fun h31 => ?_))))
   ·
    refine wRegion' (oFld (n := 3) (m := 3) rfl rfl rfl (oLd rfl (by repeat constructor) rfl rfl ?_))
    refine oSubW rfl rfl ?_
    rw [hz]
    refine oAssign rfl (oNil (thn_n (wSeq (wRegion' (oMove rfl ?_)))))
    refine oSet (t := 11) (v' := .int .i64 k) rfl (by rw [← hk, ← hz]; unfold clsR; rw [if_pos h31]) ?_
    refine oNil (thn_n (wBlock (wSeq (wSeq (wRegion' (oEql rfl rfl (oAssign rfl (oNil (thn_n (wC (fun h36 => ?_) (fun h36 => ?_)))))))))))
    ·
     refine wSkip (thn_n ?_)
     first | refine wCondT rfl ?_ | refine wCondTd h36 rfl ?_ | refine wCondTb h36 rfl ?_
     refine wSeq (wRegion' (oLdA rfl (by repeat constructor) rfl (by repeat constructor) ?_))
     refine oMove rfl ?_
     (refine oCall rfl (by kernel_rfl) (fun w hS => frame hS (by repeat' constructor) (fun B' hB hS' => ref17_slot hS' f _ (kApiFunc.K_grow hB hf) n 0)) ?_; rintro ⟨⟩ -)
     refine oAssign rfl (oNil (thn_n (wRet (blk_r (fin_r (fi1 rfl ?_))))))
     exact ⟨(), trivial, by unfold operK; rw [if_pos (by omega)]; rfl, Lh⟩
    refine wRegion' (oEql rfl rfl ?_)
    have hl119 : ¬ letter = 119 := h36
    refine oAssign rfl (oNil (thn_n (wC (fun h36 => ?_) (fun h36 => ?_))))
    ·
     refine wSeq (wRegion' (oLdA rfl (by repeat constructor) rfl (by repeat constructor) ?_))
     refine oMove rfl ?_
     (refine oCall rfl (by kernel_rfl) (fun w hS => frame hS (by repeat' constructor) (fun B' hB hS' => ref17_slot hS' f _ (kApiFunc.K_grow hB hf) n 0)) ?_; rintro ⟨⟩ -)
     refine oAssign rfl (oNil (thn_n (wRet (blk_r (fin_r (fi1 rfl ?_))))))
     exact ⟨(), trivial, by unfold operK; rw [if_pos (by omega)]; rfl, Lh⟩
    refine wSeq (wSeq (wRegion' (oEql rfl rfl (oAssign rfl (oNil (thn_n (wC (fun h42 => ?_) (fun h42 => ?_))))))))
    ·
     refine wSkip (thn_n ?_)
     first | refine wCondT rfl ?_ | refine wCondTd h42 rfl ?_ | refine wCondTb h42 rfl ?_
     refine wSeq (wRegion' (oLdA rfl (by repeat constructor) rfl (by repeat constructor) ?_))
     refine oMove rfl (oMove rfl (oAddW rfl rfl ?_))
     (refine oCall rfl (by kernel_rfl) (fun w hS => frame hS (by repeat' constructor) (fun B' hB hS' => ref17_slot hS' f _ (kApiFunc.K_grow hB hf) n (IntKind.i64.wrap (1 + k)))) ?_; rintro ⟨⟩ -)
     refine oAssign rfl (oNil (thn_n (wRet (blk_r (fin_r (fi1 rfl ?_))))))
     exact ⟨(), trivial, by unfold operK; rw [if_neg (by omega), if_pos (by omega)]; rfl, Lh⟩
    refine wRegion' (oEql rfl rfl ?_)
    have hl103 : ¬ letter = 103 := h42
    refine oAssign rfl (oNil (thn_n (wC (fun h42 => ?_) (fun h42 => ?_))))
    ·
     refine wSeq (wRegion' (oLdA rfl (by repeat constructor) rfl (by repeat constructor) ?_))
     refine oMove rfl (oMove rfl (oAddW rfl rfl ?_))
     (refine oCall rfl (by kernel_rfl) (fun w hS => frame hS (by repeat' constructor) (fun B' hB hS' => ref17_slot hS' f _ (kApiFunc.K_grow hB hf) n (IntKind.i64.wrap (1 + k)))) ?_; rintro ⟨⟩ -)
     refine oAssign rfl (oNil (thn_n (wRet (blk_r (fin_r (fi1 rfl ?_))))))
     exact ⟨(), trivial, by unfold operK; rw [if_neg (by omega), if_pos (by omega)]; rfl, Lh⟩
    refine wSeq (wRegion' (oEql rfl rfl (oAssign rfl (oNil (thn_n (wC (fun h50 => ?_) (fun h50 => ?_)))))))
    ·
     refine wSeq (wRegion' (oLdA rfl (by repeat constructor) rfl (by repeat constructor) ?_))
     refine oMove rfl (oMove rfl ?_)
     (refine oCall rfl (by kernel_rfl) (fun w hS => frame hS (by repeat' constructor) (fun B' hB hS' => ref17_called hS' f _ (kApiFunc.K_grow hB hf) n k)) ?_; rintro ⟨⟩ -)
     refine oAssign rfl (oNil (thn_n (wRet (blk_r (fin_r (fi1 rfl ?_))))))
     exact ⟨(), trivial, by unfold operK; rw [if_neg (by omega), if_neg (by omega), if_pos h50]; rfl, Lh⟩
    refine wSeq (wRegion' (oEql rfl rfl (oAssign rfl (oNil (thn_n (wC (fun h56 => ?_) (fun h56 => ?_)))))))
    ·
     refine wSeq (wDrawG rfl [0, 1, 2] [(3, [0, 1], [4]), (5, [], [])] [6] 24 (by kernel_rfl) rfl rfl (fun w0 => ?_))
     refine oLdA rfl (by repeat constructor) rfl (by repeat constructor) ?_
     refine oMove rfl (oMove rfl (oLkSegG (oSegG rfl ?_)))
     (refine oCall rfl (by kernel_rfl) (fun w hS => frame hS (by repeat' constructor) (fun B' hB hS' => ref5_Params hS' k)) ?_; rintro ⟨⟩ -)
     refine oAgainG ?_ rfl (fun w0 => ?_)
     ·
      refine AgainG.cons rfl rfl rfl rfl (fun w0 => ?_) ?_
      ·
       refine oLdA rfl (by repeat constructor) rfl (by repeat constructor) ?_
       exact oLkHas rfl
      refine AgainG.cons rfl rfl rfl rfl (fun w0 => ?_) ?_
      ·
       refine oMove rfl ?_
       exact oLkHas rfl
      exact AgainG.nil
     refine oGtr rfl rfl (oLkSegG (oSegG rfl ?_))
     (refine oCall rfl (by kernel_rfl) (fun w hS => frame hS (by repeat' constructor) (fun B' hB hS' => ref17_perhaps hS' f _ (kApiFunc.K_grow hB hf) n (decide (0 < parF k)))) ?_; rintro ⟨⟩ -)
     refine oAgainG ?_ rfl (fun w0 => ?_)
     ·
      exact AgainG.nil
     refine oTailG (oAssign rfl (oNil (thn_n (wRet (blk_r (fin_r (fi1 rfl ?_)))))))
     have hpn := parF_in k
     have hop : operK f k letter n = lateF f.fKinds k n := by unfold operK; rw [if_neg (show ¬ (letter = 119 ∨ letter = 114) by omega), if_neg (show ¬ (letter = 103 ∨ letter = 102) by omega), if_neg h50, if_pos h56]
     exact ⟨(), trivial, by rw [hop, late_perhaps]; rfl, Lh⟩
    refine wSeq (wRegion' (oEql rfl rfl (oAssign rfl (oNil (thn_n (wC (fun h64 => ?_) (fun h64 => ?_)))))))
    ·
     refine wSeq (wDrawG rfl [0, 1, 2, 3] [(4, [0, 1], []), (5, [], [])] [6] 24 (by kernel_rfl) rfl rfl (fun w0 => ?_))
     refine oLdA rfl (by repeat constructor) rfl (by repeat constructor) ?_
     refine oMove rfl (oFld (n := 0) (m := 0) rfl rfl rfl (oLd rfl (by repeat constructor) rfl rfl ?_))
     refine oLkSegG (oSegG rfl ?_)
     (refine oCall rfl (by kernel_rfl) (fun w hS => frame hS (by repeat' constructor) (fun B' hB hS' => ref5_Answers hS' f.fClass)) ?_; rintro ⟨⟩ -)
     refine oAgainG ?_ rfl (fun w0 => ?_)
     ·
      refine AgainG.cons rfl rfl rfl rfl (fun w0 => ?_) ?_
      ·
       refine oLdA rfl (by repeat constructor) rfl (by repeat constructor) ?_
       exact oLkHas rfl
      refine AgainG.cons rfl rfl rfl rfl (fun w0 => ?_) ?_
      ·
       refine oMove rfl ?_
       exact oLkHas rfl
      exact AgainG.nil
     refine oLkSegG (oSegG rfl ?_)
     (refine oCall rfl (by kernel_rfl) (fun w hS => frame hS (by repeat' constructor) (fun B' hB hS' => ref17_perhaps hS' f _ (kApiFunc.K_grow hB hf) n (ansF f.fClass))) ?_; rintro ⟨⟩ -)
     refine oAgainG ?_ rfl (fun w0 => ?_)
     ·
      exact AgainG.nil
     refine oTailG (oAssign rfl (oNil (thn_n (wRet (blk_r (fin_r (fi1 rfl ?_)))))))
     have hop : operK f k letter n = answF f.fKinds f.fClass n := by unfold operK; rw [if_neg (show ¬ (letter = 119 ∨ letter = 114) by omega), if_neg (show ¬ (letter = 103 ∨ letter = 102) by omega), if_neg h50, if_neg h56, if_pos h64]
     exact ⟨(), trivial, by rw [hop]; rfl, Lh⟩
    refine wSeq (wRegion' (oAssign rfl (oNil (thn_n (wRet (blk_r (fin_r (fi1 rfl ?_))))))))
    exact ⟨(), trivial, by unfold operK; rw [if_neg (by omega), if_neg (by omega), if_neg h50, if_neg h56, if_neg h64]; rfl, Lh⟩
   refine wSkip (thn_n (wSeq (wRegion' (oMove rfl ?_))))
   refine oSet (t := 11) (v' := .int .i64 k) rfl (by rw [← hk]; unfold clsR; rw [if_neg h31, if_pos (by omega)]) ?_
   refine oNil (thn_n (wBlock (wSeq (wSeq (wRegion' (oEql rfl rfl (oAssign rfl (oNil (thn_n (wC (fun h36 => ?_) (fun h36 => ?_)))))))))))
   ·
    refine wSkip (thn_n ?_)
    first | refine wCondT rfl ?_ | refine wCondTd h36 rfl ?_ | refine wCondTb h36 rfl ?_
    refine wSeq (wRegion' (oLdA rfl (by repeat constructor) rfl (by repeat constructor) ?_))
    refine oMove rfl ?_
    (refine oCall rfl (by kernel_rfl) (fun w hS => frame hS (by repeat' constructor) (fun B' hB hS' => ref17_slot hS' f _ (kApiFunc.K_grow hB hf) n 0)) ?_; rintro ⟨⟩ -)
    refine oAssign rfl (oNil (thn_n (wRet (blk_r (fin_r (fi1 rfl ?_))))))
    exact ⟨(), trivial, by unfold operK; rw [if_pos (by omega)]; rfl, Lh⟩
   refine wRegion' (oEql rfl rfl ?_)
   have hl119 : ¬ letter = 119 := h36
   refine oAssign rfl (oNil (thn_n (wC (fun h36 => ?_) (fun h36 => ?_))))
   ·
    refine wSeq (wRegion' (oLdA rfl (by repeat constructor) rfl (by repeat constructor) ?_))
    refine oMove rfl ?_
    (refine oCall rfl (by kernel_rfl) (fun w hS => frame hS (by repeat' constructor) (fun B' hB hS' => ref17_slot hS' f _ (kApiFunc.K_grow hB hf) n 0)) ?_; rintro ⟨⟩ -)
    refine oAssign rfl (oNil (thn_n (wRet (blk_r (fin_r (fi1 rfl ?_))))))
    exact ⟨(), trivial, by unfold operK; rw [if_pos (by omega)]; rfl, Lh⟩
   refine wSeq (wSeq (wRegion' (oEql rfl rfl (oAssign rfl (oNil (thn_n (wC (fun h42 => ?_) (fun h42 => ?_))))))))
   ·
    refine wSkip (thn_n ?_)
    first | refine wCondT rfl ?_ | refine wCondTd h42 rfl ?_ | refine wCondTb h42 rfl ?_
    refine wSeq (wRegion' (oLdA rfl (by repeat constructor) rfl (by repeat constructor) ?_))
    refine oMove rfl (oMove rfl (oAddW rfl rfl ?_))
    (refine oCall rfl (by kernel_rfl) (fun w hS => frame hS (by repeat' constructor) (fun B' hB hS' => ref17_slot hS' f _ (kApiFunc.K_grow hB hf) n (IntKind.i64.wrap (1 + k)))) ?_; rintro ⟨⟩ -)
    refine oAssign rfl (oNil (thn_n (wRet (blk_r (fin_r (fi1 rfl ?_))))))
    exact ⟨(), trivial, by unfold operK; rw [if_neg (by omega), if_pos (by omega)]; rfl, Lh⟩
   refine wRegion' (oEql rfl rfl ?_)
   have hl103 : ¬ letter = 103 := h42
   refine oAssign rfl (oNil (thn_n (wC (fun h42 => ?_) (fun h42 => ?_))))
   ·
    refine wSeq (wRegion' (oLdA rfl (by repeat constructor) rfl (by repeat constructor) ?_))
    refine oMove rfl (oMove rfl (oAddW rfl rfl ?_))
    (refine oCall rfl (by kernel_rfl) (fun w hS => frame hS (by repeat' constructor) (fun B' hB hS' => ref17_slot hS' f _ (kApiFunc.K_grow hB hf) n (IntKind.i64.wrap (1 + k)))) ?_; rintro ⟨⟩ -)
    refine oAssign rfl (oNil (thn_n (wRet (blk_r (fin_r (fi1 rfl ?_))))))
    exact ⟨(), trivial, by unfold operK; rw [if_neg (by omega), if_pos (by omega)]; rfl, Lh⟩
   refine wSeq (wRegion' (oEql rfl rfl (oAssign rfl (oNil (thn_n (wC (fun h50 => ?_) (fun h50 => ?_)))))))
   ·
    refine wSeq (wRegion' (oLdA rfl (by repeat constructor) rfl (by repeat constructor) ?_))
    refine oMove rfl (oMove rfl ?_)
    (refine oCall rfl (by kernel_rfl) (fun w hS => frame hS (by repeat' constructor) (fun B' hB hS' => ref17_called hS' f _ (kApiFunc.K_grow hB hf) n k)) ?_; rintro ⟨⟩ -)
    refine oAssign rfl (oNil (thn_n (wRet (blk_r (fin_r (fi1 rfl ?_))))))
    exact ⟨(), trivial, by unfold operK; rw [if_neg (by omega), if_neg (by omega), if_pos h50]; rfl, Lh⟩
   refine wSeq (wRegion' (oEql rfl rfl (oAssign rfl (oNil (thn_n (wC (fun h56 => ?_) (fun h56 => ?_)))))))
   ·
    refine wSeq (wDrawG rfl [0, 1, 2] [(3, [0, 1], [4]), (5, [], [])] [6] 24 (by kernel_rfl) rfl rfl (fun w0 => ?_))
    refine oLdA rfl (by repeat constructor) rfl (by repeat constructor) ?_
    refine oMove rfl (oMove rfl (oLkSegG (oSegG rfl ?_)))
    (refine oCall rfl (by kernel_rfl) (fun w hS => frame hS (by repeat' constructor) (fun B' hB hS' => ref5_Params hS' k)) ?_; rintro ⟨⟩ -)
    refine oAgainG ?_ rfl (fun w0 => ?_)
    ·
     refine AgainG.cons rfl rfl rfl rfl (fun w0 => ?_) ?_
     ·
      refine oLdA rfl (by repeat constructor) rfl (by repeat constructor) ?_
      exact oLkHas rfl
     refine AgainG.cons rfl rfl rfl rfl (fun w0 => ?_) ?_
     ·
      refine oMove rfl ?_
      exact oLkHas rfl
     exact AgainG.nil
    refine oGtr rfl rfl (oLkSegG (oSegG rfl ?_))
    (refine oCall rfl (by kernel_rfl) (fun w hS => frame hS (by repeat' constructor) (fun B' hB hS' => ref17_perhaps hS' f _ (kApiFunc.K_grow hB hf) n (decide (0 < parF k)))) ?_; rintro ⟨⟩ -)
    refine oAgainG ?_ rfl (fun w0 => ?_)
    ·
     exact AgainG.nil
    refine oTailG (oAssign rfl (oNil (thn_n (wRet (blk_r (fin_r (fi1 rfl ?_)))))))
    have hpn := parF_in k
    have hop : operK f k letter n = lateF f.fKinds k n := by unfold operK; rw [if_neg (show ¬ (letter = 119 ∨ letter = 114) by omega), if_neg (show ¬ (letter = 103 ∨ letter = 102) by omega), if_neg h50, if_pos h56]
    exact ⟨(), trivial, by rw [hop, late_perhaps]; rfl, Lh⟩
   refine wSeq (wRegion' (oEql rfl rfl (oAssign rfl (oNil (thn_n (wC (fun h64 => ?_) (fun h64 => ?_)))))))
   ·
    refine wSeq (wDrawG rfl [0, 1, 2, 3] [(4, [0, 1], []), (5, [], [])] [6] 24 (by kernel_rfl) rfl rfl (fun w0 => ?_))
    refine oLdA rfl (by repeat constructor) rfl (by repeat constructor) ?_
    refine oMove rfl (oFld (n := 0) (m := 0) rfl rfl rfl (oLd rfl (by repeat constructor) rfl rfl ?_))
    refine oLkSegG (oSegG rfl ?_)
    (refine oCall rfl (by kernel_rfl) (fun w hS => frame hS (by repeat' constructor) (fun B' hB hS' => ref5_Answers hS' f.fClass)) ?_; rintro ⟨⟩ -)
    refine oAgainG ?_ rfl (fun w0 => ?_)
    ·
     refine AgainG.cons rfl rfl rfl rfl (fun w0 => ?_) ?_
     ·
      refine oLdA rfl (by repeat constructor) rfl (by repeat constructor) ?_
      exact oLkHas rfl
     refine AgainG.cons rfl rfl rfl rfl (fun w0 => ?_) ?_
     ·
      refine oMove rfl ?_
      exact oLkHas rfl
     exact AgainG.nil
    refine oLkSegG (oSegG rfl ?_)
    (refine oCall rfl (by kernel_rfl) (fun w hS => frame hS (by repeat' constructor) (fun B' hB hS' => ref17_perhaps hS' f _ (kApiFunc.K_grow hB hf) n (ansF f.fClass))) ?_; rintro ⟨⟩ -)
    refine oAgainG ?_ rfl (fun w0 => ?_)
    ·
     exact AgainG.nil
    refine oTailG (oAssign rfl (oNil (thn_n (wRet (blk_r (fin_r (fi1 rfl ?_)))))))
    have hop : operK f k letter n = answF f.fKinds f.fClass n := by unfold operK; rw [if_neg (show ¬ (letter = 119 ∨ letter = 114) by omega), if_neg (show ¬ (letter = 103 ∨ letter = 102) by omega), if_neg h50, if_neg h56, if_pos h64]
    exact ⟨(), trivial, by rw [hop]; rfl, Lh⟩
   refine wSeq (wRegion' (oAssign rfl (oNil (thn_n (wRet (blk_r (fin_r (fi1 rfl ?_))))))))
   exact ⟨(), trivial, by unfold operK; rw [if_neg (by omega), if_neg (by omega), if_neg h50, if_neg h56, if_neg h64]; rfl, Lh⟩
  refine oWant rfl rfl (oFld (n := 0) (m := 0) rfl rfl rfl (oWant rfl rfl (oLd rfl (by repeat constructor) rfl rfl ?_)))
  refine oWant rfl rfl (oEql rfl rfl (oPickF rfl rfl (oNil (thn_n (wC (fun h26 => ?_) (fun h26 => ?_))))))
  ·
   refine wRegion' (oFld (n := 3) (m := 3) rfl rfl rfl (oLd rfl (by repeat constructor) rfl rfl ?_))
   refine oAssign rfl (oNil (thn_n (wSeq (wSeq (wRegion' (oFld (n := 0) (m := 0) rfl rfl rfl (oLd rfl (by repeat constructor) rfl rfl ?_)))))))
   refine oEql rfl rfl (oNil (thn_n (wC (fun h31 => ?_) (fun h31 => ?_))))
   ·
    refine wRegion' (oFld (n := 3) (m := 3) rfl rfl rfl (oLd rfl (by repeat constructor) rfl rfl ?_))
    refine oSubW rfl rfl ?_
    rw [hz]
    refine oAssign rfl (oNil (thn_n (wSeq (wRegion' (oMove rfl ?_)))))
    refine oSet (t := 11) (v' := .int .i64 k) rfl (by rw [← hk, ← hz]; unfold clsR; rw [if_pos h31]) ?_
    refine oNil (thn_n (wBlock (wSeq (wSeq (wRegion' (oEql rfl rfl (oAssign rfl (oNil (thn_n (wC (fun h36 => ?_) (fun h36 => ?_)))))))))))
    ·
     refine wSkip (thn_n ?_)
     first | refine wCondT rfl ?_ | refine wCondTd h36 rfl ?_ | refine wCondTb h36 rfl ?_
     refine wSeq (wRegion' (oLdA rfl (by repeat constructor) rfl (by repeat constructor) ?_))
     refine oMove rfl ?_
     (refine oCall rfl (by kernel_rfl) (fun w hS => frame hS (by repeat' constructor) (fun B' hB hS' => ref17_slot hS' f _ (kApiFunc.K_grow hB hf) n 0)) ?_; rintro ⟨⟩ -)
     refine oAssign rfl (oNil (thn_n (wRet (blk_r (fin_r (fi1 rfl ?_))))))
     exact ⟨(), trivial, by unfold operK; rw [if_pos (by omega)]; rfl, Lh⟩
    refine wRegion' (oEql rfl rfl ?_)
    have hl119 : ¬ letter = 119 := h36
    refine oAssign rfl (oNil (thn_n (wC (fun h36 => ?_) (fun h36 => ?_))))
    ·
     refine wSeq (wRegion' (oLdA rfl (by repeat constructor) rfl (by repeat constructor) ?_))
     refine oMove rfl ?_
     (refine oCall rfl (by kernel_rfl) (fun w hS => frame hS (by repeat' constructor) (fun B' hB hS' => ref17_slot hS' f _ (kApiFunc.K_grow hB hf) n 0)) ?_; rintro ⟨⟩ -)
     refine oAssign rfl (oNil (thn_n (wRet (blk_r (fin_r (fi1 rfl ?_))))))
     exact ⟨(), trivial, by unfold operK; rw [if_pos (by omega)]; rfl, Lh⟩
    refine wSeq (wSeq (wRegion' (oEql rfl rfl (oAssign rfl (oNil (thn_n (wC (fun h42 => ?_) (fun h42 => ?_))))))))
    ·
     refine wSkip (thn_n ?_)
     first | refine wCondT rfl ?_ | refine wCondTd h42 rfl ?_ | refine wCondTb h42 rfl ?_
     refine wSeq (wRegion' (oLdA rfl (by repeat constructor) rfl (by repeat constructor) ?_))
     refine oMove rfl (oMove rfl (oAddW rfl rfl ?_))
     (refine oCall rfl (by kernel_rfl) (fun w hS => frame hS (by repeat' constructor) (fun B' hB hS' => ref17_slot hS' f _ (kApiFunc.K_grow hB hf) n (IntKind.i64.wrap (1 + k)))) ?_; rintro ⟨⟩ -)
     refine oAssign rfl (oNil (thn_n (wRet (blk_r (fin_r (fi1 rfl ?_))))))
     exact ⟨(), trivial, by unfold operK; rw [if_neg (by omega), if_pos (by omega)]; rfl, Lh⟩
    refine wRegion' (oEql rfl rfl ?_)
    have hl103 : ¬ letter = 103 := h42
    refine oAssign rfl (oNil (thn_n (wC (fun h42 => ?_) (fun h42 => ?_))))
    ·
     refine wSeq (wRegion' (oLdA rfl (by repeat constructor) rfl (by repeat constructor) ?_))
     refine oMove rfl (oMove rfl (oAddW rfl rfl ?_))
     (refine oCall rfl (by kernel_rfl) (fun w hS => frame hS (by repeat' constructor) (fun B' hB hS' => ref17_slot hS' f _ (kApiFunc.K_grow hB hf) n (IntKind.i64.wrap (1 + k)))) ?_; rintro ⟨⟩ -)
     refine oAssign rfl (oNil (thn_n (wRet (blk_r (fin_r (fi1 rfl ?_))))))
     exact ⟨(), trivial, by unfold operK; rw [if_neg (by omega), if_pos (by omega)]; rfl, Lh⟩
    refine wSeq (wRegion' (oEql rfl rfl (oAssign rfl (oNil (thn_n (wC (fun h50 => ?_) (fun h50 => ?_)))))))
    ·
     refine wSeq (wRegion' (oLdA rfl (by repeat constructor) rfl (by repeat constructor) ?_))
     refine oMove rfl (oMove rfl ?_)
     (refine oCall rfl (by kernel_rfl) (fun w hS => frame hS (by repeat' constructor) (fun B' hB hS' => ref17_called hS' f _ (kApiFunc.K_grow hB hf) n k)) ?_; rintro ⟨⟩ -)
     refine oAssign rfl (oNil (thn_n (wRet (blk_r (fin_r (fi1 rfl ?_))))))
     exact ⟨(), trivial, by unfold operK; rw [if_neg (by omega), if_neg (by omega), if_pos h50]; rfl, Lh⟩
    refine wSeq (wRegion' (oEql rfl rfl (oAssign rfl (oNil (thn_n (wC (fun h56 => ?_) (fun h56 => ?_)))))))
    ·
     refine wSeq (wDrawG rfl [0, 1, 2] [(3, [0, 1], [4]), (5, [], [])] [6] 24 (by kernel_rfl) rfl rfl (fun w0 => ?_))
     refine oLdA rfl (by repeat constructor) rfl (by repeat constructor) ?_
     refine oMove rfl (oMove rfl (oLkSegG (oSegG rfl ?_)))
     (refine oCall rfl (by kernel_rfl) (fun w hS => frame hS (by repeat' constructor) (fun B' hB hS' => ref5_Params hS' k)) ?_; rintro ⟨⟩ -)
     refine oAgainG ?_ rfl (fun w0 => ?_)
     ·
      refine AgainG.cons rfl rfl rfl rfl (fun w0 => ?_) ?_
      ·
       refine oLdA rfl (by repeat constructor) rfl (by repeat constructor) ?_
       exact oLkHas rfl
      refine AgainG.cons rfl rfl rfl rfl (fun w0 => ?_) ?_
      ·
       refine oMove rfl ?_
       exact oLkHas rfl
      exact AgainG.nil
     refine oGtr rfl rfl (oLkSegG (oSegG rfl ?_))
     (refine oCall rfl (by kernel_rfl) (fun w hS => frame hS (by repeat' constructor) (fun B' hB hS' => ref17_perhaps hS' f _ (kApiFunc.K_grow hB hf) n (decide (0 < parF k)))) ?_; rintro ⟨⟩ -)
     refine oAgainG ?_ rfl (fun w0 => ?_)
     ·
      exact AgainG.nil
     refine oTailG (oAssign rfl (oNil (thn_n (wRet (blk_r (fin_r (fi1 rfl ?_)))))))
     have hpn := parF_in k
     have hop : operK f k letter n = lateF f.fKinds k n := by unfold operK; rw [if_neg (show ¬ (letter = 119 ∨ letter = 114) by omega), if_neg (show ¬ (letter = 103 ∨ letter = 102) by omega), if_neg h50, if_pos h56]
     exact ⟨(), trivial, by rw [hop, late_perhaps]; rfl, Lh⟩
    refine wSeq (wRegion' (oEql rfl rfl (oAssign rfl (oNil (thn_n (wC (fun h64 => ?_) (fun h64 => ?_)))))))
    ·
     refine wSeq (wDrawG rfl [0, 1, 2, 3] [(4, [0, 1], []), (5, [], [])] [6] 24 (by kernel_rfl) rfl rfl (fun w0 => ?_))
     refine oLdA rfl (by repeat constructor) rfl (by repeat constructor) ?_
     refine oMove rfl (oFld (n := 0) (m := 0) rfl rfl rfl (oLd rfl (by repeat constructor) rfl rfl ?_))
     refine oLkSegG (oSegG rfl ?_)
     (refine oCall rfl (by kernel_rfl) (fun w hS => frame hS (by repeat' constructor) (fun B' hB hS' => ref5_Answers hS' f.fClass)) ?_; rintro ⟨⟩ -)
     refine oAgainG ?_ rfl (fun w0 => ?_)
     ·
      refine AgainG.cons rfl rfl rfl rfl (fun w0 => ?_) ?_
      ·
       refine oLdA rfl (by repeat constructor) rfl (by repeat constructor) ?_
       exact oLkHas rfl
      refine AgainG.cons rfl rfl rfl rfl (fun w0 => ?_) ?_
      ·
       refine oMove rfl ?_
       exact oLkHas rfl
      exact AgainG.nil
     refine oLkSegG (oSegG rfl ?_)
     (refine oCall rfl (by kernel_rfl) (fun w hS => frame hS (by repeat' constructor) (fun B' hB hS' => ref17_perhaps hS' f _ (kApiFunc.K_grow hB hf) n (ansF f.fClass))) ?_; rintro ⟨⟩ -)
     refine oAgainG ?_ rfl (fun w0 => ?_)
     ·
      exact AgainG.nil
     refine oTailG (oAssign rfl (oNil (thn_n (wRet (blk_r (fin_r (fi1 rfl ?_)))))))
     have hop : operK f k letter n = answF f.fKinds f.fClass n := by unfold operK; rw [if_neg (show ¬ (letter = 119 ∨ letter = 114) by omega), if_neg (show ¬ (letter = 103 ∨ letter = 102) by omega), if_neg h50, if_neg h56, if_pos h64]
     exact ⟨(), trivial, by rw [hop]; rfl, Lh⟩
    refine wSeq (wRegion' (oAssign rfl (oNil (thn_n (wRet (blk_r (fin_r (fi1 rfl ?_))))))))
    exact ⟨(), trivial, by unfold operK; rw [if_neg (by omega), if_neg (by omega), if_neg h50, if_neg h56, if_neg h64]; rfl, Lh⟩
   refine wSkip (thn_n (wSeq (wRegion' (oMove rfl ?_))))
   refine oSet (t := 11) (v' := .int .i64 k) rfl (by rw [← hk]; unfold clsR; rw [if_neg h31, if_pos (by omega)]) ?_
   refine oNil (thn_n (wBlock (wSeq (wSeq (wRegion' (oEql rfl rfl (oAssign rfl (oNil (thn_n (wC (fun h36 => ?_) (fun h36 => ?_)))))))))))
   ·
    refine wSkip (thn_n ?_)
    first | refine wCondT rfl ?_ | refine wCondTd h36 rfl ?_ | refine wCondTb h36 rfl ?_
    refine wSeq (wRegion' (oLdA rfl (by repeat constructor) rfl (by repeat constructor) ?_))
    refine oMove rfl ?_
    (refine oCall rfl (by kernel_rfl) (fun w hS => frame hS (by repeat' constructor) (fun B' hB hS' => ref17_slot hS' f _ (kApiFunc.K_grow hB hf) n 0)) ?_; rintro ⟨⟩ -)
    refine oAssign rfl (oNil (thn_n (wRet (blk_r (fin_r (fi1 rfl ?_))))))
    exact ⟨(), trivial, by unfold operK; rw [if_pos (by omega)]; rfl, Lh⟩
   refine wRegion' (oEql rfl rfl ?_)
   have hl119 : ¬ letter = 119 := h36
   refine oAssign rfl (oNil (thn_n (wC (fun h36 => ?_) (fun h36 => ?_))))
   ·
    refine wSeq (wRegion' (oLdA rfl (by repeat constructor) rfl (by repeat constructor) ?_))
    refine oMove rfl ?_
    (refine oCall rfl (by kernel_rfl) (fun w hS => frame hS (by repeat' constructor) (fun B' hB hS' => ref17_slot hS' f _ (kApiFunc.K_grow hB hf) n 0)) ?_; rintro ⟨⟩ -)
    refine oAssign rfl (oNil (thn_n (wRet (blk_r (fin_r (fi1 rfl ?_))))))
    exact ⟨(), trivial, by unfold operK; rw [if_pos (by omega)]; rfl, Lh⟩
   refine wSeq (wSeq (wRegion' (oEql rfl rfl (oAssign rfl (oNil (thn_n (wC (fun h42 => ?_) (fun h42 => ?_))))))))
   ·
    refine wSkip (thn_n ?_)
    first | refine wCondT rfl ?_ | refine wCondTd h42 rfl ?_ | refine wCondTb h42 rfl ?_
    refine wSeq (wRegion' (oLdA rfl (by repeat constructor) rfl (by repeat constructor) ?_))
    refine oMove rfl (oMove rfl (oAddW rfl rfl ?_))
    (refine oCall rfl (by kernel_rfl) (fun w hS => frame hS (by repeat' constructor) (fun B' hB hS' => ref17_slot hS' f _ (kApiFunc.K_grow hB hf) n (IntKind.i64.wrap (1 + k)))) ?_; rintro ⟨⟩ -)
    refine oAssign rfl (oNil (thn_n (wRet (blk_r (fin_r (fi1 rfl ?_))))))
    exact ⟨(), trivial, by unfold operK; rw [if_neg (by omega), if_pos (by omega)]; rfl, Lh⟩
   refine wRegion' (oEql rfl rfl ?_)
   have hl103 : ¬ letter = 103 := h42
   refine oAssign rfl (oNil (thn_n (wC (fun h42 => ?_) (fun h42 => ?_))))
   ·
    refine wSeq (wRegion' (oLdA rfl (by repeat constructor) rfl (by repeat constructor) ?_))
    refine oMove rfl (oMove rfl (oAddW rfl rfl ?_))
    (refine oCall rfl (by kernel_rfl) (fun w hS => frame hS (by repeat' constructor) (fun B' hB hS' => ref17_slot hS' f _ (kApiFunc.K_grow hB hf) n (IntKind.i64.wrap (1 + k)))) ?_; rintro ⟨⟩ -)
    refine oAssign rfl (oNil (thn_n (wRet (blk_r (fin_r (fi1 rfl ?_))))))
    exact ⟨(), trivial, by unfold operK; rw [if_neg (by omega), if_pos (by omega)]; rfl, Lh⟩
   refine wSeq (wRegion' (oEql rfl rfl (oAssign rfl (oNil (thn_n (wC (fun h50 => ?_) (fun h50 => ?_)))))))
   ·
    refine wSeq (wRegion' (oLdA rfl (by repeat constructor) rfl (by repeat constructor) ?_))
    refine oMove rfl (oMove rfl ?_)
    (refine oCall rfl (by kernel_rfl) (fun w hS => frame hS (by repeat' constructor) (fun B' hB hS' => ref17_called hS' f _ (kApiFunc.K_grow hB hf) n k)) ?_; rintro ⟨⟩ -)
    refine oAssign rfl (oNil (thn_n (wRet (blk_r (fin_r (fi1 rfl ?_))))))
    exact ⟨(), trivial, by unfold operK; rw [if_neg (by omega), if_neg (by omega), if_pos h50]; rfl, Lh⟩
   refine wSeq (wRegion' (oEql rfl rfl (oAssign rfl (oNil (thn_n (wC (fun h56 => ?_) (fun h56 => ?_)))))))
   ·
    refine wSeq (wDrawG rfl [0, 1, 2] [(3, [0, 1], [4]), (5, [], [])] [6] 24 (by kernel_rfl) rfl rfl (fun w0 => ?_))
    refine oLdA rfl (by repeat constructor) rfl (by repeat constructor) ?_
    refine oMove rfl (oMove rfl (oLkSegG (oSegG rfl ?_)))
    (refine oCall rfl (by kernel_rfl) (fun w hS => frame hS (by repeat' constructor) (fun B' hB hS' => ref5_Params hS' k)) ?_; rintro ⟨⟩ -)
    refine oAgainG ?_ rfl (fun w0 => ?_)
    ·
     refine AgainG.cons rfl rfl rfl rfl (fun w0 => ?_) ?_
     ·
      refine oLdA rfl (by repeat constructor) rfl (by repeat constructor) ?_
      exact oLkHas rfl
     refine AgainG.cons rfl rfl rfl rfl (fun w0 => ?_) ?_
     ·
      refine oMove rfl ?_
      exact oLkHas rfl
     exact AgainG.nil
    refine oGtr rfl rfl (oLkSegG (oSegG rfl ?_))
    (refine oCall rfl (by kernel_rfl) (fun w hS => frame hS (by repeat' constructor) (fun B' hB hS' => ref17_perhaps hS' f _ (kApiFunc.K_grow hB hf) n (decide (0 < parF k)))) ?_; rintro ⟨⟩ -)
    refine oAgainG ?_ rfl (fun w0 => ?_)
    ·
     exact AgainG.nil
    refine oTailG (oAssign rfl (oNil (thn_n (wRet (blk_r (fin_r (fi1 rfl ?_)))))))
    have hpn := parF_in k
    have hop : operK f k letter n = lateF f.fKinds k n := by unfold operK; rw [if_neg (show ¬ (letter = 119 ∨ letter = 114) by omega), if_neg (show ¬ (letter = 103 ∨ letter = 102) by omega), if_neg h50, if_pos h56]
    exact ⟨(), trivial, by rw [hop, late_perhaps]; rfl, Lh⟩
   refine wSeq (wRegion' (oEql rfl rfl (oAssign rfl (oNil (thn_n (wC (fun h64 => ?_) (fun h64 => ?_)))))))
   ·
    refine wSeq (wDrawG rfl [0, 1, 2, 3] [(4, [0, 1], []), (5, [], [])] [6] 24 (by kernel_rfl) rfl rfl (fun w0 => ?_))
    refine oLdA rfl (by repeat constructor) rfl (by repeat constructor) ?_
    refine oMove rfl (oFld (n := 0) (m := 0) rfl rfl rfl (oLd rfl (by repeat constructor) rfl rfl ?_))
    refine oLkSegG (oSegG rfl ?_)
    (refine oCall rfl (by kernel_rfl) (fun w hS => frame hS (by repeat' constructor) (fun B' hB hS' => ref5_Answers hS' f.fClass)) ?_; rintro ⟨⟩ -)
    refine oAgainG ?_ rfl (fun w0 => ?_)
    ·
     refine AgainG.cons rfl rfl rfl rfl (fun w0 => ?_) ?_
     ·
      refine oLdA rfl (by repeat constructor) rfl (by repeat constructor) ?_
      exact oLkHas rfl
     refine AgainG.cons rfl rfl rfl rfl (fun w0 => ?_) ?_
     ·
      refine oMove rfl ?_
      exact oLkHas rfl
     exact AgainG.nil
    refine oLkSegG (oSegG rfl ?_)
    (refine oCall rfl (by kernel_rfl) (fun w hS => frame hS (by repeat' constructor) (fun B' hB hS' => ref17_perhaps hS' f _ (kApiFunc.K_grow hB hf) n (ansF f.fClass))) ?_; rintro ⟨⟩ -)
    refine oAgainG ?_ rfl (fun w0 => ?_)
    ·
     exact AgainG.nil
    refine oTailG (oAssign rfl (oNil (thn_n (wRet (blk_r (fin_r (fi1 rfl ?_)))))))
    have hop : operK f k letter n = answF f.fKinds f.fClass n := by unfold operK; rw [if_neg (show ¬ (letter = 119 ∨ letter = 114) by omega), if_neg (show ¬ (letter = 103 ∨ letter = 102) by omega), if_neg h50, if_neg h56, if_pos h64]
    exact ⟨(), trivial, by rw [hop]; rfl, Lh⟩
   refine wSeq (wRegion' (oAssign rfl (oNil (thn_n (wRet (blk_r (fin_r (fi1 rfl ?_))))))))
   exact ⟨(), trivial, by unfold operK; rw [if_neg (by omega), if_neg (by omega), if_neg h50, if_neg h56, if_neg h64]; rfl, Lh⟩
  refine wSkip (thn_n (wSeq (wSeq (wRegion' (oFld (n := 0) (m := 0) rfl rfl rfl (oLd rfl (by repeat constructor) rfl rfl ?_))))))
  refine oEql rfl rfl (oNil (thn_n (wC (fun h31 => ?_) (fun h31 => ?_))))
  ·
   refine wRegion' (oFld (n := 3) (m := 3) rfl rfl rfl (oLd rfl (by repeat constructor) rfl rfl ?_))
   refine oSubW rfl rfl ?_
   rw [hz]
   refine oAssign rfl (oNil (thn_n (wSeq (wRegion' (oMove rfl ?_)))))
   refine oSet (t := 11) (v' := .int .i64 k) rfl (by rw [← hk, ← hz]; unfold clsR; rw [if_pos h31]) ?_
   refine oNil (thn_n (wBlock (wSeq (wSeq (wRegion' (oEql rfl rfl (oAssign rfl (oNil (thn_n (wC (fun h36 => ?_) (fun h36 => ?_)))))))))))
   ·
    refine wSkip (thn_n ?_)
    first | refine wCondT rfl ?_ | refine wCondTd h36 rfl ?_ | refine wCondTb h36 rfl ?_
    refine wSeq (wRegion' (oLdA rfl (by repeat constructor) rfl (by repeat constructor) ?_))
    refine oMove rfl ?_
    (refine oCall rfl (by kernel_rfl) (fun w hS => frame hS (by repeat' constructor) (fun B' hB hS' => ref17_slot hS' f _ (kApiFunc.K_grow hB hf) n 0)) ?_; rintro ⟨⟩ -)
    refine oAssign rfl (oNil (thn_n (wRet (blk_r (fin_r (fi1 rfl ?_))))))
    exact ⟨(), trivial, by unfold operK; rw [if_pos (by omega)]; rfl, Lh⟩
   refine wRegion' (oEql rfl rfl ?_)
   have hl119 : ¬ letter = 119 := h36
   refine oAssign rfl (oNil (thn_n (wC (fun h36 => ?_) (fun h36 => ?_))))
   ·
    refine wSeq (wRegion' (oLdA rfl (by repeat constructor) rfl (by repeat constructor) ?_))
    refine oMove rfl ?_
    (refine oCall rfl (by kernel_rfl) (fun w hS => frame hS (by repeat' constructor) (fun B' hB hS' => ref17_slot hS' f _ (kApiFunc.K_grow hB hf) n 0)) ?_; rintro ⟨⟩ -)
    refine oAssign rfl (oNil (thn_n (wRet (blk_r (fin_r (fi1 rfl ?_))))))
    exact ⟨(), trivial, by unfold operK; rw [if_pos (by omega)]; rfl, Lh⟩
   refine wSeq (wSeq (wRegion' (oEql rfl rfl (oAssign rfl (oNil (thn_n (wC (fun h42 => ?_) (fun h42 => ?_))))))))
   ·
    refine wSkip (thn_n ?_)
    first | refine wCondT rfl ?_ | refine wCondTd h42 rfl ?_ | refine wCondTb h42 rfl ?_
    refine wSeq (wRegion' (oLdA rfl (by repeat constructor) rfl (by repeat constructor) ?_))
    refine oMove rfl (oMove rfl (oAddW rfl rfl ?_))
    (refine oCall rfl (by kernel_rfl) (fun w hS => frame hS (by repeat' constructor) (fun B' hB hS' => ref17_slot hS' f _ (kApiFunc.K_grow hB hf) n (IntKind.i64.wrap (1 + k)))) ?_; rintro ⟨⟩ -)
    refine oAssign rfl (oNil (thn_n (wRet (blk_r (fin_r (fi1 rfl ?_))))))
    exact ⟨(), trivial, by unfold operK; rw [if_neg (by omega), if_pos (by omega)]; rfl, Lh⟩
   refine wRegion' (oEql rfl rfl ?_)
   have hl103 : ¬ letter = 103 := h42
   refine oAssign rfl (oNil (thn_n (wC (fun h42 => ?_) (fun h42 => ?_))))
   ·
    refine wSeq (wRegion' (oLdA rfl (by repeat constructor) rfl (by repeat constructor) ?_))
    refine oMove rfl (oMove rfl (oAddW rfl rfl ?_))
    (refine oCall rfl (by kernel_rfl) (fun w hS => frame hS (by repeat' constructor) (fun B' hB hS' => ref17_slot hS' f _ (kApiFunc.K_grow hB hf) n (IntKind.i64.wrap (1 + k)))) ?_; rintro ⟨⟩ -)
    refine oAssign rfl (oNil (thn_n (wRet (blk_r (fin_r (fi1 rfl ?_))))))
    exact ⟨(), trivial, by unfold operK; rw [if_neg (by omega), if_pos (by omega)]; rfl, Lh⟩
   refine wSeq (wRegion' (oEql rfl rfl (oAssign rfl (oNil (thn_n (wC (fun h50 => ?_) (fun h50 => ?_)))))))
   ·
    refine wSeq (wRegion' (oLdA rfl (by repeat constructor) rfl (by repeat constructor) ?_))
    refine oMove rfl (oMove rfl ?_)
    (refine oCall rfl (by kernel_rfl) (fun w hS => frame hS (by repeat' constructor) (fun B' hB hS' => ref17_called hS' f _ (kApiFunc.K_grow hB hf) n k)) ?_; rintro ⟨⟩ -)
    refine oAssign rfl (oNil (thn_n (wRet (blk_r (fin_r (fi1 rfl ?_))))))
    exact ⟨(), trivial, by unfold operK; rw [if_neg (by omega), if_neg (by omega), if_pos h50]; rfl, Lh⟩
   refine wSeq (wRegion' (oEql rfl rfl (oAssign rfl (oNil (thn_n (wC (fun h56 => ?_) (fun h56 => ?_)))))))
   ·
    refine wSeq (wDrawG rfl [0, 1, 2] [(3, [0, 1], [4]), (5, [], [])] [6] 24 (by kernel_rfl) rfl rfl (fun w0 => ?_))
    refine oLdA rfl (by repeat constructor) rfl (by repeat constructor) ?_
    refine oMove rfl (oMove rfl (oLkSegG (oSegG rfl ?_)))
    (refine oCall rfl (by kernel_rfl) (fun w hS => frame hS (by repeat' constructor) (fun B' hB hS' => ref5_Params hS' k)) ?_; rintro ⟨⟩ -)
    refine oAgainG ?_ rfl (fun w0 => ?_)
    ·
     refine AgainG.cons rfl rfl rfl rfl (fun w0 => ?_) ?_
     ·
      refine oLdA rfl (by repeat constructor) rfl (by repeat constructor) ?_
      exact oLkHas rfl
     refine AgainG.cons rfl rfl rfl rfl (fun w0 => ?_) ?_
     ·
      refine oMove rfl ?_
      exact oLkHas rfl
     exact AgainG.nil
    refine oGtr rfl rfl (oLkSegG (oSegG rfl ?_))
    (refine oCall rfl (by kernel_rfl) (fun w hS => frame hS (by repeat' constructor) (fun B' hB hS' => ref17_perhaps hS' f _ (kApiFunc.K_grow hB hf) n (decide (0 < parF k)))) ?_; rintro ⟨⟩ -)
    refine oAgainG ?_ rfl (fun w0 => ?_)
    ·
     exact AgainG.nil
    refine oTailG (oAssign rfl (oNil (thn_n (wRet (blk_r (fin_r (fi1 rfl ?_)))))))
    have hpn := parF_in k
    have hop : operK f k letter n = lateF f.fKinds k n := by unfold operK; rw [if_neg (show ¬ (letter = 119 ∨ letter = 114) by omega), if_neg (show ¬ (letter = 103 ∨ letter = 102) by omega), if_neg h50, if_pos h56]
    exact ⟨(), trivial, by rw [hop, late_perhaps]; rfl, Lh⟩
   refine wSeq (wRegion' (oEql rfl rfl (oAssign rfl (oNil (thn_n (wC (fun h64 => ?_) (fun h64 => ?_)))))))
   ·
    refine wSeq (wDrawG rfl [0, 1, 2, 3] [(4, [0, 1], []), (5, [], [])] [6] 24 (by kernel_rfl) rfl rfl (fun w0 => ?_))
    refine oLdA rfl (by repeat constructor) rfl (by repeat constructor) ?_
    refine oMove rfl (oFld (n := 0) (m := 0) rfl rfl rfl (oLd rfl (by repeat constructor) rfl rfl ?_))
    refine oLkSegG (oSegG rfl ?_)
    (refine oCall rfl (by kernel_rfl) (fun w hS => frame hS (by repeat' constructor) (fun B' hB hS' => ref5_Answers hS' f.fClass)) ?_; rintro ⟨⟩ -)
    refine oAgainG ?_ rfl (fun w0 => ?_)
    ·
     refine AgainG.cons rfl rfl rfl rfl (fun w0 => ?_) ?_
     ·
      refine oLdA rfl (by repeat constructor) rfl (by repeat constructor) ?_
      exact oLkHas rfl
     refine AgainG.cons rfl rfl rfl rfl (fun w0 => ?_) ?_
     ·
      refine oMove rfl ?_
      exact oLkHas rfl
     exact AgainG.nil
    refine oLkSegG (oSegG rfl ?_)
    (refine oCall rfl (by kernel_rfl) (fun w hS => frame hS (by repeat' constructor) (fun B' hB hS' => ref17_perhaps hS' f _ (kApiFunc.K_grow hB hf) n (ansF f.fClass))) ?_; rintro ⟨⟩ -)
    refine oAgainG ?_ rfl (fun w0 => ?_)
    ·
     exact AgainG.nil
    refine oTailG (oAssign rfl (oNil (thn_n (wRet (blk_r (fin_r (fi1 rfl ?_)))))))
    have hop : operK f k letter n = answF f.fKinds f.fClass n := by unfold operK; rw [if_neg (show ¬ (letter = 119 ∨ letter = 114) by omega), if_neg (show ¬ (letter = 103 ∨ letter = 102) by omega), if_neg h50, if_neg h56, if_pos h64]
    exact ⟨(), trivial, by rw [hop]; rfl, Lh⟩
   refine wSeq (wRegion' (oAssign rfl (oNil (thn_n (wRet (blk_r (fin_r (fi1 rfl ?_))))))))
   exact ⟨(), trivial, by unfold operK; rw [if_neg (by omega), if_neg (by omega), if_neg h50, if_neg h56, if_neg h64]; rfl, Lh⟩
  refine wSkip (thn_n (wSeq (wRegion' (oMove rfl ?_))))
  refine oSet (t := 11) (v' := .int .i64 k) rfl (by rw [← hk]; unfold clsR; rw [if_neg h31, if_neg (by omega)]) ?_
  refine oNil (thn_n (wBlock (wSeq (wSeq (wRegion' (oEql rfl rfl (oAssign rfl (oNil (thn_n (wC (fun h36 => ?_) (fun h36 => ?_)))))))))))
  ·
   refine wSkip (thn_n ?_)
   first | refine wCondT rfl ?_ | refine wCondTd h36 rfl ?_ | refine wCondTb h36 rfl ?_
   refine wSeq (wRegion' (oLdA rfl (by repeat constructor) rfl (by repeat constructor) ?_))
   refine oMove rfl ?_
   (refine oCall rfl (by kernel_rfl) (fun w hS => frame hS (by repeat' constructor) (fun B' hB hS' => ref17_slot hS' f _ (kApiFunc.K_grow hB hf) n 0)) ?_; rintro ⟨⟩ -)
   refine oAssign rfl (oNil (thn_n (wRet (blk_r (fin_r (fi1 rfl ?_))))))
   exact ⟨(), trivial, by unfold operK; rw [if_pos (by omega)]; rfl, Lh⟩
  refine wRegion' (oEql rfl rfl ?_)
  have hl119 : ¬ letter = 119 := h36
  refine oAssign rfl (oNil (thn_n (wC (fun h36 => ?_) (fun h36 => ?_))))
  ·
   refine wSeq (wRegion' (oLdA rfl (by repeat constructor) rfl (by repeat constructor) ?_))
   refine oMove rfl ?_
   (refine oCall rfl (by kernel_rfl) (fun w hS => frame hS (by repeat' constructor) (fun B' hB hS' => ref17_slot hS' f _ (kApiFunc.K_grow hB hf) n 0)) ?_; rintro ⟨⟩ -)
   refine oAssign rfl (oNil (thn_n (wRet (blk_r (fin_r (fi1 rfl ?_))))))
   exact ⟨(), trivial, by unfold operK; rw [if_pos (by omega)]; rfl, Lh⟩
  refine wSeq (wSeq (wRegion' (oEql rfl rfl (oAssign rfl (oNil (thn_n (wC (fun h42 => ?_) (fun h42 => ?_))))))))
  ·
   refine wSkip (thn_n ?_)
   first | refine wCondT rfl ?_ | refine wCondTd h42 rfl ?_ | refine wCondTb h42 rfl ?_
   refine wSeq (wRegion' (oLdA rfl (by repeat constructor) rfl (by repeat constructor) ?_))
   refine oMove rfl (oMove rfl (oAddW rfl rfl ?_))
   (refine oCall rfl (by kernel_rfl) (fun w hS => frame hS (by repeat' constructor) (fun B' hB hS' => ref17_slot hS' f _ (kApiFunc.K_grow hB hf) n (IntKind.i64.wrap (1 + k)))) ?_; rintro ⟨⟩ -)
   refine oAssign rfl (oNil (thn_n (wRet (blk_r (fin_r (fi1 rfl ?_))))))
   exact ⟨(), trivial, by unfold operK; rw [if_neg (by omega), if_pos (by omega)]; rfl, Lh⟩
  refine wRegion' (oEql rfl rfl ?_)
  have hl103 : ¬ letter = 103 := h42
  refine oAssign rfl (oNil (thn_n (wC (fun h42 => ?_) (fun h42 => ?_))))
  ·
   refine wSeq (wRegion' (oLdA rfl (by repeat constructor) rfl (by repeat constructor) ?_))
   refine oMove rfl (oMove rfl (oAddW rfl rfl ?_))
   (refine oCall rfl (by kernel_rfl) (fun w hS => frame hS (by repeat' constructor) (fun B' hB hS' => ref17_slot hS' f _ (kApiFunc.K_grow hB hf) n (IntKind.i64.wrap (1 + k)))) ?_; rintro ⟨⟩ -)
   refine oAssign rfl (oNil (thn_n (wRet (blk_r (fin_r (fi1 rfl ?_))))))
   exact ⟨(), trivial, by unfold operK; rw [if_neg (by omega), if_pos (by omega)]; rfl, Lh⟩
  refine wSeq (wRegion' (oEql rfl rfl (oAssign rfl (oNil (thn_n (wC (fun h50 => ?_) (fun h50 => ?_)))))))
  ·
   refine wSeq (wRegion' (oLdA rfl (by repeat constructor) rfl (by repeat constructor) ?_))
   refine oMove rfl (oMove rfl ?_)
   (refine oCall rfl (by kernel_rfl) (fun w hS => frame hS (by repeat' constructor) (fun B' hB hS' => ref17_called hS' f _ (kApiFunc.K_grow hB hf) n k)) ?_; rintro ⟨⟩ -)
   refine oAssign rfl (oNil (thn_n (wRet (blk_r (fin_r (fi1 rfl ?_))))))
   exact ⟨(), trivial, by unfold operK; rw [if_neg (by omega), if_neg (by omega), if_pos h50]; rfl, Lh⟩
  refine wSeq (wRegion' (oEql rfl rfl (oAssign rfl (oNil (thn_n (wC (fun h56 => ?_) (fun h56 => ?_)))))))
  ·
   refine wSeq (wDrawG rfl [0, 1, 2] [(3, [0, 1], [4]), (5, [], [])] [6] 24 (by kernel_rfl) rfl rfl (fun w0 => ?_))
   refine oLdA rfl (by repeat constructor) rfl (by repeat constructor) ?_
   refine oMove rfl (oMove rfl (oLkSegG (oSegG rfl ?_)))
   (refine oCall rfl (by kernel_rfl) (fun w hS => frame hS (by repeat' constructor) (fun B' hB hS' => ref5_Params hS' k)) ?_; rintro ⟨⟩ -)
   refine oAgainG ?_ rfl (fun w0 => ?_)
   ·
    refine AgainG.cons rfl rfl rfl rfl (fun w0 => ?_) ?_
    ·
     refine oLdA rfl (by repeat constructor) rfl (by repeat constructor) ?_
     exact oLkHas rfl
    refine AgainG.cons rfl rfl rfl rfl (fun w0 => ?_) ?_
    ·
     refine oMove rfl ?_
     exact oLkHas rfl
    exact AgainG.nil
   refine oGtr rfl rfl (oLkSegG (oSegG rfl ?_))
   (refine oCall rfl (by kernel_rfl) (fun w hS => frame hS (by repeat' constructor) (fun B' hB hS' => ref17_perhaps hS' f _ (kApiFunc.K_grow hB hf) n (decide (0 < parF k)))) ?_; rintro ⟨⟩ -)
   refine oAgainG ?_ rfl (fun w0 => ?_)
   ·
    exact AgainG.nil
   refine oTailG (oAssign rfl (oNil (thn_n (wRet (blk_r (fin_r (fi1 rfl ?_)))))))
   have hpn := parF_in k
   have hop : operK f k letter n = lateF f.fKinds k n := by unfold operK; rw [if_neg (show ¬ (letter = 119 ∨ letter = 114) by omega), if_neg (show ¬ (letter = 103 ∨ letter = 102) by omega), if_neg h50, if_pos h56]
   exact ⟨(), trivial, by rw [hop, late_perhaps]; rfl, Lh⟩
  refine wSeq (wRegion' (oEql rfl rfl (oAssign rfl (oNil (thn_n (wC (fun h64 => ?_) (fun h64 => ?_)))))))
  ·
   refine wSeq (wDrawG rfl [0, 1, 2, 3] [(4, [0, 1], []), (5, [], [])] [6] 24 (by kernel_rfl) rfl rfl (fun w0 => ?_))
   refine oLdA rfl (by repeat constructor) rfl (by repeat constructor) ?_
   refine oMove rfl (oFld (n := 0) (m := 0) rfl rfl rfl (oLd rfl (by repeat constructor) rfl rfl ?_))
   refine oLkSegG (oSegG rfl ?_)
   (refine oCall rfl (by kernel_rfl) (fun w hS => frame hS (by repeat' constructor) (fun B' hB hS' => ref5_Answers hS' f.fClass)) ?_; rintro ⟨⟩ -)
   refine oAgainG ?_ rfl (fun w0 => ?_)
   ·
    refine AgainG.cons rfl rfl rfl rfl (fun w0 => ?_) ?_
    ·
     refine oLdA rfl (by repeat constructor) rfl (by repeat constructor) ?_
     exact oLkHas rfl
    refine AgainG.cons rfl rfl rfl rfl (fun w0 => ?_) ?_
    ·
     refine oMove rfl ?_
     exact oLkHas rfl
    exact AgainG.nil
   refine oLkSegG (oSegG rfl ?_)
   (refine oCall rfl (by kernel_rfl) (fun w hS => frame hS (by repeat' constructor) (fun B' hB hS' => ref17_perhaps hS' f _ (kApiFunc.K_grow hB hf) n (ansF f.fClass))) ?_; rintro ⟨⟩ -)
   refine oAgainG ?_ rfl (fun w0 => ?_)
   ·
    exact AgainG.nil
   refine oTailG (oAssign rfl (oNil (thn_n (wRet (blk_r (fin_r (fi1 rfl ?_)))))))
   have hop : operK f k letter n = answF f.fKinds f.fClass n := by unfold operK; rw [if_neg (show ¬ (letter = 119 ∨ letter = 114) by omega), if_neg (show ¬ (letter = 103 ∨ letter = 102) by omega), if_neg h50, if_neg h56, if_pos h64]
   exact ⟨(), trivial, by rw [hop]; rfl, Lh⟩
  refine wSeq (wRegion' (oAssign rfl (oNil (thn_n (wRet (blk_r (fin_r (fi1 rfl ?_))))))))
  exact ⟨(), trivial, by unfold operK; rw [if_neg (by omega), if_neg (by omega), if_neg h50, if_neg h56, if_neg h64]; rfl, Lh⟩
set_option maxRecDepth 100000 in
set_option maxHeartbeats 1000000 in
theorem ref17_Instr {B : Base} {w : World} (hS : St B [] w) (f : ApiFunc) (fc : List Value) (hf : kApiFunc.K B.e f fc) (Al : Option Addr) (cl : Nat) (l : List ApiSymbol) (hl : kApiSymbol.C B.e Al l) (i : Int) :
    CallsIn Fence.wide 0 Tryz.prog 216 #[.agg fc.toArray, .slice Al l.length cl, .int .i64 i] w (Ret B (fun _ : Unit => True) (fun _ => .int .i64 (instrF f l i)) (fun _ => [])) := by
  obtain ⟨A0, c0, A1, c1, A2, c2, A3, c3, rfl, l0, g0, l1, g1, l2, g2, l3, g3⟩ := kApiFunc_open hf
  (refine enter Tryz.func216 rfl rfl hS ?_; simp only [List.zipIdx_cons, List.zipIdx_nil, List.map_cons, List.map_nil, Nat.reduceAdd, Nat.zero_add])
  refine wSeq (wRegion' (oBox rfl (by repeat constructor) (fun b3 => ?_)))
  refine oAssign rfl (oNil (thn_n (wSeq (wSeq (wRegion' (oMove rfl (oLss rfl rfl (oMove rfl ?_))))))))
  first | refine oSplit (t := 15) rfl (fun h15 => ?_) (fun h15 => ?_) | refine oSplitB (t := 15) rfl (fun h15 => ?_) (fun h15 => ?_)
  ·
   refine oSkip rfl rfl rfl rfl (oSkip rfl rfl rfl rfl (oSkip rfl rfl rfl rfl (oSkip rfl rfl rfl rfl (oSkip rfl rfl rfl rfl (oPickT rfl rfl (oNil (thn_n ?_)))))))
   first | refine wCondT rfl ?_ | refine wCondTd h21 rfl ?_ | refine wCondTb h21 rfl ?_
   refine wSeq (wRegion' (oAssign rfl (oNil (thn_n (wRet (thn_r (fin_r (fi1 rfl ?_))))))))
   exact ⟨(), trivial, by unfold instrF; rw [if_pos (.inl h15)]; rfl, Lh⟩
  refine oWant rfl rfl (oMove rfl (oWant rfl rfl (oFld (n := 7) (m := 7) rfl rfl rfl (oWant rfl rfl (oLd rfl (by repeat constructor) rfl rfl ?_)))))
  refine oWant rfl rfl (oLenS rfl rfl (oWant rfl rfl (oGeq rfl rfl (oPickF rfl rfl (oNil (thn_n (wC (fun h21 => ?_) (fun h21 => ?_))))))))
  ·
   refine wSeq (wRegion' (oAssign rfl (oNil (thn_n (wRet (thn_r (fin_r (fi1 rfl ?_))))))))
   exact ⟨(), trivial, by unfold instrF; rw [if_pos (.inr h21)]; rfl, Lh⟩
  have hir : ¬ (i < 0 ∨ (f.fCode.length : Int) ≤ i) := by omega
  obtain ⟨n, rfl⟩ := Int.eq_ofNat_of_zero_le (show 0 ≤ i by omega)
  have hnl : n < f.fCode.length := by omega
  obtain ⟨x, hx⟩ : ∃ x, f.fCode[n]? = some x := ⟨_, List.getElem?_eq_getElem hnl⟩
  have hca : codeAt f (n : Int) = x := by unfold codeAt; rw [Int.toNat_natCast, List.getD_eq_getElem?_getD, hx]; rfl
  obtain ⟨e0, cs0, hE0⟩ := g2.elm hx
  obtain rfl := kApiInstr_open hE0.K
  have hsz := shapeF_size x.fOp
  have hs4 : (shapeF x.fOp).size ≤ 4 := by rw [hsz]; split <;> omega
  refine wSkip (thn_n (wSeq (wRegion' (oFld (n := 7) (m := 7) rfl rfl rfl (oLd rfl (by repeat constructor) rfl rfl ?_)))))
  refine oMove rfl (oIdxE rfl rfl (hE0) (by omega) rfl rfl ?_)
  have hc25 := (hE0).cell
  first | refine oLdX rfl hc25 rfl rfl ?_ | refine oLdXA rfl hc25 rfl (by repeat constructor) ?_ | (refine oLdR1 rfl (by repeat constructor) (by omega) rfl (fun u26 hu26 => ?_))
  refine oAlloc rfl (by repeat constructor) (fun b7 => ?_)
  refine oStA rfl rfl rfl rfl (by repeat constructor) (by rfl) ?_
  refine oNil (thn_n (wSeq (wRegion' (oLdA rfl (by repeat constructor) rfl (by repeat constructor) ?_))))
  refine oMove rfl (oMove rfl ?_)
  (refine oCall rfl (by kernel_rfl) (fun w hS => frame hS (by repeat' constructor) (fun B' hB hS' => ref17_refers hS' f _ (kApiFunc.K_grow hB hf) Al cl l (Kd.C_grow hB hl) n hnl)) ?_; rintro ⟨⟩ -)
  refine oMove rfl (oExt rfl (by repeat constructor) ?_)
  refine oExt rfl (by repeat constructor) ?_
  refine oAlloc rfl (by repeat constructor) (fun b8 => ?_)
  refine oStA rfl rfl rfl rfl (by repeat constructor) (by rfl) ?_
  refine oAssign rfl (oNil (thn_n (wSeq (wSeq (wRegion' (oMove rfl (oNeq rfl rfl (oNil (thn_n (wC (fun h35 => ?_) (fun h35 => ?_)))))))))))
  ·
   refine wSeq (wRegion' (oMove rfl (oAssign rfl (oNil (thn_n (wRet (thn_r (fin_r (fi1 rfl ?_)))))))))
   exact ⟨(), trivial, by unfold instrF; rw [if_neg hir, if_pos h35]; rfl, Lh⟩
  have hiR := instrF_R hir (Classical.not_not.1 h35)
  rw [hca] at hiR
  generalize hs : refS f l (n : Int) = s at *
  refine wSkip (thn_n (wSeq (wSeq (wRegion' (oFld (n := 0) (m := 0) rfl rfl rfl (oLd rfl (by repeat constructor) rfl rfl ?_))))))
  refine oEql rfl rfl (oMove rfl ?_)
  first | refine oSplit (t := 40) rfl (fun h40 => ?_) (fun h40 => ?_) | refine oSplitB (t := 40) rfl (fun h40 => ?_) (fun h40 => ?_)
  ·
   refine oWant rfl rfl (oFld (n := 3) (m := 3) rfl rfl rfl (oWant rfl rfl (oLd rfl (by repeat constructor) rfl rfl ?_)))
   refine oWant rfl rfl ?_
   (refine oCall rfl (by kernel_rfl) (fun w hS => frame hS (by repeat' constructor) (fun B' hB hS' => ref5_Is hS' x.fC)) ?_; rintro ⟨⟩ -)
   refine oWant rfl rfl ?_
   first | refine oNot rfl ?_ | refine oNotB rfl ?_
   refine oPickT rfl rfl (oMove rfl ?_)
   first | refine oSplit (t := 46) rfl (fun h46 => ?_) (fun h46 => ?_) | refine oSplitB (t := 46) rfl (fun h46 => ?_) (fun h46 => ?_)
   ·
    refine oSkip rfl rfl rfl rfl (oSkip rfl rfl rfl rfl (oSkip rfl rfl rfl rfl (oSkip rfl rfl rfl rfl (oSkipU rfl rfl rfl (oSkipU rfl rfl rfl (oSkipU rfl rfl rfl (oSkipU rfl rfl rfl (oSkip rfl rfl rfl rfl (oPickT rfl rfl (oNil (thn_n ?_)))))))))))
    first | refine wCondT rfl ?_ | refine wCondTd h56 rfl ?_ | refine wCondTb h56 rfl ?_
    refine wSeq (wRegion' (oAssign rfl (oNil (thn_n (wRet (thn_r (fin_r (fi1 rfl ?_))))))))
    exact ⟨(), trivial, by rw [hiR, if_pos (by simp_all)]; rfl, Lh⟩
   refine oWant rfl rfl (oFld (n := 0) (m := 0) rfl rfl rfl (oWant rfl rfl (oLd rfl (by repeat constructor) rfl rfl ?_)))
   refine oWant rfl rfl (oEql rfl rfl (oWant rfl rfl (oMove rfl ?_)))
   first | refine oSplit (t := 50) rfl (fun h50 => ?_) (fun h50 => ?_) | refine oSplitB (t := 50) rfl (fun h50 => ?_) (fun h50 => ?_)
   ·
    refine oWant rfl rfl (oFld (n := 3) (m := 3) rfl rfl rfl (oWant rfl rfl (oLd rfl (by repeat constructor) rfl rfl ?_)))
    refine oWant rfl rfl ?_
    (refine oCall rfl (by kernel_rfl) (fun w hS => frame hS (by repeat' constructor) (fun B' hB hS' => ref5_Later hS' s.fKind)) ?_; rintro ⟨⟩ -)
    refine oWant rfl rfl ?_
    first | refine oNot rfl ?_ | refine oNotB rfl ?_
    refine oWant rfl rfl (oPickT rfl rfl (oPickF rfl rfl (oNil (thn_n (wC (fun h56 => ?_) (fun h56 => ?_))))))
    ·
     refine wSeq (wRegion' (oAssign rfl (oNil (thn_n (wRet (thn_r (fin_r (fi1 rfl ?_))))))))
     exact ⟨(), trivial, by rw [hiR, if_pos (by simp_all)]; rfl, Lh⟩
    refine wSkip (thn_n (wSeq (wRegion' (oFld (n := 0) (m := 0) rfl rfl rfl (oLd rfl (by repeat constructor) rfl rfl ?_)))))
    (refine oCall rfl (by kernel_rfl) (fun w hS => frame hS (by repeat' constructor) (fun B' hB hS' => ref7_Shape hS' x.fOp)) ?_; rintro ⟨⟩ -)
    rw [if_neg (by simp_all)] at hiR
    refine oAssign rfl (oNil (thn_n (wSeq (wSeq (wRegion' (oAssign rfl (oNil (thn_n (wBlock (wLoop (ι := Nat) (fun j => [(3, .pointer (some ⟨b3, 0, none⟩)), (7, .pointer (some ⟨b7, 0, none⟩)), (8, .pointer (some ⟨b8, 0, none⟩)), (10, .string (shapeF x.fOp)), (11, .int .i64 (j : Int))]) (fun j => [blk b3 47 [.int .i64 f.fClass, .slice A0 f.fKinds.length c0, .int .i64 f.fPad, .bool f.fNosplit, .int .i64 f.fFrom, .int .i64 f.fTo, .slice A1 f.fLines.length c1, .slice A2 f.fCode.length c2, .slice A3 f.fRelocs.length c3], blk b7 51 [.int .i64 x.fOp, .int .i64 x.fA, .int .i64 x.fB, .int .i64 x.fC, .int .i64 x.fN], blk b8 91 (symL s)]) (fun j => j ≤ (shapeF x.fOp).size ∧ fstE (((List.range (shapeF x.fOp).size).map (operR f x s)).take j) = 0) (fun j => (shapeF x.fOp).size - j) 0 ?_ cv Lh ?_))))))))))
    ·
     exact ⟨Nat.zero_le _, rfl⟩
    rintro j ⟨hj, hfs⟩
    try dsimp only
    refine wSeq (wSeq (wRegion' (oMove rfl (oMove rfl (oLenStr rfl rfl (oLss rfl rfl (oNil (thn_n (wC (fun h63 => ?_) (fun h63 => ?_))))))))))
    ·
     have hj4 : j < (shapeF x.fOp).size := by omega
     refine wSkip (thn_n (wSeq (wBlock (wSeq (wDrawG rfl [0, 1, 2, 3, 4, 5, 6, 7] [(8, [0, 1, 2, 3, 4, 5], []), (9, [], [])] [10] 24 (by kernel_rfl) rfl rfl (fun w0 => ?_))))))
     refine oLdA rfl (by repeat constructor) rfl (by repeat constructor) ?_
     refine oLdA rfl (by repeat constructor) rfl (by repeat constructor) ?_
     refine oLdA rfl (by repeat constructor) rfl (by repeat constructor) ?_
     refine oMove rfl (oMove rfl (oIndexStr rfl rfl rfl hj4 (oLdA rfl (by repeat constructor) rfl (by repeat constructor) ?_)))
     refine oMove rfl (oLkSegG (oSegG rfl ?_))
     (refine oCall rfl (by kernel_rfl) (fun w hS => frame hS (by repeat' constructor) (fun B' hB hS' => ref8_Operand hS' x _ (kApiInstr_mk _ x) (j : Int))) ?_; rintro ⟨⟩ -)
     refine oAgainG ?_ rfl (fun w0 => ?_)
     ·
      refine AgainG.cons rfl rfl rfl rfl (fun w0 => ?_) ?_
      ·
       refine oLdA rfl (by repeat constructor) rfl (by repeat constructor) ?_
       exact oLkHas rfl
      refine AgainG.cons rfl rfl rfl rfl (fun w0 => ?_) ?_
      ·
       refine oLdA rfl (by repeat constructor) rfl (by repeat constructor) ?_
       exact oLkHas rfl
      refine AgainG.cons rfl rfl rfl rfl (fun w0 => ?_) ?_
      ·
       refine oLdA rfl (by repeat constructor) rfl (by repeat constructor) ?_
       exact oLkHas rfl
      refine AgainG.cons rfl rfl rfl rfl (fun w0 => ?_) ?_
      ·
       refine oMove rfl ?_
       exact oLkHas rfl
      refine AgainG.cons rfl rfl rfl rfl (fun w0 => ?_) ?_
      ·
       refine oMove rfl ?_
       exact oLkHas rfl
      refine AgainG.cons rfl rfl rfl rfl (fun w0 => ?_) ?_
      ·
       refine oIndexStr rfl rfl rfl hj4 ?_
       exact oLkHas rfl
      exact AgainG.nil
     refine oLkSegG (oSegG rfl ?_)
     (refine oCall rfl (by kernel_rfl) (fun w hS => frame hS (by repeat' constructor) (fun B' hB hS' => ref17_operand hS' f _ (kApiFunc.K_grow hB hf) x _ (kApiInstr_mk _ x) s (byteAt (shapeF x.fOp) j) (opdF x j))) ?_; rintro ⟨⟩ -)
     refine oAgainG ?_ rfl (fun w0 => ?_)
     ·
      exact AgainG.nil
     refine oTailG (oAssign rfl (oNil (thn_n (wSeq (wRegion' (oMove rfl (oNeq rfl rfl (oNil (thn_n (wC (fun h77 => ?_) (fun h77 => ?_)))))))))))
     ·
      refine wSeq (wRegion' (oMove rfl (oAssign rfl (oNil (thn_n (wRet (blk_r (thn_r (thn_r (blk_r (thn_r ?_)))))))))))
      refine fin_r (fi1 rfl ?_)
      exact ⟨(), trivial, by rw [hiR, fstE_stop hfs (rmap_at hj4) h77]; rfl, Lh⟩
     refine wSkip (blk_n (thn_n (wRegion' (oMove rfl (oSucc rfl rfl (by omega) ?_)))))
     refine oAssign rfl (oNil (thn_n ?_))
     exact ⟨rfl, j + 1, ⟨by omega, fstE_next hfs (rmap_at hj4) (Classical.not_not.1 h77)⟩, by omega, cv, Lh⟩
    refine wExit (thn_x (thn_x (blk_x (thn_n (wSeq (wRegion' (oAssign rfl (oNil (thn_n (wRet (fin_r ?_)))))))))))
    refine fi1 rfl ?_
    obtain rfl : j = (shapeF x.fOp).size := by omega
    rw [rmap_all] at hfs
    exact ⟨(), trivial, by rw [hiR, hfs]; rfl, Lh⟩
   refine oSkip rfl rfl rfl rfl (oSkip rfl rfl rfl rfl (oSkip rfl rfl rfl rfl (oSkip rfl rfl rfl rfl (oWant rfl rfl (oPickF rfl rfl (oPickF rfl rfl (oNil (thn_n ?_))))))))
   first | refine wCondF rfl ?_ | refine wCondFd h56 rfl ?_ | refine wCondFb h56 rfl ?_
   refine wSkip (thn_n (wSeq (wRegion' (oFld (n := 0) (m := 0) rfl rfl rfl (oLd rfl (by repeat constructor) rfl rfl ?_)))))
   (refine oCall rfl (by kernel_rfl) (fun w hS => frame hS (by repeat' constructor) (fun B' hB hS' => ref7_Shape hS' x.fOp)) ?_; rintro ⟨⟩ -)
   rw [if_neg (by simp_all)] at hiR
   refine oAssign rfl (oNil (thn_n (wSeq (wSeq (wRegion' (oAssign rfl (oNil (thn_n (wBlock (wLoop (ι := Nat) (fun j => [(3, .pointer (some ⟨b3, 0, none⟩)), (7, .pointer (some ⟨b7, 0, none⟩)), (8, .pointer (some ⟨b8, 0, none⟩)), (10, .string (shapeF x.fOp)), (11, .int .i64 (j : Int))]) (fun j => [blk b3 47 [.int .i64 f.fClass, .slice A0 f.fKinds.length c0, .int .i64 f.fPad, .bool f.fNosplit, .int .i64 f.fFrom, .int .i64 f.fTo, .slice A1 f.fLines.length c1, .slice A2 f.fCode.length c2, .slice A3 f.fRelocs.length c3], blk b7 51 [.int .i64 x.fOp, .int .i64 x.fA, .int .i64 x.fB, .int .i64 x.fC, .int .i64 x.fN], blk b8 91 (symL s)]) (fun j => j ≤ (shapeF x.fOp).size ∧ fstE (((List.range (shapeF x.fOp).size).map (operR f x s)).take j) = 0) (fun j => (shapeF x.fOp).size - j) 0 ?_ cv Lh ?_))))))))))
   ·
    exact ⟨Nat.zero_le _, rfl⟩
   rintro j ⟨hj, hfs⟩
   try dsimp only
   refine wSeq (wSeq (wRegion' (oMove rfl (oMove rfl (oLenStr rfl rfl (oLss rfl rfl (oNil (thn_n (wC (fun h63 => ?_) (fun h63 => ?_))))))))))
   ·
    have hj4 : j < (shapeF x.fOp).size := by omega
    refine wSkip (thn_n (wSeq (wBlock (wSeq (wDrawG rfl [0, 1, 2, 3, 4, 5, 6, 7] [(8, [0, 1, 2, 3, 4, 5], []), (9, [], [])] [10] 24 (by kernel_rfl) rfl rfl (fun w0 => ?_))))))
    refine oLdA rfl (by repeat constructor) rfl (by repeat constructor) ?_
    refine oLdA rfl (by repeat constructor) rfl (by repeat constructor) ?_
    refine oLdA rfl (by repeat constructor) rfl (by repeat constructor) ?_
    refine oMove rfl (oMove rfl (oIndexStr rfl rfl rfl hj4 (oLdA rfl (by repeat constructor) rfl (by repeat constructor) ?_)))
    refine oMove rfl (oLkSegG (oSegG rfl ?_))
    (refine oCall rfl (by kernel_rfl) (fun w hS => frame hS (by repeat' constructor) (fun B' hB hS' => ref8_Operand hS' x _ (kApiInstr_mk _ x) (j : Int))) ?_; rintro ⟨⟩ -)
    refine oAgainG ?_ rfl (fun w0 => ?_)
    ·
     refine AgainG.cons rfl rfl rfl rfl (fun w0 => ?_) ?_
     ·
      refine oLdA rfl (by repeat constructor) rfl (by repeat constructor) ?_
      exact oLkHas rfl
     refine AgainG.cons rfl rfl rfl rfl (fun w0 => ?_) ?_
     ·
      refine oLdA rfl (by repeat constructor) rfl (by repeat constructor) ?_
      exact oLkHas rfl
     refine AgainG.cons rfl rfl rfl rfl (fun w0 => ?_) ?_
     ·
      refine oLdA rfl (by repeat constructor) rfl (by repeat constructor) ?_
      exact oLkHas rfl
     refine AgainG.cons rfl rfl rfl rfl (fun w0 => ?_) ?_
     ·
      refine oMove rfl ?_
      exact oLkHas rfl
     refine AgainG.cons rfl rfl rfl rfl (fun w0 => ?_) ?_
     ·
      refine oMove rfl ?_
      exact oLkHas rfl
     refine AgainG.cons rfl rfl rfl rfl (fun w0 => ?_) ?_
     ·
      refine oIndexStr rfl rfl rfl hj4 ?_
      exact oLkHas rfl
     exact AgainG.nil
    refine oLkSegG (oSegG rfl ?_)
    (refine oCall rfl (by kernel_rfl) (fun w hS => frame hS (by repeat' constructor) (fun B' hB hS' => ref17_operand hS' f _ (kApiFunc.K_grow hB hf) x _ (kApiInstr_mk _ x) s (byteAt (shapeF x.fOp) j) (opdF x j))) ?_; rintro ⟨⟩ -)
    refine oAgainG ?_ rfl (fun w0 => ?_)
    ·
     exact AgainG.nil
    refine oTailG (oAssign rfl (oNil (thn_n (wSeq (wRegion' (oMove rfl (oNeq rfl rfl (oNil (thn_n (wC (fun h77 => ?_) (fun h77 => ?_)))))))))))
    ·
     refine wSeq (wRegion' (oMove rfl (oAssign rfl (oNil (thn_n (wRet (blk_r (thn_r (thn_r (blk_r (thn_r ?_)))))))))))
     refine fin_r (fi1 rfl ?_)
     exact ⟨(), trivial, by rw [hiR, fstE_stop hfs (rmap_at hj4) h77]; rfl, Lh⟩
    refine wSkip (blk_n (thn_n (wRegion' (oMove rfl (oSucc rfl rfl (by omega) ?_)))))
    refine oAssign rfl (oNil (thn_n ?_))
    exact ⟨rfl, j + 1, ⟨by omega, fstE_next hfs (rmap_at hj4) (Classical.not_not.1 h77)⟩, by omega, cv, Lh⟩
   refine wExit (thn_x (thn_x (blk_x (thn_n (wSeq (wRegion' (oAssign rfl (oNil (thn_n (wRet (fin_r ?_)))))))))))
   refine fi1 rfl ?_
   obtain rfl : j = (shapeF x.fOp).size := by omega
   rw [rmap_all] at hfs
   exact ⟨(), trivial, by rw [hiR, hfs]; rfl, Lh⟩
  refine oSkip rfl rfl rfl rfl (oSkip rfl rfl rfl rfl (oSkip rfl rfl rfl rfl (oSkip rfl rfl rfl rfl (oPickF rfl rfl (oMove rfl (oWant rfl rfl (oFld (n := 0) (m := 0) rfl rfl rfl (oWant rfl rfl (oLd rfl (by repeat constructor) rfl rfl ?_)))))))))
  refine oWant rfl rfl (oEql rfl rfl (oWant rfl rfl (oMove rfl ?_)))
  first | refine oSplit (t := 50) rfl (fun h50 => ?_) (fun h50 => ?_) | refine oSplitB (t := 50) rfl (fun h50 => ?_) (fun h50 => ?_)
  ·
   refine oWant rfl rfl (oFld (n := 3) (m := 3) rfl rfl rfl (oWant rfl rfl (oLd rfl (by repeat constructor) rfl rfl ?_)))
   refine oWant rfl rfl ?_
   (refine oCall rfl (by kernel_rfl) (fun w hS => frame hS (by repeat' constructor) (fun B' hB hS' => ref5_Later hS' s.fKind)) ?_; rintro ⟨⟩ -)
   refine oWant rfl rfl ?_
   first | refine oNot rfl ?_ | refine oNotB rfl ?_
   refine oWant rfl rfl (oPickT rfl rfl (oPickF rfl rfl (oNil (thn_n (wC (fun h56 => ?_) (fun h56 => ?_))))))
   ·
    refine wSeq (wRegion' (oAssign rfl (oNil (thn_n (wRet (thn_r (fin_r (fi1 rfl ?_))))))))
    exact ⟨(), trivial, by rw [hiR, if_pos (by simp_all)]; rfl, Lh⟩
   refine wSkip (thn_n (wSeq (wRegion' (oFld (n := 0) (m := 0) rfl rfl rfl (oLd rfl (by repeat constructor) rfl rfl ?_)))))
   (refine oCall rfl (by kernel_rfl) (fun w hS => frame hS (by repeat' constructor) (fun B' hB hS' => ref7_Shape hS' x.fOp)) ?_; rintro ⟨⟩ -)
   rw [if_neg (by simp_all)] at hiR
   refine oAssign rfl (oNil (thn_n (wSeq (wSeq (wRegion' (oAssign rfl (oNil (thn_n (wBlock (wLoop (ι := Nat) (fun j => [(3, .pointer (some ⟨b3, 0, none⟩)), (7, .pointer (some ⟨b7, 0, none⟩)), (8, .pointer (some ⟨b8, 0, none⟩)), (10, .string (shapeF x.fOp)), (11, .int .i64 (j : Int))]) (fun j => [blk b3 47 [.int .i64 f.fClass, .slice A0 f.fKinds.length c0, .int .i64 f.fPad, .bool f.fNosplit, .int .i64 f.fFrom, .int .i64 f.fTo, .slice A1 f.fLines.length c1, .slice A2 f.fCode.length c2, .slice A3 f.fRelocs.length c3], blk b7 51 [.int .i64 x.fOp, .int .i64 x.fA, .int .i64 x.fB, .int .i64 x.fC, .int .i64 x.fN], blk b8 91 (symL s)]) (fun j => j ≤ (shapeF x.fOp).size ∧ fstE (((List.range (shapeF x.fOp).size).map (operR f x s)).take j) = 0) (fun j => (shapeF x.fOp).size - j) 0 ?_ cv Lh ?_))))))))))
   ·
    exact ⟨Nat.zero_le _, rfl⟩
   rintro j ⟨hj, hfs⟩
   try dsimp only
   refine wSeq (wSeq (wRegion' (oMove rfl (oMove rfl (oLenStr rfl rfl (oLss rfl rfl (oNil (thn_n (wC (fun h63 => ?_) (fun h63 => ?_))))))))))
   ·
    have hj4 : j < (shapeF x.fOp).size := by omega
    refine wSkip (thn_n (wSeq (wBlock (wSeq (wDrawG rfl [0, 1, 2, 3, 4, 5, 6, 7] [(8, [0, 1, 2, 3, 4, 5], []), (9, [], [])] [10] 24 (by kernel_rfl) rfl rfl (fun w0 => ?_))))))
    refine oLdA rfl (by repeat constructor) rfl (by repeat constructor) ?_
    refine oLdA rfl (by repeat constructor) rfl (by repeat constructor) ?_
    refine oLdA rfl (by repeat constructor) rfl (by repeat constructor) ?_
    refine oMove rfl (oMove rfl (oIndexStr rfl rfl rfl hj4 (oLdA rfl (by repeat constructor) rfl (by repeat constructor) ?_)))
    refine oMove rfl (oLkSegG (oSegG rfl ?_))
    (refine oCall rfl (by kernel_rfl) (fun w hS => frame hS (by repeat' constructor) (fun B' hB hS' => ref8_Operand hS' x _ (kApiInstr_mk _ x) (j : Int))) ?_; rintro ⟨⟩ -)
    refine oAgainG ?_ rfl (fun w0 => ?_)
    ·
     refine AgainG.cons rfl rfl rfl rfl (fun w0 => ?_) ?_
     ·
      refine oLdA rfl (by repeat constructor) rfl (by repeat constructor) ?_
      exact oLkHas rfl
     refine AgainG.cons rfl rfl rfl rfl (fun w0 => ?_) ?_
     ·
      refine oLdA rfl (by repeat constructor) rfl (by repeat constructor) ?_
      exact oLkHas rfl
     refine AgainG.cons rfl rfl rfl rfl (fun w0 => ?_) ?_
     ·
      refine oLdA rfl (by repeat constructor) rfl (by repeat constructor) ?_
      exact oLkHas rfl
     refine AgainG.cons rfl rfl rfl rfl (fun w0 => ?_) ?_
     ·
      refine oMove rfl ?_
      exact oLkHas rfl
     refine AgainG.cons rfl rfl rfl rfl (fun w0 => ?_) ?_
     ·
      refine oMove rfl ?_
      exact oLkHas rfl
     refine AgainG.cons rfl rfl rfl rfl (fun w0 => ?_) ?_
     ·
      refine oIndexStr rfl rfl rfl hj4 ?_
      exact oLkHas rfl
     exact AgainG.nil
    refine oLkSegG (oSegG rfl ?_)
    (refine oCall rfl (by kernel_rfl) (fun w hS => frame hS (by repeat' constructor) (fun B' hB hS' => ref17_operand hS' f _ (kApiFunc.K_grow hB hf) x _ (kApiInstr_mk _ x) s (byteAt (shapeF x.fOp) j) (opdF x j))) ?_; rintro ⟨⟩ -)
    refine oAgainG ?_ rfl (fun w0 => ?_)
    ·
     exact AgainG.nil
    refine oTailG (oAssign rfl (oNil (thn_n (wSeq (wRegion' (oMove rfl (oNeq rfl rfl (oNil (thn_n (wC (fun h77 => ?_) (fun h77 => ?_)))))))))))
    ·
     refine wSeq (wRegion' (oMove rfl (oAssign rfl (oNil (thn_n (wRet (blk_r (thn_r (thn_r (blk_r (thn_r ?_)))))))))))
     refine fin_r (fi1 rfl ?_)
     exact ⟨(), trivial, by rw [hiR, fstE_stop hfs (rmap_at hj4) h77]; rfl, Lh⟩
    refine wSkip (blk_n (thn_n (wRegion' (oMove rfl (oSucc rfl rfl (by omega) ?_)))))
    refine oAssign rfl (oNil (thn_n ?_))
    exact ⟨rfl, j + 1, ⟨by omega, fstE_next hfs (rmap_at hj4) (Classical.not_not.1 h77)⟩, by omega, cv, Lh⟩
   refine wExit (thn_x (thn_x (blk_x (thn_n (wSeq (wRegion' (oAssign rfl (oNil (thn_n (wRet (fin_r ?_)))))))))))
   refine fi1 rfl ?_
   obtain rfl : j = (shapeF x.fOp).size := by omega
   rw [rmap_all] at hfs
   exact ⟨(), trivial, by rw [hiR, hfs]; rfl, Lh⟩
  refine oSkip rfl rfl rfl rfl (oSkip rfl rfl rfl rfl (oSkip rfl rfl rfl rfl (oSkip rfl rfl rfl rfl (oWant rfl rfl (oPickF rfl rfl (oPickF rfl rfl (oNil (thn_n ?_))))))))
  first | refine wCondF rfl ?_ | refine wCondFd h56 rfl ?_ | refine wCondFb h56 rfl ?_
  refine wSkip (thn_n (wSeq (wRegion' (oFld (n := 0) (m := 0) rfl rfl rfl (oLd rfl (by repeat constructor) rfl rfl ?_)))))
  (refine oCall rfl (by kernel_rfl) (fun w hS => frame hS (by repeat' constructor) (fun B' hB hS' => ref7_Shape hS' x.fOp)) ?_; rintro ⟨⟩ -)
  rw [if_neg (by simp_all)] at hiR
  refine oAssign rfl (oNil (thn_n (wSeq (wSeq (wRegion' (oAssign rfl (oNil (thn_n (wBlock (wLoop (ι := Nat) (fun j => [(3, .pointer (some ⟨b3, 0, none⟩)), (7, .pointer (some ⟨b7, 0, none⟩)), (8, .pointer (some ⟨b8, 0, none⟩)), (10, .string (shapeF x.fOp)), (11, .int .i64 (j : Int))]) (fun j => [blk b3 47 [.int .i64 f.fClass, .slice A0 f.fKinds.length c0, .int .i64 f.fPad, .bool f.fNosplit, .int .i64 f.fFrom, .int .i64 f.fTo, .slice A1 f.fLines.length c1, .slice A2 f.fCode.length c2, .slice A3 f.fRelocs.length c3], blk b7 51 [.int .i64 x.fOp, .int .i64 x.fA, .int .i64 x.fB, .int .i64 x.fC, .int .i64 x.fN], blk b8 91 (symL s)]) (fun j => j ≤ (shapeF x.fOp).size ∧ fstE (((List.range (shapeF x.fOp).size).map (operR f x s)).take j) = 0) (fun j => (shapeF x.fOp).size - j) 0 ?_ cv Lh ?_))))))))))
  ·
   exact ⟨Nat.zero_le _, rfl⟩
  rintro j ⟨hj, hfs⟩
  try dsimp only
  refine wSeq (wSeq (wRegion' (oMove rfl (oMove rfl (oLenStr rfl rfl (oLss rfl rfl (oNil (thn_n (wC (fun h63 => ?_) (fun h63 => ?_))))))))))
  ·
   have hj4 : j < (shapeF x.fOp).size := by omega
   refine wSkip (thn_n (wSeq (wBlock (wSeq (wDrawG rfl [0, 1, 2, 3, 4, 5, 6, 7] [(8, [0, 1, 2, 3, 4, 5], []), (9, [], [])] [10] 24 (by kernel_rfl) rfl rfl (fun w0 => ?_))))))
   refine oLdA rfl (by repeat constructor) rfl (by repeat constructor) ?_
   refine oLdA rfl (by repeat constructor) rfl (by repeat constructor) ?_
   refine oLdA rfl (by repeat constructor) rfl (by repeat constructor) ?_
   refine oMove rfl (oMove rfl (oIndexStr rfl rfl rfl hj4 (oLdA rfl (by repeat constructor) rfl (by repeat constructor) ?_)))
   refine oMove rfl (oLkSegG (oSegG rfl ?_))
   (refine oCall rfl (by kernel_rfl) (fun w hS => frame hS (by repeat' constructor) (fun B' hB hS' => ref8_Operand hS' x _ (kApiInstr_mk _ x) (j : Int))) ?_; rintro ⟨⟩ -)
   refine oAgainG ?_ rfl (fun w0 => ?_)
   ·
    refine AgainG.cons rfl rfl rfl rfl (fun w0 => ?_) ?_
    ·
     refine oLdA rfl (by repeat constructor) rfl (by repeat constructor) ?_
     exact oLkHas rfl
    refine AgainG.cons rfl rfl rfl rfl (fun w0 => ?_) ?_
    ·
     refine oLdA rfl (by repeat constructor) rfl (by repeat constructor) ?_
     exact oLkHas rfl
    refine AgainG.cons rfl rfl rfl rfl (fun w0 => ?_) ?_
    ·
     refine oLdA rfl (by repeat constructor) rfl (by repeat constructor) ?_
     exact oLkHas rfl
    refine AgainG.cons rfl rfl rfl rfl (fun w0 => ?_) ?_
    ·
     refine oMove rfl ?_
     exact oLkHas rfl
    refine AgainG.cons rfl rfl rfl rfl (fun w0 => ?_) ?_
    ·
     refine oMove rfl ?_
     exact oLkHas rfl
    refine AgainG.cons rfl rfl rfl rfl (fun w0 => ?_) ?_
    ·
     refine oIndexStr rfl rfl rfl hj4 ?_
     exact oLkHas rfl
    exact AgainG.nil
   refine oLkSegG (oSegG rfl ?_)
   (refine oCall rfl (by kernel_rfl) (fun w hS => frame hS (by repeat' constructor) (fun B' hB hS' => ref17_operand hS' f _ (kApiFunc.K_grow hB hf) x _ (kApiInstr_mk _ x) s (byteAt (shapeF x.fOp) j) (opdF x j))) ?_; rintro ⟨⟩ -)
   refine oAgainG ?_ rfl (fun w0 => ?_)
   ·
    exact AgainG.nil
   refine oTailG (oAssign rfl (oNil (thn_n (wSeq (wRegion' (oMove rfl (oNeq rfl rfl (oNil (thn_n (wC (fun h77 => ?_) (fun h77 => ?_)))))))))))
   ·
    refine wSeq (wRegion' (oMove rfl (oAssign rfl (oNil (thn_n (wRet (blk_r (thn_r (thn_r (blk_r (thn_r ?_)))))))))))
    refine fin_r (fi1 rfl ?_)
    exact ⟨(), trivial, by rw [hiR, fstE_stop hfs (rmap_at hj4) h77]; rfl, Lh⟩
   refine wSkip (blk_n (thn_n (wRegion' (oMove rfl (oSucc rfl rfl (by omega) ?_)))))
   refine oAssign rfl (oNil (thn_n ?_))
   exact ⟨rfl, j + 1, ⟨by omega, fstE_next hfs (rmap_at hj4) (Classical.not_not.1 h77)⟩, by omega, cv, Lh⟩
  refine wExit (thn_x (thn_x (blk_x (thn_n (wSeq (wRegion' (oAssign rfl (oNil (thn_n (wRet (fin_r ?_)))))))))))
  refine fi1 rfl ?_
  obtain rfl : j = (shapeF x.fOp).size := by omega
  rw [rmap_all] at hfs
  exact ⟨(), trivial, by rw [hiR, hfs]; rfl, Lh⟩
set_option maxRecDepth 100000 in
set_option maxHeartbeats 600000 in
theorem ref17_Check {B : Base} {w : World} (hS : St B [] w) (f : ApiFunc) (fc : List Value) (hf : kApiFunc.K B.e f fc) (hv : ∀ y ∈ f.fKinds, in64 y) (Al : Option Addr) (cl : Nat) (l : List ApiSymbol) (hl : kApiSymbol.C B.e Al l) :
    CallsIn Fence.wide 0 Tryz.prog 187 #[.agg fc.toArray, .slice Al l.length cl] w (Ret B (fun _ : Unit => True) (fun _ => .tuple #[.int .i64 (chkE f l), .int .i64 (chkI f l)]) (fun _ => [])) := by
  obtain ⟨A0, c0, A1, c1, A2, c2, A3, c3, rfl, l0, g0, l1, g1, l2, g2, l3, g3⟩ := kApiFunc_open hf
  have hcl := g2.1
  have hil : (insL f l).length = f.fCode.length := by simp [insL]
  (refine enter Tryz.func187 rfl rfl hS ?_; simp only [List.zipIdx_cons, List.zipIdx_nil, List.map_cons, List.map_nil, Nat.reduceAdd, Nat.zero_add])
  refine wSeq (wRegion' (oBox rfl (by repeat constructor) (fun b2 => ?_)))
  refine oAssign rfl (oAssign rfl (oNil (thn_n (wSeq (wSeq (wRegion' (oLdA rfl (by repeat constructor) rfl (by repeat constructor) ?_)))))))
  (refine oCall rfl (by kernel_rfl) (fun w hS => frame hS (by repeat' constructor) (fun B' hB hS' => ref16_Check hS' f _ (kApiFunc.K_grow hB hf) hv)) ?_; rintro ⟨⟩ -)
  refine oAssign rfl (oNil (thn_n (wSeq (wRegion' (oMove rfl (oNeq rfl rfl (oNil (thn_n (wC (fun h12 => ?_) (fun h12 => ?_))))))))))
  ·
   refine wSeq (wRegion' (oMove rfl (oAssign rfl (oAssign rfl (oNil (thn_n (wRet (thn_r (fin_r ?_)))))))))
   refine ⟨rfl, _, (ResL.cons (ResR.tmp rfl) (ResL.cons (ResR.tmp rfl) ResL.nil)), ?_⟩
   exact ⟨(), trivial, by unfold chkE chkI; rw [if_pos h12, if_pos h12]; rfl, Lh⟩
  refine wSkip (thn_n (wSeq (wSeq (wRegion' (oAssign rfl (oNil (thn_n (wBlock (wLoop (ι := Nat) (fun i => [(1, .slice Al l.length cl), (2, .pointer (some ⟨b2, 0, none⟩)), (7, .int .i64 (i : Int))]) (fun i => [blk b2 47 [.int .i64 f.fClass, .slice A0 f.fKinds.length c0, .int .i64 f.fPad, .bool f.fNosplit, .int .i64 f.fFrom, .int .i64 f.fTo, .slice A1 f.fLines.length c1, .slice A2 f.fCode.length c2, .slice A3 f.fRelocs.length c3]]) (fun i => i ≤ f.fCode.length ∧ fstE ((insL f l).take i) = 0 ∧ ∀ y ∈ (insL f l).take i, non0 y = false) (fun i => f.fCode.length - i) 0 ?_ cv Lh ?_)))))))))
  ·
   exact ⟨Nat.zero_le _, rfl, by simp⟩
  rintro i ⟨hi, hs, hs2⟩
  try dsimp only
  refine wSeq (wSeq (wRegion' (oMove rfl (oFld (n := 7) (m := 7) rfl rfl rfl (oLd rfl (by repeat constructor) rfl rfl ?_)))))
  refine oLenS rfl rfl (oLss rfl rfl (oNil (thn_n (wC (fun h18 => ?_) (fun h18 => ?_)))))
  ·
   have hxe : (insL f l)[i]? = some (instrF f l (i : Int)) := rmap_at (e := fun i : Nat => instrF f l (i : Int)) (by omega)
   refine wSkip (thn_n (wSeq (wBlock (wSeq (wRegion' (oLdA rfl (by repeat constructor) rfl (by repeat constructor) ?_))))))
   refine oMove rfl (oMove rfl ?_)
   (refine oCall rfl (by kernel_rfl) (fun w hS => frame hS (by repeat' constructor) (fun B' hB hS' => ref17_Instr hS' f _ (kApiFunc.K_grow hB hf) Al cl l (Kd.C_grow hB hl) (i : Int))) ?_; rintro ⟨⟩ -)
   refine oAssign rfl (oNil (thn_n (wSeq (wRegion' (oMove rfl (oNeq rfl rfl (oNil (thn_n (wC (fun h26 => ?_) (fun h26 => ?_))))))))))
   ·
    refine wSeq (wRegion' (oMove rfl (oMove rfl (oAssign rfl (oAssign rfl (oNil (thn_n (wRet (blk_r (thn_r (thn_r ?_)))))))))))
    refine blk_r (thn_r (fin_r ?_))
    refine ⟨rfl, _, (ResL.cons (ResR.tmp rfl) (ResL.cons (ResR.tmp rfl) ResL.nil)), ?_⟩
    exact ⟨(), trivial, by unfold chkE chkI; rw [if_neg h12, if_neg h12, fstE_stop hs hxe h26, idxI_stop hs2 hxe (decide_eq_true h26)]; rfl, Lh⟩
   refine wSkip (blk_n (thn_n (wRegion' (oMove rfl (oSucc rfl rfl (by omega) ?_)))))
   refine oAssign rfl (oNil (thn_n ?_))
   exact ⟨rfl, i + 1, ⟨by omega, fstE_next hs hxe (Classical.not_not.1 h26), take_not hs2 hxe (decide_eq_false h26)⟩, by omega, cv, Lh⟩
  refine wExit (thn_x (thn_x (blk_x (thn_n (wSeq (wRegion' (oAssign rfl (oAssign rfl (oNil (thn_n (wRet ?_)))))))))))
  refine fin_r ?_
  refine ⟨rfl, _, (ResL.cons (ResR.tmp rfl) (ResL.cons (ResR.tmp rfl) ResL.nil)), ?_⟩
  obtain rfl : i = f.fCode.length := by omega
  rw [← hil, List.take_length] at hs hs2
  exact ⟨(), trivial, by unfold chkE chkI; rw [if_neg h12, if_neg h12, hs, idxI_none hs2]; rfl, Lh⟩
end Go.Proofs.YtogaiijhicfoaaaGreatV
