import Derived.Test.YtogaiijhicfoaaaGreatVk
import Derived.Test.YtogaiijhicfoaaaGreatVi

/-
  The references of op's shapes, of instr, of flow.
-/
namespace Go.Proofs.YtogaiijhicfoaaaGreatV
set_option linter.unusedVariables false
set_option linter.unusedSimpArgs false
open Go.RowKit Go.Proofs.YtogaiijhicfoaaaGreatK Go.Proofs.YtogaiijhicfoaaaGreatT Go.Proofs.YtogaiijhicfoaaaGreatL

theorem shapeF_rr {o : Int} (h : 4 ≤ o ∧ o ≤ 10) : shapeF o = ⟨#[119, 114, 114, 45]⟩ := by
  have h1 : ∀ n, n < 7 → shapesL.getD (n + 3) ByteArray.empty = ⟨#[119, 114, 114, 45]⟩ := by decide
  unfold shapeF
  rw [if_pos (ownF_iff.2 (by omega))]
  have := h1 (o - 4).toNat (by omega)
  rwa [show (o - 4).toNat + 3 = (o - 1).toNat by omega] at this
theorem shapeF_out {o : Int} (h : ¬ (1 ≤ o ∧ o ≤ 24)) : shapeF o = ByteArray.empty := by
  unfold shapeF
  rw [if_neg (fun k => h (ownF_iff.1 k))]
set_option maxRecDepth 100000 in
set_option maxHeartbeats 600000 in
theorem ref7_Shape {B : Base} {w : World} (hS : St B [] w) (o : Int) :
    CallsIn Fence.wide 0 Tryz.prog 258 #[.int .i64 o] w (Ret B (fun _ : Unit => True) (fun _ => .string (shapeF o)) (fun _ => [])) := by
  (refine enter Tryz.func258 rfl rfl hS ?_; simp only [List.zipIdx_cons, List.zipIdx_nil, List.map_cons, List.map_nil, Nat.reduceAdd, Nat.zero_add])
  refine wSeq (wRegion' (oAssign rfl (oNil (thn_n (wSeq (wSeq (wRegion' (oMove rfl (oGeq rfl rfl (oMove rfl ?_))))))))))
  first | refine oSplit (t := 5) rfl (fun h5 => ?_) (fun h5 => ?_) | refine oSplitB (t := 5) rfl (fun h5 => ?_) (fun h5 => ?_)
  ·
   refine oWant rfl rfl (oMove rfl (oWant rfl rfl (oLeq rfl rfl (oPickT rfl rfl (oNil (thn_n (wC (fun h8 => ?_) (fun h8 => ?_))))))))
   ·
    refine wSeq (wRegion' (oAssign rfl (oNil (thn_n (wRet (thn_r (fin_r (fi1 rfl ?_))))))))
    exact ⟨(), trivial, by rw [shapeF_rr (by omega)]; rfl, Lh⟩
   refine wSkip (thn_n (wSeq (wRegion' (oMove rfl ?_))))
   (refine oCall rfl (by kernel_rfl) (fun w hS => frame hS (by repeat' constructor) (fun B' hB hS' => ref7_Name hS' o)) ?_; rintro ⟨⟩ -)
   refine oNil (thn_n (wBlock (wSeq (wRegion' (oSEq rfl rfl (oAssign rfl (oNil (thn_n (wC (fun h11 => ?_) (fun h11 => ?_))))))))))
   ·
    refine wSeq (wRegion' (oAssign rfl (oNil (thn_n (wRet (blk_r (fin_r (fi1 rfl ?_))))))))
    have ho := name_case 0 (by decide) (by decide) h11
    exact ⟨(), trivial, by subst ho; rfl, Lh⟩
   refine wSeq (wRegion' (oSEq rfl rfl (oAssign rfl (oNil (thn_n (wC (fun h13 => ?_) (fun h13 => ?_)))))))
   ·
    refine wSeq (wRegion' (oAssign rfl (oNil (thn_n (wRet (blk_r (fin_r (fi1 rfl ?_))))))))
    have ho := name_case 1 (by decide) (by decide) h13
    exact ⟨(), trivial, by subst ho; rfl, Lh⟩
   refine wSeq (wSeq (wRegion' (oSEq rfl rfl (oAssign rfl (oNil (thn_n (wC (fun h15 => ?_) (fun h15 => ?_))))))))
   ·
    refine wSkip (thn_n ?_)
    first | refine wCondT rfl ?_ | refine wCondTd h15 rfl ?_ | refine wCondTb h15 rfl ?_
    refine wSeq (wRegion' (oAssign rfl (oNil (thn_n (wRet (blk_r (fin_r (fi1 rfl ?_))))))))
    have ho : o = 3 ∨ o = 15 := by first | exact .inl (name_case 2 (by decide) (by decide) h15) | exact .inr (name_case 14 (by decide) (by decide) h15)
    exact ⟨(), trivial, by rcases ho with rfl | rfl <;> rfl, Lh⟩
   refine wRegion' (oSEq rfl rfl ?_)
   have n15 := name_not 2 (by decide) rfl h15
   refine oAssign rfl (oNil (thn_n (wC (fun h15 => ?_) (fun h15 => ?_))))
   ·
    refine wSeq (wRegion' (oAssign rfl (oNil (thn_n (wRet (blk_r (fin_r (fi1 rfl ?_))))))))
    have ho : o = 3 ∨ o = 15 := by first | exact .inl (name_case 2 (by decide) (by decide) h15) | exact .inr (name_case 14 (by decide) (by decide) h15)
    exact ⟨(), trivial, by rcases ho with rfl | rfl <;> rfl, Lh⟩
   refine wSeq (wRegion' (oSEq rfl rfl (oAssign rfl (oNil (thn_n (wC (fun h18 => ?_) (fun h18 => ?_)))))))
   ·
    refine wSeq (wRegion' (oAssign rfl (oNil (thn_n (wRet (blk_r (fin_r (fi1 rfl ?_))))))))
    have ho := name_case 10 (by decide) (by decide) h18
    exact ⟨(), trivial, by subst ho; rfl, Lh⟩
   refine wSeq (wRegion' (oSEq rfl rfl (oAssign rfl (oNil (thn_n (wC (fun h20 => ?_) (fun h20 => ?_)))))))
   ·
    refine wSeq (wRegion' (oAssign rfl (oNil (thn_n (wRet (blk_r (fin_r (fi1 rfl ?_))))))))
    have ho := name_case 11 (by decide) (by decide) h20
    exact ⟨(), trivial, by subst ho; rfl, Lh⟩
   refine wSeq (wRegion' (oSEq rfl rfl (oAssign rfl (oNil (thn_n (wC (fun h22 => ?_) (fun h22 => ?_)))))))
   ·
    refine wSeq (wRegion' (oAssign rfl (oNil (thn_n (wRet (blk_r (fin_r (fi1 rfl ?_))))))))
    have ho := name_case 12 (by decide) (by decide) h22
    exact ⟨(), trivial, by subst ho; rfl, Lh⟩
   refine wSeq (wSeq (wRegion' (oSEq rfl rfl (oAssign rfl (oNil (thn_n (wC (fun h24 => ?_) (fun h24 => ?_))))))))
   ·
    refine wSkip (thn_n ?_)
    first | refine wCondT rfl ?_ | refine wCondTd h24 rfl ?_ | refine wCondTb h24 rfl ?_
    refine wSeq (wRegion' (oAssign rfl (oNil (thn_n (wRet (blk_r (fin_r (fi1 rfl ?_))))))))
    have ho : o = 14 ∨ o = 22 := by first | exact .inl (name_case 13 (by decide) (by decide) h24) | exact .inr (name_case 21 (by decide) (by decide) h24)
    exact ⟨(), trivial, by rcases ho with rfl | rfl <;> rfl, Lh⟩
   refine wRegion' (oSEq rfl rfl ?_)
   have n24 := name_not 13 (by decide) rfl h24
   refine oAssign rfl (oNil (thn_n (wC (fun h24 => ?_) (fun h24 => ?_))))
   ·
    refine wSeq (wRegion' (oAssign rfl (oNil (thn_n (wRet (blk_r (fin_r (fi1 rfl ?_))))))))
    have ho : o = 14 ∨ o = 22 := by first | exact .inl (name_case 13 (by decide) (by decide) h24) | exact .inr (name_case 21 (by decide) (by decide) h24)
    exact ⟨(), trivial, by rcases ho with rfl | rfl <;> rfl, Lh⟩
   refine wSeq (wRegion' (oSEq rfl rfl (oAssign rfl (oNil (thn_n (wC (fun h27 => ?_) (fun h27 => ?_)))))))
   ·
    refine wSeq (wRegion' (oAssign rfl (oNil (thn_n (wRet (blk_r (fin_r (fi1 rfl ?_))))))))
    have ho := name_case 15 (by decide) (by decide) h27
    exact ⟨(), trivial, by subst ho; rfl, Lh⟩
   refine wSeq (wRegion' (oSEq rfl rfl (oAssign rfl (oNil (thn_n (wC (fun h29 => ?_) (fun h29 => ?_)))))))
   ·
    refine wSeq (wRegion' (oAssign rfl (oNil (thn_n (wRet (blk_r (fin_r (fi1 rfl ?_))))))))
    have ho := name_case 16 (by decide) (by decide) h29
    exact ⟨(), trivial, by subst ho; rfl, Lh⟩
   refine wSeq (wRegion' (oSEq rfl rfl (oAssign rfl (oNil (thn_n (wC (fun h31 => ?_) (fun h31 => ?_)))))))
   ·
    refine wSeq (wRegion' (oAssign rfl (oNil (thn_n (wRet (blk_r (fin_r (fi1 rfl ?_))))))))
    have ho := name_case 17 (by decide) (by decide) h31
    exact ⟨(), trivial, by subst ho; rfl, Lh⟩
   refine wSeq (wRegion' (oSEq rfl rfl (oAssign rfl (oNil (thn_n (wC (fun h33 => ?_) (fun h33 => ?_)))))))
   ·
    refine wSeq (wRegion' (oAssign rfl (oNil (thn_n (wRet (blk_r (fin_r (fi1 rfl ?_))))))))
    have ho := name_case 18 (by decide) (by decide) h33
    exact ⟨(), trivial, by subst ho; rfl, Lh⟩
   refine wSeq (wRegion' (oSEq rfl rfl (oAssign rfl (oNil (thn_n (wC (fun h35 => ?_) (fun h35 => ?_)))))))
   ·
    refine wSeq (wRegion' (oAssign rfl (oNil (thn_n (wRet (blk_r (fin_r (fi1 rfl ?_))))))))
    have ho := name_case 19 (by decide) (by decide) h35
    exact ⟨(), trivial, by subst ho; rfl, Lh⟩
   refine wSeq (wRegion' (oSEq rfl rfl (oAssign rfl (oNil (thn_n (wC (fun h37 => ?_) (fun h37 => ?_)))))))
   ·
    refine wSeq (wRegion' (oAssign rfl (oNil (thn_n (wRet (blk_r (fin_r (fi1 rfl ?_))))))))
    have ho := name_case 20 (by decide) (by decide) h37
    exact ⟨(), trivial, by subst ho; rfl, Lh⟩
   refine wSeq (wRegion' (oSEq rfl rfl (oAssign rfl (oNil (thn_n (wC (fun h39 => ?_) (fun h39 => ?_)))))))
   ·
    refine wSeq (wRegion' (oAssign rfl (oNil (thn_n (wRet (blk_r (fin_r (fi1 rfl ?_))))))))
    have ho := name_case 22 (by decide) (by decide) h39
    exact ⟨(), trivial, by subst ho; rfl, Lh⟩
   refine wSeq (wRegion' (oSEq rfl rfl (oAssign rfl (oNil (thn_n (wC (fun h41 => ?_) (fun h41 => ?_)))))))
   ·
    refine wSeq (wRegion' (oAssign rfl (oNil (thn_n (wRet (blk_r (fin_r (fi1 rfl ?_))))))))
    have ho := name_case 23 (by decide) (by decide) h41
    exact ⟨(), trivial, by subst ho; rfl, Lh⟩
   refine wSeq (wRegion' (oAssign rfl (oNil (thn_n (wRet (blk_r (fin_r (fi1 rfl ?_))))))))
   have n1 := name_not 0 (by decide) rfl h11
   have n2 := name_not 1 (by decide) rfl h13
   have n3 := name_not 14 (by decide) rfl h15
   have n4 := name_not 10 (by decide) rfl h18
   have n5 := name_not 11 (by decide) rfl h20
   have n6 := name_not 12 (by decide) rfl h22
   have n7 := name_not 21 (by decide) rfl h24
   have n8 := name_not 15 (by decide) rfl h27
   have n9 := name_not 16 (by decide) rfl h29
   have n10 := name_not 17 (by decide) rfl h31
   have n11 := name_not 18 (by decide) rfl h33
   have n12 := name_not 19 (by decide) rfl h35
   have n13 := name_not 20 (by decide) rfl h37
   have n14 := name_not 22 (by decide) rfl h39
   have n16 := name_not 23 (by decide) rfl h41
   exact ⟨(), trivial, by rw [shapeF_out (by omega)]; rfl, Lh⟩
  refine oSkip rfl rfl rfl rfl (oSkip rfl rfl rfl rfl (oPickF rfl rfl (oNil (thn_n ?_))))
  first | refine wCondF rfl ?_ | refine wCondFd h8 rfl ?_ | refine wCondFb h8 rfl ?_
  refine wSkip (thn_n (wSeq (wRegion' (oMove rfl ?_))))
  (refine oCall rfl (by kernel_rfl) (fun w hS => frame hS (by repeat' constructor) (fun B' hB hS' => ref7_Name hS' o)) ?_; rintro ⟨⟩ -)
  refine oNil (thn_n (wBlock (wSeq (wRegion' (oSEq rfl rfl (oAssign rfl (oNil (thn_n (wC (fun h11 => ?_) (fun h11 => ?_))))))))))
  ·
   refine wSeq (wRegion' (oAssign rfl (oNil (thn_n (wRet (blk_r (fin_r (fi1 rfl ?_))))))))
   have ho := name_case 0 (by decide) (by decide) h11
   exact ⟨(), trivial, by subst ho; rfl, Lh⟩
  refine wSeq (wRegion' (oSEq rfl rfl (oAssign rfl (oNil (thn_n (wC (fun h13 => ?_) (fun h13 => ?_)))))))
  ·
   refine wSeq (wRegion' (oAssign rfl (oNil (thn_n (wRet (blk_r (fin_r (fi1 rfl ?_))))))))
   have ho := name_case 1 (by decide) (by decide) h13
   exact ⟨(), trivial, by subst ho; rfl, Lh⟩
  refine wSeq (wSeq (wRegion' (oSEq rfl rfl (oAssign rfl (oNil (thn_n (wC (fun h15 => ?_) (fun h15 => ?_))))))))
  ·
   refine wSkip (thn_n ?_)
   first | refine wCondT rfl ?_ | refine wCondTd h15 rfl ?_ | refine wCondTb h15 rfl ?_
   refine wSeq (wRegion' (oAssign rfl (oNil (thn_n (wRet (blk_r (fin_r (fi1 rfl ?_))))))))
   have ho : o = 3 ∨ o = 15 := by first | exact .inl (name_case 2 (by decide) (by decide) h15) | exact .inr (name_case 14 (by decide) (by decide) h15)
   exact ⟨(), trivial, by rcases ho with rfl | rfl <;> rfl, Lh⟩
  refine wRegion' (oSEq rfl rfl ?_)
  have n15 := name_not 2 (by decide) rfl h15
  refine oAssign rfl (oNil (thn_n (wC (fun h15 => ?_) (fun h15 => ?_))))
  ·
   refine wSeq (wRegion' (oAssign rfl (oNil (thn_n (wRet (blk_r (fin_r (fi1 rfl ?_))))))))
   have ho : o = 3 ∨ o = 15 := by first | exact .inl (name_case 2 (by decide) (by decide) h15) | exact .inr (name_case 14 (by decide) (by decide) h15)
   exact ⟨(), trivial, by rcases ho with rfl | rfl <;> rfl, Lh⟩
  refine wSeq (wRegion' (oSEq rfl rfl (oAssign rfl (oNil (thn_n (wC (fun h18 => ?_) (fun h18 => ?_)))))))
  ·
   refine wSeq (wRegion' (oAssign rfl (oNil (thn_n (wRet (blk_r (fin_r (fi1 rfl ?_))))))))
   have ho := name_case 10 (by decide) (by decide) h18
   exact ⟨(), trivial, by subst ho; rfl, Lh⟩
  refine wSeq (wRegion' (oSEq rfl rfl (oAssign rfl (oNil (thn_n (wC (fun h20 => ?_) (fun h20 => ?_)))))))
  ·
   refine wSeq (wRegion' (oAssign rfl (oNil (thn_n (wRet (blk_r (fin_r (fi1 rfl ?_))))))))
   have ho := name_case 11 (by decide) (by decide) h20
   exact ⟨(), trivial, by subst ho; rfl, Lh⟩
  refine wSeq (wRegion' (oSEq rfl rfl (oAssign rfl (oNil (thn_n (wC (fun h22 => ?_) (fun h22 => ?_)))))))
  ·
   refine wSeq (wRegion' (oAssign rfl (oNil (thn_n (wRet (blk_r (fin_r (fi1 rfl ?_))))))))
   have ho := name_case 12 (by decide) (by decide) h22
   exact ⟨(), trivial, by subst ho; rfl, Lh⟩
  refine wSeq (wSeq (wRegion' (oSEq rfl rfl (oAssign rfl (oNil (thn_n (wC (fun h24 => ?_) (fun h24 => ?_))))))))
  ·
   refine wSkip (thn_n ?_)
   first | refine wCondT rfl ?_ | refine wCondTd h24 rfl ?_ | refine wCondTb h24 rfl ?_
   refine wSeq (wRegion' (oAssign rfl (oNil (thn_n (wRet (blk_r (fin_r (fi1 rfl ?_))))))))
   have ho : o = 14 ∨ o = 22 := by first | exact .inl (name_case 13 (by decide) (by decide) h24) | exact .inr (name_case 21 (by decide) (by decide) h24)
   exact ⟨(), trivial, by rcases ho with rfl | rfl <;> rfl, Lh⟩
  refine wRegion' (oSEq rfl rfl ?_)
  have n24 := name_not 13 (by decide) rfl h24
  refine oAssign rfl (oNil (thn_n (wC (fun h24 => ?_) (fun h24 => ?_))))
  ·
   refine wSeq (wRegion' (oAssign rfl (oNil (thn_n (wRet (blk_r (fin_r (fi1 rfl ?_))))))))
   have ho : o = 14 ∨ o = 22 := by first | exact .inl (name_case 13 (by decide) (by decide) h24) | exact .inr (name_case 21 (by decide) (by decide) h24)
   exact ⟨(), trivial, by rcases ho with rfl | rfl <;> rfl, Lh⟩
  refine wSeq (wRegion' (oSEq rfl rfl (oAssign rfl (oNil (thn_n (wC (fun h27 => ?_) (fun h27 => ?_)))))))
  ·
   refine wSeq (wRegion' (oAssign rfl (oNil (thn_n (wRet (blk_r (fin_r (fi1 rfl ?_))))))))
   have ho := name_case 15 (by decide) (by decide) h27
   exact ⟨(), trivial, by subst ho; rfl, Lh⟩
  refine wSeq (wRegion' (oSEq rfl rfl (oAssign rfl (oNil (thn_n (wC (fun h29 => ?_) (fun h29 => ?_)))))))
  ·
   refine wSeq (wRegion' (oAssign rfl (oNil (thn_n (wRet (blk_r (fin_r (fi1 rfl ?_))))))))
   have ho := name_case 16 (by decide) (by decide) h29
   exact ⟨(), trivial, by subst ho; rfl, Lh⟩
  refine wSeq (wRegion' (oSEq rfl rfl (oAssign rfl (oNil (thn_n (wC (fun h31 => ?_) (fun h31 => ?_)))))))
  ·
   refine wSeq (wRegion' (oAssign rfl (oNil (thn_n (wRet (blk_r (fin_r (fi1 rfl ?_))))))))
   have ho := name_case 17 (by decide) (by decide) h31
   exact ⟨(), trivial, by subst ho; rfl, Lh⟩
  refine wSeq (wRegion' (oSEq rfl rfl (oAssign rfl (oNil (thn_n (wC (fun h33 => ?_) (fun h33 => ?_)))))))
  ·
   refine wSeq (wRegion' (oAssign rfl (oNil (thn_n (wRet (blk_r (fin_r (fi1 rfl ?_))))))))
   have ho := name_case 18 (by decide) (by decide) h33
   exact ⟨(), trivial, by subst ho; rfl, Lh⟩
  refine wSeq (wRegion' (oSEq rfl rfl (oAssign rfl (oNil (thn_n (wC (fun h35 => ?_) (fun h35 => ?_)))))))
  ·
   refine wSeq (wRegion' (oAssign rfl (oNil (thn_n (wRet (blk_r (fin_r (fi1 rfl ?_))))))))
   have ho := name_case 19 (by decide) (by decide) h35
   exact ⟨(), trivial, by subst ho; rfl, Lh⟩
  refine wSeq (wRegion' (oSEq rfl rfl (oAssign rfl (oNil (thn_n (wC (fun h37 => ?_) (fun h37 => ?_)))))))
  ·
   refine wSeq (wRegion' (oAssign rfl (oNil (thn_n (wRet (blk_r (fin_r (fi1 rfl ?_))))))))
   have ho := name_case 20 (by decide) (by decide) h37
   exact ⟨(), trivial, by subst ho; rfl, Lh⟩
  refine wSeq (wRegion' (oSEq rfl rfl (oAssign rfl (oNil (thn_n (wC (fun h39 => ?_) (fun h39 => ?_)))))))
  ·
   refine wSeq (wRegion' (oAssign rfl (oNil (thn_n (wRet (blk_r (fin_r (fi1 rfl ?_))))))))
   have ho := name_case 22 (by decide) (by decide) h39
   exact ⟨(), trivial, by subst ho; rfl, Lh⟩
  refine wSeq (wRegion' (oSEq rfl rfl (oAssign rfl (oNil (thn_n (wC (fun h41 => ?_) (fun h41 => ?_)))))))
  ·
   refine wSeq (wRegion' (oAssign rfl (oNil (thn_n (wRet (blk_r (fin_r (fi1 rfl ?_))))))))
   have ho := name_case 23 (by decide) (by decide) h41
   exact ⟨(), trivial, by subst ho; rfl, Lh⟩
  refine wSeq (wRegion' (oAssign rfl (oNil (thn_n (wRet (blk_r (fin_r (fi1 rfl ?_))))))))
  have n1 := name_not 0 (by decide) rfl h11
  have n2 := name_not 1 (by decide) rfl h13
  have n3 := name_not 14 (by decide) rfl h15
  have n4 := name_not 10 (by decide) rfl h18
  have n5 := name_not 11 (by decide) rfl h20
  have n6 := name_not 12 (by decide) rfl h22
  have n7 := name_not 21 (by decide) rfl h24
  have n8 := name_not 15 (by decide) rfl h27
  have n9 := name_not 16 (by decide) rfl h29
  have n10 := name_not 17 (by decide) rfl h31
  have n11 := name_not 18 (by decide) rfl h33
  have n12 := name_not 19 (by decide) rfl h35
  have n13 := name_not 20 (by decide) rfl h37
  have n14 := name_not 22 (by decide) rfl h39
  have n16 := name_not 23 (by decide) rfl h41
  exact ⟨(), trivial, by rw [shapeF_out (by omega)]; rfl, Lh⟩
theorem opd_at (x : ApiInstr) {i : Nat} (h : i < 4) : opdF x (i : Int) = (numsL x).getD (1 + i) 0 := by
  unfold opdF
  rw [if_neg (by omega), Int.toNat_natCast]
set_option maxRecDepth 100000 in
theorem ref8_Operand {B : Base} {w : World} (hS : St B [] w) (x : ApiInstr) (xc : List Value) (hx : kApiInstr.K B.e x xc) (i : Int) :
    CallsIn Fence.wide 0 Tryz.prog 260 #[.agg xc.toArray, .int .i64 i] w (Ret B (fun _ : Unit => True) (fun _ => .int .i64 (opdF x i)) (fun _ => [])) := by
  obtain rfl := kApiInstr_open hx
  (refine enter Tryz.func260 rfl rfl hS ?_; simp only [List.zipIdx_cons, List.zipIdx_nil, List.map_cons, List.map_nil, Nat.reduceAdd, Nat.zero_add])
  refine wSeq (wRegion' (oBox rfl (by repeat constructor) (fun b2 => ?_)))
  refine oAssign rfl (oNil (thn_n (wSeq (wRegion' (oMove rfl (oNil (thn_n (wBlock (wSeq (wRegion' (oEql rfl rfl ?_)))))))))))
  refine oAssign rfl (oNil (thn_n (wC (fun h6 => ?_) (fun h6 => ?_))))
  ·
   refine wSeq (wRegion' (oFld (n := 1) (m := 1) rfl rfl rfl (oLd rfl (by repeat constructor) rfl rfl ?_)))
   refine oAssign rfl (oNil (thn_n (wRet (blk_r (fin_r (fi1 rfl ?_))))))
   exact ⟨(), trivial, by subst h6; rfl, Lh⟩
  refine wSeq (wRegion' (oEql rfl rfl (oAssign rfl (oNil (thn_n (wC (fun h10 => ?_) (fun h10 => ?_)))))))
  ·
   refine wSeq (wRegion' (oFld (n := 2) (m := 2) rfl rfl rfl (oLd rfl (by repeat constructor) rfl rfl ?_)))
   refine oAssign rfl (oNil (thn_n (wRet (blk_r (fin_r (fi1 rfl ?_))))))
   exact ⟨(), trivial, by subst h10; rfl, Lh⟩
  refine wSeq (wRegion' (oEql rfl rfl (oAssign rfl (oNil (thn_n (wC (fun h14 => ?_) (fun h14 => ?_)))))))
  ·
   refine wSeq (wRegion' (oFld (n := 3) (m := 3) rfl rfl rfl (oLd rfl (by repeat constructor) rfl rfl ?_)))
   refine oAssign rfl (oNil (thn_n (wRet (blk_r (fin_r (fi1 rfl ?_))))))
   exact ⟨(), trivial, by subst h14; rfl, Lh⟩
  refine wSeq (wRegion' (oEql rfl rfl (oAssign rfl (oNil (thn_n (wC (fun h18 => ?_) (fun h18 => ?_)))))))
  ·
   refine wSeq (wRegion' (oFld (n := 4) (m := 4) rfl rfl rfl (oLd rfl (by repeat constructor) rfl rfl ?_)))
   refine oAssign rfl (oNil (thn_n (wRet (blk_r (fin_r (fi1 rfl ?_))))))
   exact ⟨(), trivial, by subst h18; rfl, Lh⟩
  refine wSeq (wRegion' (oAssign rfl (oNil (thn_n (wRet (blk_r (fin_r (fi1 rfl ?_))))))))
  exact ⟨(), trivial, by unfold opdF; rw [if_pos (by omega)]; rfl, Lh⟩
set_option maxRecDepth 100000 in
set_option maxHeartbeats 600000 in
theorem ref8_Check {B : Base} {w : World} (hS : St B [] w) (x : ApiInstr) (xc : List Value) (hx : kApiInstr.K B.e x xc) :
    CallsIn Fence.wide 0 Tryz.prog 290 #[.agg xc.toArray] w (Ret B (fun _ : Unit => True) (fun _ => .int .i64 (icF x)) (fun _ => [])) := by
  obtain rfl := kApiInstr_open hx
  have hsz := shapeF_size x.fOp
  (refine enter Tryz.func290 rfl rfl hS ?_; simp only [List.zipIdx_cons, List.zipIdx_nil, List.map_cons, List.map_nil, Nat.reduceAdd, Nat.zero_add])
  refine wSeq (wRegion' (oBox rfl (by repeat constructor) (fun b1 => ?_)))
  refine oAssign rfl (oNil (thn_n (wSeq (wSeq (wRegion' (oFld (n := 0) (m := 0) rfl rfl rfl (oLd rfl (by repeat constructor) rfl rfl ?_)))))))
  (refine oCall rfl (by kernel_rfl) (fun w hS => frame hS (by repeat' constructor) (fun B' hB hS' => ref7_Name hS' x.fOp)) ?_; rintro ⟨⟩ -)
  refine oSEq rfl rfl (oNil (thn_n (wC (fun h9 => ?_) (fun h9 => ?_))))
  ·
   refine wSeq (wRegion' (oAssign rfl (oNil (thn_n (wRet (thn_r (fin_r (fi1 rfl ?_))))))))
   exact ⟨(), trivial, by unfold icF; rw [if_pos (show nameF x.fOp = ByteArray.empty from h9)]; rfl, Lh⟩
  have hnm : ¬ nameF x.fOp = ByteArray.empty := h9
  refine wSkip (thn_n (wSeq (wSeq (wRegion' (oAssign rfl (oNil (thn_n (wBlock (wLoop (ι := Nat) (fun i => [(1, .pointer (some ⟨b1, 0, none⟩)), (3, .int .i64 (i : Int))]) (fun i => [blk b1 51 [.int .i64 x.fOp, .int .i64 x.fA, .int .i64 x.fB, .int .i64 x.fC, .int .i64 x.fN]]) (fun i => i ≤ 3 ∧ ∀ j, j < i → badA x j = false) (fun i => 3 - i) 0 ?_ cv Lh ?_)))))))))
  ·
   exact ⟨Nat.zero_le _, fun j hj => by omega⟩
  rintro i ⟨hi, hs⟩
  try dsimp only
  refine wSeq (wSeq (wRegion' (oMove rfl (oLss rfl rfl (oNil (thn_n (wC (fun h11 => ?_) (fun h11 => ?_))))))))
  ·
   have hi3 : i < 3 := by omega
   have hoa := opd_at x (show i < 4 by omega)
   refine wSkip (thn_n (wSeq (wBlock (wSeq (wRegion' (oLdA rfl (by repeat constructor) rfl (by repeat constructor) ?_))))))
   refine oMove rfl ?_
   (refine oCall rfl (by kernel_rfl) (fun w hS => frame hS (by repeat' constructor) (fun B' hB hS' => ref8_Operand hS' x _ (kApiInstr_mk _ x) (i : Int))) ?_; rintro ⟨⟩ -)
   rw [hoa]
   refine oLss rfl rfl (oMove rfl ?_)
   first | refine oSplit (t := 18) rfl (fun h18 => ?_) (fun h18 => ?_) | refine oSplitB (t := 18) rfl (fun h18 => ?_) (fun h18 => ?_)
   ·
    refine oSkip rfl rfl rfl rfl (oSkip rfl rfl rfl rfl (oSkip rfl rfl rfl rfl (oSkip rfl rfl rfl rfl (oPickT rfl rfl (oNil (thn_n ?_))))))
    first | refine wCondT rfl ?_ | refine wCondTd h23 rfl ?_ | refine wCondTb h23 rfl ?_
    refine wSeq (wRegion' (oAssign rfl (oNil (thn_n (wRet (blk_r (thn_r (thn_r (blk_r (thn_r (fin_r ?_)))))))))))
    refine fi1 rfl ?_
    exact ⟨(), trivial, by unfold icF; rw [if_neg hnm, if_pos (any_T hi3 (by unfold badA; exact decide_eq_true (.inl h18)))]; rfl, Lh⟩
   refine oWant rfl rfl (oLdA rfl (by repeat constructor) rfl (by repeat constructor) ?_)
   refine oWant rfl rfl (oMove rfl (oWant rfl rfl ?_))
   (refine oCall rfl (by kernel_rfl) (fun w hS => frame hS (by repeat' constructor) (fun B' hB hS' => ref8_Operand hS' x _ (kApiInstr_mk _ x) (i : Int))) ?_; rintro ⟨⟩ -)
   rw [hoa]
   refine oWant rfl rfl (oGtr rfl rfl (oPickF rfl rfl (oNil (thn_n (wC (fun h23 => ?_) (fun h23 => ?_))))))
   ·
    refine wSeq (wRegion' (oAssign rfl (oNil (thn_n (wRet (blk_r (thn_r (thn_r (blk_r (thn_r (fin_r ?_)))))))))))
    refine fi1 rfl ?_
    exact ⟨(), trivial, by unfold icF; rw [if_neg hnm, if_pos (any_T hi3 (by unfold badA; exact decide_eq_true (.inr h23)))]; rfl, Lh⟩
   refine wSkip (blk_n (thn_n (wRegion' (oMove rfl (oSucc rfl rfl (by omega) ?_)))))
   refine oAssign rfl (oNil (thn_n ?_))
   exact ⟨rfl, i + 1, ⟨by omega, fun j hj => by
   by_cases e : j = i
   · subst e; unfold badA; exact decide_eq_false (by omega)
   · exact hs j (by omega)⟩, by omega, cv, Lh⟩
  obtain rfl : i = 3 := by omega
  have hA := any_F hs
  refine wExit (thn_x (thn_x (blk_x (thn_n (wSeq (wSeq (wRegion' (oFld (n := 4) (m := 4) rfl rfl rfl (oLd rfl (by repeat constructor) rfl rfl ?_)))))))))
  refine oLss rfl rfl (oMove rfl ?_)
  first | refine oSplit (t := 27) rfl (fun h27 => ?_) (fun h27 => ?_) | refine oSplitB (t := 27) rfl (fun h27 => ?_) (fun h27 => ?_)
  ·
   refine oSkip rfl rfl rfl rfl (oSkip rfl rfl rfl rfl (oSkip rfl rfl rfl rfl (oPickT rfl rfl (oNil (thn_n ?_)))))
   first | refine wCondT rfl ?_ | refine wCondTd h31 rfl ?_ | refine wCondTb h31 rfl ?_
   refine wSeq (wRegion' (oAssign rfl (oNil (thn_n (wRet (thn_r (fin_r (fi1 rfl ?_))))))))
   exact ⟨(), trivial, by unfold icF; rw [if_neg hnm, if_neg (by rw [hA]; simp), if_pos (.inl h27)]; rfl, Lh⟩
  refine oWant rfl rfl (oFld (n := 4) (m := 4) rfl rfl rfl (oWant rfl rfl (oLd rfl (by repeat constructor) rfl rfl ?_)))
  refine oWant rfl rfl (oGtr rfl rfl (oPickF rfl rfl (oNil (thn_n (wC (fun h31 => ?_) (fun h31 => ?_))))))
  ·
   refine wSeq (wRegion' (oAssign rfl (oNil (thn_n (wRet (thn_r (fin_r (fi1 rfl ?_))))))))
   exact ⟨(), trivial, by unfold icF; rw [if_neg hnm, if_neg (by rw [hA]; simp), if_pos (.inr h31)]; rfl, Lh⟩
  refine wSkip (thn_n (wSeq (wRegion' (oFld (n := 0) (m := 0) rfl rfl rfl (oLd rfl (by repeat constructor) rfl rfl ?_)))))
  (refine oCall rfl (by kernel_rfl) (fun w hS => frame hS (by repeat' constructor) (fun B' hB hS' => ref7_Shape hS' x.fOp)) ?_; rintro ⟨⟩ -)
  refine oAssign rfl (oNil (thn_n (wSeq (wSeq (wRegion' (oAssign rfl (oNil (thn_n (wBlock (wLoop (ι := Nat) (fun i => [(1, .pointer (some ⟨b1, 0, none⟩)), (4, .string (shapeF x.fOp)), (5, .int .i64 (i : Int))]) (fun i => [blk b1 51 [.int .i64 x.fOp, .int .i64 x.fA, .int .i64 x.fB, .int .i64 x.fC, .int .i64 x.fN]]) (fun i => i ≤ (shapeF x.fOp).size ∧ ∀ j, j < i → badS x j = false) (fun i => (shapeF x.fOp).size - i) 0 ?_ cv Lh ?_))))))))))
  ·
   exact ⟨Nat.zero_le _, fun j hj => by omega⟩
  rintro i ⟨hi, hs⟩
  try dsimp only
  refine wSeq (wSeq (wRegion' (oMove rfl (oMove rfl (oLenStr rfl rfl (oLss rfl rfl (oNil (thn_n (wC (fun h38 => ?_) (fun h38 => ?_))))))))))
  ·
   have hi4 : i < (shapeF x.fOp).size := by omega
   have hi5 : i < 4 := by rw [hsz] at hi4; split at hi4 <;> omega
   have hoa := opd_at x hi5
   refine wSkip (thn_n (wSeq (wBlock (wSeq (wRegion' (oMove rfl (oMove rfl (oIndexStr rfl rfl rfl hi4 (oEql rfl rfl (oMove rfl ?_))))))))))
   first | refine oSplit (t := 45) rfl (fun h45 => ?_) (fun h45 => ?_) | refine oSplitB (t := 45) rfl (fun h45 => ?_) (fun h45 => ?_)
   ·
    refine oWant rfl rfl (oLdA rfl (by repeat constructor) rfl (by repeat constructor) ?_)
    refine oWant rfl rfl (oMove rfl (oWant rfl rfl ?_))
    (refine oCall rfl (by kernel_rfl) (fun w hS => frame hS (by repeat' constructor) (fun B' hB hS' => ref8_Operand hS' x _ (kApiInstr_mk _ x) (i : Int))) ?_; rintro ⟨⟩ -)
    rw [hoa]
    refine oWant rfl rfl (oNeq rfl rfl (oPickT rfl rfl (oNil (thn_n (wC (fun h50 => ?_) (fun h50 => ?_))))))
    ·
     refine wSeq (wRegion' (oAssign rfl (oNil (thn_n (wRet (blk_r (thn_r (thn_r (blk_r (thn_r (fin_r ?_)))))))))))
     refine fi1 rfl ?_
     exact ⟨(), trivial, by unfold icF; rw [if_neg hnm, if_neg (by rw [hA]; simp), if_neg (by omega), if_pos (any_T hi4 (by unfold badS; simp_all))]; rfl, Lh⟩
    refine wSkip (blk_n (thn_n (wRegion' (oMove rfl (oSucc rfl rfl (by omega) ?_)))))
    refine oAssign rfl (oNil (thn_n ?_))
    exact ⟨rfl, i + 1, ⟨by omega, fun j hj => by
    by_cases e : j = i
    · subst e; unfold badS; simp_all
    · exact hs j (by omega)⟩, by omega, cv, Lh⟩
   refine oSkip rfl rfl rfl rfl (oSkip rfl rfl rfl rfl (oSkip rfl rfl rfl rfl (oSkip rfl rfl rfl rfl (oPickF rfl rfl (oNil (thn_n ?_))))))
   first | refine wCondF rfl ?_ | refine wCondFd h50 rfl ?_ | refine wCondFb h50 rfl ?_
   refine wSkip (blk_n (thn_n (wRegion' (oMove rfl (oSucc rfl rfl (by omega) ?_)))))
   refine oAssign rfl (oNil (thn_n ?_))
   exact ⟨rfl, i + 1, ⟨by omega, fun j hj => by
   by_cases e : j = i
   · subst e; unfold badS; simp_all
   · exact hs j (by omega)⟩, by omega, cv, Lh⟩
  refine wExit (thn_x (thn_x (blk_x (thn_n (wSeq (wRegion' (oAssign rfl (oNil (thn_n (wRet (fin_r ?_)))))))))))
  refine fi1 rfl ?_
  obtain rfl : i = (shapeF x.fOp).size := by omega
  exact ⟨(), trivial, by unfold icF; rw [if_neg hnm, if_neg (by rw [hA]; simp), if_neg (by omega), if_neg (by rw [any_F hs]; simp)]; rfl, Lh⟩
def rnext (x : ApiInstr) (i : Int) : List Int := if x.fOp = 11 then [x.fN] else if endsF x.fOp then [] else if x.fOp ≠ 12 ∨ x.fN = i + 1 then [i + 1] else if x.fN < i + 1 then [x.fN, i + 1] else [i + 1, x.fN]
theorem rnext_any (x : ApiInstr) (i : Int) (p : Int → Bool) : (rnext x i).any p = (nextR x i).any p := by
  unfold rnext nextR
  by_cases h11 : x.fOp = 11
  · rw [if_pos h11, if_neg (by omega), if_pos h11]
  · rw [if_neg h11]
    by_cases h12 : x.fOp = 12
    · rw [if_pos h12, if_neg (by unfold endsF; rw [h12]; decide)]
      split
      · next h => rcases h with h | h
                  · exact absurd h12 h
                  · rw [h]; simp
      · split
        · simp [Bool.or_comm]
        · simp
    · rw [if_neg h12, if_neg h11]
      by_cases he : endsF x.fOp = true
      · rw [if_pos he, if_pos he]
      · rw [if_neg he, if_neg he, if_pos (.inl h12)]
theorem rnext_len (x : ApiInstr) (i : Int) : (rnext x i).length ≤ 2 := by
  unfold rnext
  repeat' split
  all_goals simp
set_option maxRecDepth 100000 in
set_option maxHeartbeats 600000 in
theorem ref14_Next {B : Base} {w : World} (hS : St B [] w) (A : Option Addr) (cp : Nat) (code : List ApiInstr) (hC : kApiInstr.C B.e A code) (k : Nat) (x : ApiInstr) (hx : code[k]? = some x) (W0 : World) :
    CallsIn Fence.wide 0 Tryz.prog 261 #[.slice A code.length cp, .int .i64 (k : Int)] w (Ret B (fun _ : Option Addr × Nat => True) (fun z => .slice z.1 (rnext x k).length z.2) (fun z => [row (Kd.int .i64) W0 3 (.slice z.1 (rnext x k).length z.2) (rnext x k)])) := by
  have hl := hC.1
  have hkl := (List.getElem?_eq_some_iff.1 hx).1
  obtain ⟨e1, cs1, hE⟩ := hC.elm hx
  obtain rfl := kApiInstr_open hE.K
  (refine enter Tryz.func261 rfl rfl hS ?_; simp only [List.zipIdx_cons, List.zipIdx_nil, List.map_cons, List.map_nil, Nat.reduceAdd, Nat.zero_add])
  refine wSeq (wRegion' (oAssign rfl (oNil (thn_n (wSeq (wSeq (wRegion' (oMove rfl (oLss rfl rfl (oMove rfl ?_))))))))))
  first | refine oSplit (t := 9) rfl (fun h9 => ?_) (fun h9 => ?_) | refine oSplitB (t := 9) rfl (fun h9 => ?_) (fun h9 => ?_)
  ·
   omega
  refine oWant rfl rfl (oMove rfl (oWant rfl rfl (oMove rfl (oWant rfl rfl (oLenS rfl rfl (oWant rfl rfl (oGeq rfl rfl (oPickF rfl rfl (oNil (thn_n (wC (fun h14 => ?_) (fun h14 => ?_))))))))))))
  ·
   omega
  refine wSkip (thn_n (wSeq (wRegion' (oMove rfl (oMove rfl (oIdxE rfl rfl (hE) (by omega) rfl rfl ?_))))))
  have hc17 := (hE).cell
  first | refine oLdX rfl hc17 rfl rfl ?_ | refine oLdXA rfl hc17 rfl (by repeat constructor) ?_ | (refine oLdR1 rfl (by repeat constructor) (by omega) rfl (fun u18 hu18 => ?_))
  refine oAlloc rfl (by repeat constructor) (fun b5 => ?_)
  refine oStA rfl rfl rfl rfl (by repeat constructor) (by rfl) ?_
  refine oNil (thn_n (wSeq (wRegion' (oFld (n := 4) (m := 4) rfl rfl rfl (oLd rfl (by repeat constructor) rfl rfl ?_)))))
  refine oAssign rfl (oNil (thn_n (wSeq (wSeq (wRegion' (oFld (n := 0) (m := 0) rfl rfl rfl (oLd rfl (by repeat constructor) rfl rfl ?_)))))))
  refine oEql rfl rfl (oNil (thn_n (wC (fun h23 => ?_) (fun h23 => ?_))))
  ·
   refine wSeq (wRegion' (oMove rfl (oBuildSlice1 rfl rfl rfl rfl rfl (by repeat constructor) rfl (fun b25 => ?_))))
   refine oAssign rfl (oNil (thn_n (wRet (thn_r (fin_r (fi1 rfl ?_))))))
   rw [show rnext x (k : Int) = [x.fN] from if_pos h23]
   exact ⟨(some ⟨b25, 0, none⟩, 1), trivial, rfl, Leads.trans (blk_row (enc := Value.int .i64) (h1 := fun _ => rfl) (W := W0) (xs := [x.fN]) (n := 1) (by repeat constructor) rfl rfl (by decide)) Lh⟩
  refine wSkip (thn_n (wSeq (wSeq (wRegion' (oFld (n := 0) (m := 0) rfl rfl rfl (oLd rfl (by repeat constructor) rfl rfl ?_))))))
  (refine oCall rfl (by kernel_rfl) (fun w hS => frame hS (by repeat' constructor) (fun B' hB hS' => ref7_Ends hS' x.fOp)) ?_; rintro ⟨⟩ -)
  refine oNil (thn_n (wC (fun h28 => ?_) (fun h28 => ?_)))
  ·
   have he : endsF x.fOp = true := by first | exact h28 | exact decide_eq_true h28
   refine wSeq (wRegion' (oAssign rfl (oNil (thn_n (wRet (thn_r (fin_r (fi1 rfl ?_))))))))
   rw [show rnext x (k : Int) = [] by unfold rnext; rw [if_neg h23, if_pos he]]
   exact ⟨(none, 0), trivial, rfl, Leads.nilrow.trans Lh⟩
  have he : ¬ endsF x.fOp = true := by first | (rw [h28]; simp; done) | (unfold endsF; rw [decide_eq_true_eq]; exact h28)
  refine wSkip (thn_n (wSeq (wSeq (wRegion' (oFld (n := 0) (m := 0) rfl rfl rfl (oLd rfl (by repeat constructor) rfl rfl ?_))))))
  refine oNeq rfl rfl (oMove rfl ?_)
  first | refine oSplit (t := 32) rfl (fun h32 => ?_) (fun h32 => ?_) | refine oSplitB (t := 32) rfl (fun h32 => ?_) (fun h32 => ?_)
  ·
   refine oSkip rfl rfl rfl rfl (oSkip rfl rfl rfl rfl (oSkip rfl rfl rfl rfl (oSkip rfl rfl rfl rfl (oPickT rfl rfl (oNil (thn_n ?_))))))
   first | refine wCondT rfl ?_ | refine wCondTd h37 rfl ?_ | refine wCondTb h37 rfl ?_
   refine wSeq (wRegion' (oMove rfl (oAdd rfl rfl (by omega) ?_)))
   refine oBuildSlice1 rfl rfl rfl rfl rfl (by repeat constructor) rfl (fun b40 => ?_)
   refine oAssign rfl (oNil (thn_n (wRet (thn_r (fin_r (fi1 rfl ?_))))))
   rw [show rnext x (k : Int) = [(k : Int) + 1] by unfold rnext; rw [if_neg h23, if_neg he, if_pos (by omega)]]
   exact ⟨(some ⟨b40, 0, none⟩, 1), trivial, rfl, Leads.trans (blk_row (enc := Value.int .i64) (h1 := fun _ => rfl) (W := W0) (xs := [(k : Int) + 1]) (n := 1) (by repeat constructor) rfl rfl (by decide)) Lh⟩
  refine oWant rfl rfl (oMove rfl (oWant rfl rfl (oMove rfl (oWant rfl rfl (oAdd rfl rfl (by omega) ?_)))))
  refine oWant rfl rfl (oEql rfl rfl (oPickF rfl rfl (oNil (thn_n (wC (fun h37 => ?_) (fun h37 => ?_))))))
  ·
   refine wSeq (wRegion' (oMove rfl (oAdd rfl rfl (by omega) ?_)))
   refine oBuildSlice1 rfl rfl rfl rfl rfl (by repeat constructor) rfl (fun b40 => ?_)
   refine oAssign rfl (oNil (thn_n (wRet (thn_r (fin_r (fi1 rfl ?_))))))
   rw [show rnext x (k : Int) = [(k : Int) + 1] by unfold rnext; rw [if_neg h23, if_neg he, if_pos (by omega)]]
   exact ⟨(some ⟨b40, 0, none⟩, 1), trivial, rfl, Leads.trans (blk_row (enc := Value.int .i64) (h1 := fun _ => rfl) (W := W0) (xs := [(k : Int) + 1]) (n := 1) (by repeat constructor) rfl rfl (by decide)) Lh⟩
  refine wSkip (thn_n (wSeq (wSeq (wRegion' (oMove rfl (oMove rfl (oAdd rfl rfl (by omega) ?_)))))))
  refine oLss rfl rfl (oNil (thn_n (wC (fun h44 => ?_) (fun h44 => ?_))))
  ·
   refine wSeq (wRegion' (oMove rfl (oMove rfl (oAdd rfl rfl (by omega) ?_))))
   refine oBuildSliceF (Parts.cons rfl (Parts.cons rfl Parts.nil)) rfl rfl rfl rfl rfl (Fulls.cons (by repeat constructor) rfl (Fulls.cons (by repeat constructor) rfl Fulls.nil (by repeat (first | exact AppL.nil | apply AppL.cons))) (by repeat (first | exact AppL.nil | apply AppL.cons))) (fun b48 => ?_)
   refine oAssign rfl (oNil (thn_n (wRet (thn_r (fin_r (fi1 rfl ?_))))))
   rw [show rnext x (k : Int) = [x.fN, (k : Int) + 1] by unfold rnext; rw [if_neg h23, if_neg he, if_neg (by omega), if_pos h44]]
   exact ⟨(some ⟨b48, 0, none⟩, 2), trivial, rfl, Leads.trans (blk_row (enc := Value.int .i64) (h1 := fun _ => rfl) (W := W0) (xs := [x.fN, (k : Int) + 1]) (n := 2) (by repeat constructor) rfl rfl (by decide)) Lh⟩
  refine wSkip (thn_n (wSeq (wRegion' (oMove rfl (oAdd rfl rfl (by omega) ?_)))))
  refine oMove rfl ?_
  refine oBuildSliceF (Parts.cons rfl (Parts.cons rfl Parts.nil)) rfl rfl rfl rfl rfl (Fulls.cons (by repeat constructor) rfl (Fulls.cons (by repeat constructor) rfl Fulls.nil (by repeat (first | exact AppL.nil | apply AppL.cons))) (by repeat (first | exact AppL.nil | apply AppL.cons))) (fun b52 => ?_)
  refine oAssign rfl (oNil (thn_n (wRet (fin_r (fi1 rfl ?_)))))
  rw [show rnext x (k : Int) = [(k : Int) + 1, x.fN] by unfold rnext; rw [if_neg h23, if_neg he, if_neg (by omega), if_neg h44]]
  exact ⟨(some ⟨b52, 0, none⟩, 2), trivial, rfl, Leads.trans (blk_row (enc := Value.int .i64) (h1 := fun _ => rfl) (W := W0) (xs := [(k : Int) + 1, x.fN]) (n := 2) (by repeat constructor) rfl rfl (by decide)) Lh⟩
set_option maxRecDepth 100000 in
set_option maxHeartbeats 600000 in
theorem ref14_Check {B : Base} {w : World} (hS : St B [] w) (A : Option Addr) (cp : Nat) (code : List ApiInstr) (hC : kApiInstr.C B.e A code) :
    CallsIn Fence.wide 0 Tryz.prog 289 #[.slice A code.length cp] w (Ret B (fun _ : Unit => True) (fun _ => .int .i64 (flowF code)) (fun _ => [])) := by
  (refine enter Tryz.func289 rfl rfl hS ?_; simp only [List.zipIdx_cons, List.zipIdx_nil, List.map_cons, List.map_nil, Nat.reduceAdd, Nat.zero_add])
  refine wSeq (wRegion' (oAssign rfl (oNil (thn_n (wSeq (wSeq (wRegion' (oMove rfl (oLenS rfl rfl (oEql rfl rfl (oNil ?_)))))))))))
  refine thn_n (wC (fun h8 => ?_) (fun h8 => ?_))
  ·
   refine wSeq (wRegion' (oAssign rfl (oNil (thn_n (wRet (thn_r (fin_r (fi1 rfl ?_))))))))
   exact ⟨(), trivial, by rw [flowF_eq, if_pos (by omega)]; rfl, Lh⟩
  refine wSkip (thn_n (wSeq (wSeq (wRegion' (oMove rfl (oLenS rfl rfl (oGtr rfl rfl (oNil (thn_n (wC (fun h11 => ?_) (fun h11 => ?_)))))))))))
  ·
   refine wSeq (wRegion' (oAssign rfl (oNil (thn_n (wRet (thn_r (fin_r (fi1 rfl ?_))))))))
   exact ⟨(), trivial, by rw [flowF_eq, if_neg (by omega), if_pos (by omega)]; rfl, Lh⟩
  have hc0 : ¬ code.length = 0 := by omega
  have hc1 : ¬ 64 < code.length := by omega
  refine wSkip (thn_n (wSeq (wSeq (wRegion' (oAssign rfl (oNil (thn_n (wBlock (wLoop (ι := Nat) (fun i => [(0, .slice A code.length cp), (3, .int .i64 (i : Int))]) (fun i => []) (fun i => i ≤ code.length ∧ ∀ j, j < i → (nextR (code.getD j default) (j : Int)).any (outF code.length) = false) (fun i => code.length - i) 0 ?_ cv Lh ?_)))))))))
  ·
   exact ⟨Nat.zero_le _, fun j hj => by omega⟩
  rintro i ⟨hi, hs⟩
  try dsimp only
  refine wSeq (wSeq (wRegion' (oMove rfl (oMove rfl (oLenS rfl rfl (oLss rfl rfl (oNil (thn_n (wC (fun h15 => ?_) (fun h15 => ?_))))))))))
  ·
   obtain ⟨x, hx⟩ : ∃ x, code[i]? = some x := ⟨_, List.getElem?_eq_getElem (by omega)⟩
   have hrl := rnext_len x (i : Int)
   refine wSkip (thn_n (wSeq (wBlock (wSeq (wRegion' (oMove rfl (oMove rfl ?_)))))))
   (refine oCall rfl (by kernel_rfl) (fun w hS => frame hS (by repeat' constructor) (fun B' hB hS' => ref14_Next hS' A cp code (Kd.C_grow hB hC) i x hx B.e)) ?_; rintro ⟨A20, c20⟩ -)
   refine oAssign rfl (oNil (thn_n (wSeq (wRegion' (oAssign rfl (oNil (thn_n (wBlock (wLoop (ι := Nat) (fun k => [(0, .slice A code.length cp), (3, .int .i64 (i : Int)), (4, .slice A20 (rnext x i).length c20), (5, .int .i64 (k : Int))]) (fun k => [row (Kd.int .i64) B.e 3 (.slice A20 (rnext x i).length c20) (rnext x i)]) (fun k => k ≤ (rnext x i).length ∧ ∀ y ∈ (rnext x i).take k, outF code.length y = false) (fun k => (rnext x i).length - k) 0 ?_ cv Lh ?_)))))))))
   ·
    exact ⟨Nat.zero_le _, by simp⟩
   rintro k ⟨hk, hs2⟩
   try dsimp only
   refine wSeq (wSeq (wRegion' (oMove rfl (oMove rfl (oLenS rfl rfl (oLss rfl rfl (oNil (thn_n (wC (fun h24 => ?_) (fun h24 => ?_))))))))))
   ·
    refine wSkip (thn_n (wSeq (wBlock (wSeq (wRegion' (oMove rfl (oMove rfl (oIdxR rfl rfl (by repeat constructor) (by omega) rfl rfl (fun g29 hg29 => ?_)))))))))
    first | subst hg29 | (injection hg29 with hg29; injection hg29 with hg29; subst hg29)
    first | refine oLdX rfl hc29 rfl rfl ?_ | refine oLdXA rfl hc29 rfl (by repeat constructor) ?_ | (refine oLdR1 rfl (by repeat constructor) (by omega) rfl (fun u30 hu30 => ?_))
    refine oLss rfl rfl (oMove rfl ?_)
    first | refine oSplit (t := 32) rfl (fun h32 => ?_) (fun h32 => ?_) | refine oSplitB (t := 32) rfl (fun h32 => ?_) (fun h32 => ?_)
    ·
     refine oSkip rfl rfl rfl rfl (oSkip rfl rfl rfl rfl (oSkip rfl rfl rfl rfl (oSkip rfl rfl rfl rfl (oSkip rfl rfl rfl rfl (oSkip rfl rfl rfl rfl (oSkip rfl rfl rfl rfl (oPickT rfl rfl (oNil (thn_n ?_)))))))))
     first | refine wCondT rfl ?_ | refine wCondTd h40 rfl ?_ | refine wCondTb h40 rfl ?_
     refine wSeq (wRegion' (oAssign rfl (oNil (thn_n (wRet (blk_r (thn_r (thn_r (blk_r (blk_r (thn_r ?_)))))))))))
     refine thn_r (blk_r (thn_r (fin_r (fi1 rfl ?_))))
     have hT : (nextR (code.getD i default) (i : Int)).any (outF code.length) = true := by
       rw [getDat hx, ← rnext_any]
       exact List.any_eq_true.2 ⟨u30, List.mem_of_getElem? hu30, decide_eq_true (by omega)⟩
     exact ⟨(), trivial, by rw [flowF_eq, if_neg hc0, if_neg hc1, if_pos (any_T (show i < code.length by omega) hT)]; rfl, Lh⟩
    refine oWant rfl rfl (oMove rfl (oWant rfl rfl (oMove rfl (oWant rfl rfl (oIdxR rfl rfl (by repeat constructor) (by omega) rfl rfl (fun g35 hg35 => ?_))))))
    first | subst hg35 | (injection hg35 with hg35; injection hg35 with hg35; subst hg35)
    refine oWant rfl rfl ?_
    first | refine oLdX rfl hc35 rfl rfl ?_ | refine oLdXA rfl hc35 rfl (by repeat constructor) ?_ | (refine oLdR1 rfl (by repeat constructor) (by omega) rfl (fun u36 hu36 => ?_))
    obtain rfl := Option.some.inj (hu30.symm.trans hu36)
    refine oWant rfl rfl (oMove rfl (oWant rfl rfl (oLenS rfl rfl (oWant rfl rfl (oGeq rfl rfl (oPickF rfl rfl (oNil (thn_n (wC (fun h40 => ?_) (fun h40 => ?_))))))))))
    ·
     refine wSeq (wRegion' (oAssign rfl (oNil (thn_n (wRet (blk_r (thn_r (thn_r (blk_r (blk_r (thn_r ?_)))))))))))
     refine thn_r (blk_r (thn_r (fin_r (fi1 rfl ?_))))
     have hT : (nextR (code.getD i default) (i : Int)).any (outF code.length) = true := by
       rw [getDat hx, ← rnext_any]
       exact List.any_eq_true.2 ⟨u30, List.mem_of_getElem? hu30, decide_eq_true (by omega)⟩
     exact ⟨(), trivial, by rw [flowF_eq, if_neg hc0, if_neg hc1, if_pos (any_T (show i < code.length by omega) hT)]; rfl, Lh⟩
    refine wSkip (blk_n (thn_n (wRegion' (oMove rfl (oSucc rfl rfl (by omega) ?_)))))
    refine oAssign rfl (oNil (thn_n ?_))
    exact ⟨rfl, k + 1, ⟨by omega, take_not hs2 hu30 (decide_eq_false (by omega))⟩, by omega, cv, Lh⟩
   obtain rfl : k = (rnext x i).length := by omega
   rw [List.take_length] at hs2
   have hany : (rnext x (i : Int)).any (outF code.length) = false := by
     rw [Bool.eq_false_iff]
     intro h
     obtain ⟨y, hy, hp⟩ := List.any_eq_true.1 h
     rw [hs2 y hy] at hp; cases hp
   refine wExit (thn_x (thn_x (blk_x (blk_n (thn_n (wRegion' (oMove rfl (oSucc rfl rfl (by omega) ?_))))))))
   refine oAssign rfl (oNil (thn_n ?_))
   exact ⟨rfl, i + 1, ⟨by omega, fun j hj => by
   by_cases e : j = i
   · subst e; rw [getDat hx, ← rnext_any]; exact hany
   · exact hs j (by omega)⟩, by omega, cv, Lh⟩
  refine wExit (thn_x (thn_x (blk_x (thn_n (wSeq (wRegion' (oAssign rfl (oNil (thn_n (wRet (fin_r ?_)))))))))))
  refine fi1 rfl ?_
  obtain rfl : i = code.length := by omega
  exact ⟨(), trivial, by rw [flowF_eq, if_neg hc0, if_neg hc1, if_neg (by rw [any_F hs]; simp)]; rfl, Lh⟩
end Go.Proofs.YtogaiijhicfoaaaGreatV
