import Derived.Test.YtogaiijhicfoaaaGreatUl
import Derived.Test.YtogaiijhicfoaaaGreatUg

/-
  What is live: the fixed calls, and the first statement.
-/
namespace Go.Proofs.YtogaiijhicfoaaaGreatU
set_option linter.unusedVariables false
set_option linter.unusedSimpArgs false
open Go.RowKit Go.Proofs.YtogaiijhicfoaaaGreatK Go.Proofs.YtogaiijhicfoaaaGreatT Go.Proofs.YtogaiijhicfoaaaGreatL Go.Proofs.YtogaiijhicfoaaaGreatV Go.Proofs.YtogaiijhicfoaaaGreatG Go.Proofs.YtogaiijhicfoaaaGreatW

set_option maxRecDepth 100000 in
set_option maxHeartbeats 1000000 in
theorem ref01_Bools {B : Base} {w : World} (hS : St B [] w) (l : List Bool) (A : Option Addr) (cp : Nat) (hC : Kd.bool.C B.e A l) (A1 : Option Addr) (cp1 : Nat) (hC1 : Kd.bool.C B.e A1 l) :
    CallsIn Fence.wide 0 Tryz.prog 28 #[.slice A l.length cp, .slice A1 l.length cp1] w (Ret B (fun _ : Unit => True) (fun _ => .bool true) (fun _ => [])) := by
  have hgl := hC.1
  (refine enter Tryz.func28 rfl rfl hS ?_; simp only [List.zipIdx_cons, List.zipIdx_nil, List.map_cons, List.map_nil, Nat.reduceAdd, Nat.zero_add])
  refine wSeq (wRegion' (oAssign rfl (oNil (thn_n (wSeq (wSeq (wRegion' (oMove rfl (oLenS rfl rfl (oMove rfl (oLenS rfl rfl ?_)))))))))))
  refine oNeq rfl rfl (oNil (thn_n (wC (fun h10 => ?_) (fun h10 => ?_))))
  ·
   exact absurd rfl h10
  refine wSkip (thn_n (wSeq (wSeq (wRegion' (oAssign rfl (oNil (thn_n (wBlock (wLoop (ι := Nat) (fun i => [(0, .slice A l.length cp), (1, .slice A1 l.length cp1), (5, .int .i64 (i : Int))]) (fun i => []) (fun i => i ≤ l.length) (fun i => l.length - i) 0 ?_ cv Lh ?_)))))))))
  ·
   exact Nat.zero_le _
  rintro i hi
  try dsimp only
  refine wSeq (wSeq (wRegion' (oMove rfl (oMove rfl (oLenS rfl rfl (oLss rfl rfl (oNil (thn_n (wC (fun h14 => ?_) (fun h14 => ?_))))))))))
  ·
   obtain ⟨x, hx⟩ : ∃ x, l[i]? = some x := ⟨_, List.getElem?_eq_getElem (by omega)⟩
   obtain ⟨e1, cs1, hE⟩ := hC.elm hx
   obtain rfl := (show cs1 = [Value.bool x] from hE.K)
   obtain ⟨e2, cs2, hE2⟩ := hC1.elm hx
   obtain rfl := (show cs2 = [Value.bool x] from hE2.K)
   refine wSkip (thn_n (wSeq (wBlock (wSeq (wDraw2 rfl rfl [0, 1, 4, 5] [2, 3, 6, 7] 8 (by kernel_rfl) rfl rfl rfl (fun w0 => ?_))))))
   refine oIdxE rfl rfl (hE) (by omega) rfl rfl ?_
   have hc19 := (hE).cell
   first | refine oLdX rfl hc19 rfl rfl ?_ | refine oLdXA rfl hc19 rfl (by repeat constructor) ?_ | (refine oLdR1 rfl (by repeat constructor) (by omega) rfl (fun u20 hu20 => ?_))
   refine oIdxE rfl rfl (hE2) (by omega) rfl rfl ?_
   have hc23 := (hE2).cell
   first | refine oLdX rfl hc23 rfl rfl ?_ | refine oLdXA rfl hc23 rfl (by repeat constructor) ?_ | (refine oLdR1 rfl (by repeat constructor) (by omega) rfl (fun u24 hu24 => ?_))
   refine oHead (oNeqBool rfl rfl rfl (oNilT (thn_n (wC (fun h25 => ?_) (fun h25 => ?_)))))
   ·
    exact absurd rfl h25
   refine wSkip (blk_n (thn_n (wRegion' (oMove rfl (oSucc rfl rfl (by omega) ?_)))))
   refine oAssign rfl (oNil (thn_n ?_))
   exact ⟨rfl, i + 1, by omega, by omega, cv, Lh⟩
  refine wExit (thn_x (thn_x (blk_x (thn_n (wSeq (wRegion' (oAssign rfl (oNil (thn_n (wRet (fin_r ?_)))))))))))
  refine fi1 rfl ?_
  exact ⟨(), trivial, rfl, Lh⟩
theorem reachB_of {g : Graph} {f : List Int} {l : List Bool} (hl : l.length = g.length) (hs : ∀ x ∈ f, inG g x = true → l[x.toNat]? = some true) (hc : ∀ a < g.length, ∀ b ∈ endsOf g a, l[a]? = some true → l[b.toNat]? = some true)
    (hr : ∀ i < g.length, l[i]? = some true → RP g f (i : Int)) : reachB g f = l := by
  refine reach_uniq hl (fun i => ⟨fun h => hr i ?_ h, fun h => ?_⟩)
  · have := (List.getElem?_eq_some_iff.1 h).1; omega
  · have key : ∀ x, RP g f x → l[x.toNat]? = some true := by
      intro x hx
      induction hx with
      | start h1 h2 => exact hs _ h1 h2
      | @step a b h1 h2 ih =>
        have := (inG_iff.1 h1.inG).2
        exact hc a (by omega) _ h2 ih
    exact key _ h
theorem two_live : liveL twoP = [true, true, true, false] := by
  unfold liveL
  rw [two_R]
  have h0 : RP [[1, 2], [], [], [3]] [twoP.fEntry] ((0 : Nat) : Int) := .start (by decide) (by decide)
  refine reachB_of rfl (by decide) (by decide) (fun i hi h => ?_)
  match i, hi, h with
  | 0, _, _ => exact h0
  | 1, _, _ => exact .step h0 (by decide)
  | 2, _, _ => exact .step h0 (by decide)
  | 3, _, h => exact absurd h (by decide)
theorem two_taken : takenL twoP = [false, true, false, false] := by
  refine bools_eq (by rw [takenL_len]; rfl) (fun k => ?_)
  rw [takenL_at]
  constructor
  · rintro ⟨hk, i, f, hf, _, hv⟩
    have h1 : (twoP.fFuns.map (valuesF twoP))[i]? = some (valuesF twoP f) := by rw [List.getElem?_map, hf]; rfl
    rw [two_V] at h1
    match i, h1 with
    | 0, h1 => obtain h1 := Option.some.inj h1; rw [← h1] at hv; simp at hv; obtain rfl : k = 1 := by omega
               rfl
    | 1, h1 => obtain h1 := Option.some.inj h1; rw [← h1] at hv; cases hv
    | 2, h1 => obtain h1 := Option.some.inj h1; rw [← h1] at hv; cases hv
    | 3, h1 => obtain h1 := Option.some.inj h1; rw [← h1] at hv; cases hv
  · intro h
    obtain rfl : k = 1 := by
      match k, h with
      | 0, h => exact absurd h (by decide)
      | 1, _ => rfl
      | 2, h => exact absurd h (by decide)
      | 3, h => exact absurd h (by decide)
    exact ⟨by decide, 0, two0, rfl, by unfold lv; rw [two_live]; rfl, by decide⟩
theorem two_graph : graphF twoP = [[1, 2], [], [], []] := by
  unfold graphF
  simp only [rowF, partF, two_live, two_taken]
  decide
theorem two_called : calledL twoP = [true, true, true, false] := by
  unfold calledL
  rw [two_graph]
  have h0 : RP [[1, 2], [], [], []] [twoP.fEntry] ((0 : Nat) : Int) := .start (by decide) (by decide)
  refine reachB_of rfl (by decide) (by decide) (fun i hi h => ?_)
  match i, hi, h with
  | 0, _, _ => exact h0
  | 1, _, _ => exact .step h0 (by decide)
  | 2, _, _ => exact .step h0 (by decide)
  | 3, _, h => exact absurd h (by decide)
set_option maxRecDepth 100000 in
set_option maxHeartbeats 2000000 in
theorem known26 {B : Base} {w : World} (hS : St B [] w) :
    CallsIn Fence.wide 0 Tryz.prog 27 #[] w (Ret B (fun _ : Unit => True) (fun _ => .bool true) (fun _ => [])) := by
  (refine enter Tryz.func27 rfl rfl hS ?_; simp only [List.zipIdx_cons, List.zipIdx_nil, List.map_cons, List.map_nil, Nat.reduceAdd, Nat.zero_add])
  refine wSeq (wRegion' (oAssign rfl (oNil (thn_n (wSeq (wRegion' ?_))))))
  (refine oCall rfl (by kernel_rfl) (fun w hS => frame hS (by repeat' constructor) (fun B' hB hS' => law_Two hS' B.e)) ?_; rintro ⟨A2, S2⟩ -)
  refine oAlloc rfl (by repeat constructor) (fun b1 => ?_)
  refine oStA rfl rfl rfl rfl (by repeat constructor) (by rfl) ?_
  refine oNil (thn_n (wSeq (wRegion' (oLdA rfl (by repeat constructor) rfl (by repeat constructor) ?_))))
  (refine oCall rfl (by kernel_rfl) (fun w hS => frame' hS .nil (fun B' hB hR hS' => prog_Live hS' twoP _ (two_K (A := A2) (rdr_C (hR _ _ (by repeat constructor)) hB) (by decide)) two_small B.e)) ?_; rintro ⟨A4, c4⟩ -)
  rw [two_live]
  refine oBuildSliceF (Parts.cons rfl (Parts.cons rfl (Parts.cons rfl (Parts.cons rfl Parts.nil)))) rfl rfl rfl rfl rfl (Fulls.cons (by repeat constructor) rfl (Fulls.cons (by repeat constructor) rfl (Fulls.cons (by repeat constructor) rfl (Fulls.cons (by repeat constructor) rfl Fulls.nil (by repeat (first | exact AppL.nil | apply AppL.cons))) (by repeat (first | exact AppL.nil | apply AppL.cons))) (by repeat (first | exact AppL.nil | apply AppL.cons))) (by repeat (first | exact AppL.nil | apply AppL.cons))) (fun b5 => ?_)
  refine oConv (blk_row (enc := Value.bool) (h1 := fun _ => rfl) (W := B.e) (xs := ([true, true, true, false] : List Bool)) (n := 4) (by repeat constructor) rfl rfl (by decide)) ?_
  (refine oCall rfl (by kernel_rfl) (fun w hS => frame' hS .nil (fun B' hB hR hS' => ref01_Bools hS' [true, true, true, false] A4 c4 (row_Cs (W := B.e) (e := 4) (n := twoP.fFuns.length) (cp := c4) (hR _ _ (by repeat constructor))) (some ⟨b5, 0, none⟩) 4 (row_Cs (W := B.e) (e := 4) (n := 4) (cp := 4) (hR _ _ (by repeat constructor))))) ?_; rintro ⟨⟩ -)
  refine oMove rfl (oWant rfl rfl (oLdA rfl (by repeat constructor) rfl (by repeat constructor) ?_))
  refine oWant rfl rfl ?_
  (refine oCall rfl (by kernel_rfl) (fun w hS => frame' hS .nil (fun B' hB hR hS' => prog_Taken hS' twoP _ (two_K (A := A2) (rdr_C (hR _ _ (by repeat constructor)) hB) (by decide)) two_small B.e)) ?_; rintro ⟨A9, c9⟩ -)
  rw [two_taken]
  refine oWant rfl rfl ?_
  refine oBuildSliceF (Parts.cons rfl (Parts.cons rfl (Parts.cons rfl (Parts.cons rfl Parts.nil)))) rfl rfl rfl rfl rfl (Fulls.cons (by repeat constructor) rfl (Fulls.cons (by repeat constructor) rfl (Fulls.cons (by repeat constructor) rfl (Fulls.cons (by repeat constructor) rfl Fulls.nil (by repeat (first | exact AppL.nil | apply AppL.cons))) (by repeat (first | exact AppL.nil | apply AppL.cons))) (by repeat (first | exact AppL.nil | apply AppL.cons))) (by repeat (first | exact AppL.nil | apply AppL.cons))) (fun b10 => ?_)
  refine oConv (blk_row (enc := Value.bool) (h1 := fun _ => rfl) (W := B.e) (xs := ([false, true, false, false] : List Bool)) (n := 4) (by repeat constructor) rfl rfl (by decide)) ?_
  refine oWant rfl rfl ?_
  (refine oCall rfl (by kernel_rfl) (fun w hS => frame' hS .nil (fun B' hB hR hS' => ref01_Bools hS' [false, true, false, false] A9 c9 (row_Cs (W := B.e) (e := 4) (n := twoP.fFuns.length) (cp := c9) (hR _ _ (by repeat constructor))) (some ⟨b10, 0, none⟩) 4 (row_Cs (W := B.e) (e := 4) (n := 4) (cp := 4) (hR _ _ (by repeat constructor))))) ?_; rintro ⟨⟩ -)
  refine oPickT rfl rfl (oMove rfl (oWant rfl rfl (oLdA rfl (by repeat constructor) rfl (by repeat constructor) ?_)))
  refine oWant rfl rfl ?_
  (refine oCall rfl (by kernel_rfl) (fun w hS => frame' hS .nil (fun B' hB hR hS' => prog_Called hS' twoP _ (two_K (A := A2) (rdr_C (hR _ _ (by repeat constructor)) hB) (by decide)) two_small B.e)) ?_; rintro ⟨A15, c15⟩ -)
  rw [two_called]
  refine oWant rfl rfl ?_
  refine oBuildSliceF (Parts.cons rfl (Parts.cons rfl (Parts.cons rfl (Parts.cons rfl Parts.nil)))) rfl rfl rfl rfl rfl (Fulls.cons (by repeat constructor) rfl (Fulls.cons (by repeat constructor) rfl (Fulls.cons (by repeat constructor) rfl (Fulls.cons (by repeat constructor) rfl Fulls.nil (by repeat (first | exact AppL.nil | apply AppL.cons))) (by repeat (first | exact AppL.nil | apply AppL.cons))) (by repeat (first | exact AppL.nil | apply AppL.cons))) (by repeat (first | exact AppL.nil | apply AppL.cons))) (fun b16 => ?_)
  refine oConv (blk_row (enc := Value.bool) (h1 := fun _ => rfl) (W := B.e) (xs := ([true, true, true, false] : List Bool)) (n := 4) (by repeat constructor) rfl rfl (by decide)) ?_
  refine oWant rfl rfl ?_
  (refine oCall rfl (by kernel_rfl) (fun w hS => frame' hS .nil (fun B' hB hR hS' => ref01_Bools hS' [true, true, true, false] A15 c15 (row_Cs (W := B.e) (e := 4) (n := twoP.fFuns.length) (cp := c15) (hR _ _ (by repeat constructor))) (some ⟨b16, 0, none⟩) 4 (row_Cs (W := B.e) (e := 4) (n := 4) (cp := 4) (hR _ _ (by repeat constructor))))) ?_; rintro ⟨⟩ -)
  refine oPickT rfl rfl (oMove rfl (oWant rfl rfl (oLdA rfl (by repeat constructor) rfl (by repeat constructor) ?_)))
  refine oWant rfl rfl ?_
  (refine oCall rfl (by kernel_rfl) (fun w hS => frame' hS .nil (fun B' hB hR hS' => prog_Graph hS' twoP _ (two_K (A := A2) (rdr_C (hR _ _ (by repeat constructor)) hB) (by decide)) two_small B.e)) ?_; rintro ⟨A21, c21, hs21⟩ hl21)
  rw [two_graph]
  refine oWant rfl rfl ?_
  refine oBuildSliceF (Parts.cons rfl (Parts.cons rfl Parts.nil)) rfl rfl rfl rfl rfl (Fulls.cons (by repeat constructor) rfl (Fulls.cons (by repeat constructor) rfl Fulls.nil (by repeat (first | exact AppL.nil | apply AppL.cons))) (by repeat (first | exact AppL.nil | apply AppL.cons))) (fun b22 => ?_)
  refine oWant rfl rfl ?_
  refine oBuildSliceF (Parts.cons rfl (Parts.cons rfl (Parts.cons rfl (Parts.cons rfl Parts.nil)))) rfl rfl rfl rfl rfl (Fulls.cons (by repeat constructor) rfl (Fulls.cons (by repeat constructor) rfl (Fulls.cons (by repeat constructor) rfl (Fulls.cons (by repeat constructor) rfl Fulls.nil (by repeat (first | exact AppL.nil | apply AppL.cons))) (by repeat (first | exact AppL.nil | apply AppL.cons))) (by repeat (first | exact AppL.nil | apply AppL.cons))) (by repeat (first | exact AppL.nil | apply AppL.cons))) (fun b23 => ?_)
  refine oWant rfl rfl ?_
  (refine oCall rfl (by kernel_rfl) (fun w hS => frame' hS .nil (fun B' hB hR hS' => ref10_Same hS' [[1, 2], [], [], []] A21 c21 (grid_C (kd := Kd.int .i64) (W := B.e) (ei := 3) (eo := 42) (W0 := B.e) (n := 4) (cp := c21) (hs := hs21) (A := A21) (xss := [[1, 2], [], [], []]) (hR _ _ (by repeat constructor)) (hR _ _ (by repeat constructor)) hl21 hB) (some ⟨b23, 0, none⟩) 4 (lit_G (b := b23) (A0 := some ⟨b22, 0, none⟩) (n0 := 2) (c0 := 2) (A1 := none) (n1 := 0) (c1 := 0) (A2 := none) (n2 := 0) (c2 := 0) (A3 := none) (n3 := 0) (c3 := 0) (hR _ _ (by repeat constructor)) rfl rfl rfl rfl (by decide) (by decide) (by decide) (by decide) (lit_2 (b := b22) (hR _ _ (by repeat constructor))) (Kd.C_nil _ _ _) (Kd.C_nil _ _ _) (Kd.C_nil _ _ _)))) ?_; rintro ⟨⟩ -)
  refine oPickT rfl rfl (oAssign rfl (oNil (thn_n (wRet (fin_r (fi1 rfl ?_))))))
  exact ⟨(), trivial, rfl, Lh⟩
end Go.Proofs.YtogaiijhicfoaaaGreatU
