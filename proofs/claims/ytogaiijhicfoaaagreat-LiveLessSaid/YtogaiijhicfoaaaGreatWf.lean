import Derived.Test.YtogaiijhicfoaaaGreatWe

/-
  The reference of ranges: In, Check.
-/
namespace Go.Proofs.YtogaiijhicfoaaaGreatW
set_option linter.unusedVariables false
set_option linter.unusedSimpArgs false
open Go.RowKit Go.Proofs.YtogaiijhicfoaaaGreatK Go.Proofs.YtogaiijhicfoaaaGreatT Go.Proofs.YtogaiijhicfoaaaGreatL Go.Proofs.YtogaiijhicfoaaaGreatV Go.Proofs.YtogaiijhicfoaaaGreatG

def inR (f : ApiFunc) (i : Int) : Bool := decide (f.fFrom ≤ i) && decide (i < f.fTo)
set_option maxRecDepth 100000 in
theorem ref18_In {B : Base} {w : World} (hS : St B [] w) (f : ApiFunc) (fc : List Value) (hf : kApiFunc.K B.e f fc) (i : Int) :
    CallsIn Fence.wide 0 Tryz.prog 219 #[.agg fc.toArray, .int .i64 i] w (Ret B (fun _ : Unit => True) (fun _ => .bool (inR f i)) (fun _ => [])) := by
  obtain ⟨A0, c0, A1, c1, A2, c2, A3, c3, rfl, l0, g0, l1, g1, l2, g2, l3, g3⟩ := kApiFunc_open hf
  (refine enter Tryz.func219 rfl rfl hS ?_; simp only [List.zipIdx_cons, List.zipIdx_nil, List.map_cons, List.map_nil, Nat.reduceAdd, Nat.zero_add])
  refine wSeq (wRegion' (oBox rfl (by repeat constructor) (fun b2 => ?_)))
  refine oAssign rfl (oNil (thn_n (wSeq (wRegion' (oMove rfl (oFld (n := 4) (m := 4) rfl rfl rfl (oLd rfl (by repeat constructor) rfl rfl ?_)))))))
  refine oGeq rfl rfl (oMove rfl ?_)
  first | refine oSplit (t := 9) rfl (fun h9 => ?_) (fun h9 => ?_) | refine oSplitB (t := 9) rfl (fun h9 => ?_) (fun h9 => ?_)
  ·
   refine oWant rfl rfl (oMove rfl (oWant rfl rfl (oFld (n := 5) (m := 5) rfl rfl rfl (oWant rfl rfl (oLd rfl (by repeat constructor) rfl rfl ?_)))))
   refine oWant rfl rfl (oLss rfl rfl (oPickT rfl rfl (oAssign rfl (oNil (thn_n (wRet (fin_r (fi1 rfl ?_))))))))
   exact ⟨(), trivial, by simp_all [resVal, inR] <;> omega, Lh⟩
  refine oSkip rfl rfl rfl rfl (oSkip rfl rfl rfl rfl (oSkip rfl rfl rfl rfl (oSkip rfl rfl rfl rfl (oPickF rfl rfl (oAssign rfl (oNil (thn_n (wRet (fin_r (fi1 rfl ?_))))))))))
  exact ⟨(), trivial, by simp_all [resVal, inR] <;> omega, Lh⟩
def outR (f : ApiFunc) : Prop := ∃ i : Nat, i < f.fCode.length ∧ RP (rg f.fCode) (fromL f.fCode (dfrN f.fCode)) (i : Int) ∧ inR f (i : Int) = false
open Classical in
noncomputable def rangeF (f : ApiFunc) : Int := if outR f then 9 else 0
set_option maxRecDepth 100000 in
set_option maxHeartbeats 1000000 in
theorem ref18_Check {B : Base} {w : World} (hS : St B [] w) (f : ApiFunc) (fc : List Value) (hf : kApiFunc.K B.e f fc) (hl : f.fCode.length ≤ 1000) :
    CallsIn Fence.wide 0 Tryz.prog 188 #[.agg fc.toArray] w (Ret B (fun _ : Unit => True) (fun _ => .int .i64 (rangeF f)) (fun _ => [])) := by
  obtain ⟨A0, c0, A1, c1, A2, c2, A3, c3, rfl, l0, g0, l1, g1, l2, g2, l3, g3⟩ := kApiFunc_open hf
  have hdl : (dfrN f.fCode).length ≤ 1000 := Nat.le_trans (List.length_filter_le _ _) (by simpa using hl)
  (refine enter Tryz.func188 rfl rfl hS ?_; simp only [List.zipIdx_cons, List.zipIdx_nil, List.map_cons, List.map_nil, Nat.reduceAdd, Nat.zero_add])
  refine wSeq (wRegion' (oBox rfl (by repeat constructor) (fun b1 => ?_)))
  refine oAssign rfl (oNil (thn_n (wSeq (wDrawG rfl [0, 1, 2, 3] [(4, [0, 1], []), (5, [], [])] [6] 24 (by kernel_rfl) rfl rfl (fun w0 => ?_)))))
  refine oFld (n := 7) (m := 7) rfl rfl rfl (oLd rfl (by repeat constructor) rfl rfl ?_)
  refine oFld (n := 7) (m := 7) rfl rfl rfl (oLd rfl (by repeat constructor) rfl rfl ?_)
  refine oLkSegG (oSegG rfl ?_)
  (refine oCall rfl (by kernel_rfl) (fun w hS => frame hS (by repeat' constructor) (fun B' hB hS' => ref18_Marks hS' A2 c2 f.fCode (Kd.C_grow hB g2) (by omega) B.e)) ?_; rintro ⟨A9, c9⟩ -)
  refine oSet (t := 9) (v' := .slice A9 (dfrN f.fCode).length c9) rfl (by rw [dfr_N, List.length_map]) ?_
  refine oAgainG ?_ rfl (fun w0 => ?_)
  ·
   refine AgainG.cons rfl rfl rfl rfl (fun w0 => ?_) ?_
   ·
    refine oFld (n := 7) (m := 7) rfl rfl rfl ?_
    exact oLkHas rfl
   refine AgainG.cons rfl rfl rfl rfl (fun w0 => ?_) ?_
   ·
    refine oLd rfl (by repeat constructor) rfl rfl ?_
    exact oLkHas rfl
   exact AgainG.nil
  refine oLkSegG (oSegG rfl ?_)
  (refine oCall rfl (by kernel_rfl) (fun w hS => frame' hS .nil (fun B' hB hR hS' => ref14_After hS' A2 c2 f.fCode (Kd.C_grow hB g2) hl A9 c9 (dfrN f.fCode) (row_Cs (W := B.e) (e := 3) (n := (dfr f.fCode f.fCode.length).length) (cp := c9) (hR _ _ (by repeat constructor))) (fun k hk => dfrN_lt hk) hdl B.e)) ?_; rintro ⟨A10, c10, l10⟩ ⟨h10a, h10b⟩)
  dsimp only at h10a h10b
  refine oAgainG ?_ rfl (fun w0 => ?_)
  ·
   exact AgainG.nil
  refine oTailG (oAssign rfl (oNil (thn_n (wSeq (wSeq (wRegion' (oAssign rfl (oNil (thn_n (wBlock (wLoop (ι := Nat) (fun i => [(1, .pointer (some ⟨b1, 0, none⟩)), (3, .slice A10 f.fCode.length c10), (4, .int .i64 (i : Int))]) (fun i => [blk b1 47 [.int .i64 f.fClass, .slice A0 f.fKinds.length c0, .int .i64 f.fPad, .bool f.fNosplit, .int .i64 f.fFrom, .int .i64 f.fTo, .slice A1 f.fLines.length c1, .slice A2 f.fCode.length c2, .slice A3 f.fRelocs.length c3], row Kd.bool B.e 4 (.slice A10 f.fCode.length c10) l10]) (fun i => i ≤ f.fCode.length ∧ ∀ j : Nat, j < i → RP (rg f.fCode) (fromL f.fCode (dfrN f.fCode)) (j : Int) → inR f (j : Int) = true) (fun i => f.fCode.length - i) 0 ?_ cv Lh ?_)))))))))))
  ·
   exact ⟨Nat.zero_le _, fun j hj => by omega⟩
  rintro i ⟨hi, hs⟩
  try dsimp only
  refine wSeq (wSeq (wRegion' (oMove rfl (oMove rfl (oLenS rfl rfl (oLss rfl rfl (oNil (thn_n (wC (fun h14 => ?_) (fun h14 => ?_))))))))))
  ·
   refine wSkip (thn_n (wSeq (wBlock (wSeq (wRegion' (oMove rfl (oMove rfl (oIdxR rfl rfl (by repeat constructor) (by omega) rfl rfl (fun g19 hg19 => ?_)))))))))
   first | subst hg19 | (injection hg19 with hg19; injection hg19 with hg19; subst hg19)
   first | refine oLdX rfl hc19 rfl rfl ?_ | refine oLdXA rfl hc19 rfl (by repeat constructor) ?_ | (refine oLdR1 rfl (by repeat constructor) (by omega) rfl (fun u20 hu20 => ?_))
   refine oMove rfl ?_
   first | refine oSplit (t := 21) rfl (fun h21 => ?_) (fun h21 => ?_) | refine oSplitB (t := 21) rfl (fun h21 => ?_) (fun h21 => ?_)
   ·
    refine oWant rfl rfl (oLdA rfl (by repeat constructor) rfl (by repeat constructor) ?_)
    refine oWant rfl rfl (oMove rfl (oWant rfl rfl ?_))
    (refine oCall rfl (by kernel_rfl) (fun w hS => frame hS (by repeat' constructor) (fun B' hB hS' => ref18_In hS' f _ (kApiFunc.K_grow hB hf) (i : Int))) ?_; rintro ⟨⟩ -)
    refine oWant rfl rfl ?_
    first | refine oNot rfl ?_ | refine oNotB rfl ?_
    refine oPickT rfl rfl (oNil (thn_n (wC (fun h26 => ?_) (fun h26 => ?_))))
    ·
     refine wSeq (wRegion' (oAssign rfl (oNil (thn_n (wRet (blk_r (thn_r (thn_r (blk_r (thn_r (fin_r ?_)))))))))))
     refine fi1 rfl ?_
     have ho : outR f := ⟨i, by omega, (h10b i).1 (by rw [hu20]; simp_all), by simp_all⟩
     exact ⟨(), trivial, by unfold rangeF; rw [if_pos ho]; rfl, Lh⟩
    refine wSkip (blk_n (thn_n (wRegion' (oMove rfl (oSucc rfl rfl (by omega) ?_)))))
    refine oAssign rfl (oNil (thn_n ?_))
    exact ⟨rfl, i + 1, ⟨by omega, fun j hj hr => by
    by_cases e : j = i
    · subst e; simp_all
    · exact hs j (by omega) hr⟩, by omega, cv, Lh⟩
   refine oSkip rfl rfl rfl rfl (oSkip rfl rfl rfl rfl (oSkip rfl rfl rfl rfl (oSkip rfl rfl rfl rfl (oPickF rfl rfl (oNil (thn_n ?_))))))
   first | refine wCondF rfl ?_ | refine wCondFd h26 rfl ?_ | refine wCondFb h26 rfl ?_
   refine wSkip (blk_n (thn_n (wRegion' (oMove rfl (oSucc rfl rfl (by omega) ?_)))))
   refine oAssign rfl (oNil (thn_n ?_))
   exact ⟨rfl, i + 1, ⟨by omega, fun j hj hr => by
   by_cases e : j = i
   · subst e; have := (h10b j).2 hr; rw [hu20] at this; simp_all
   · exact hs j (by omega) hr⟩, by omega, cv, Lh⟩
  refine wExit (thn_x (thn_x (blk_x (thn_n (wSeq (wRegion' (oAssign rfl (oNil (thn_n (wRet (fin_r ?_)))))))))))
  refine fi1 rfl ?_
  have ho : ¬ outR f := fun ⟨j, hj, hr, hb⟩ => by rw [hs j (by omega) hr] at hb; cases hb
  exact ⟨(), trivial, by unfold rangeF; rw [if_neg ho]; rfl, Lh⟩
end Go.Proofs.YtogaiijhicfoaaaGreatW
