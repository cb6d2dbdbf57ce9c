import Derived.Test.YtogaiijhicfoaaaGreatUk

/-
  What is called: program and reference; the reference's call graph.
-/
namespace Go.Proofs.YtogaiijhicfoaaaGreatU
set_option linter.unusedVariables false
set_option linter.unusedSimpArgs false
open Go.RowKit Go.Proofs.YtogaiijhicfoaaaGreatK Go.Proofs.YtogaiijhicfoaaaGreatT Go.Proofs.YtogaiijhicfoaaaGreatL Go.Proofs.YtogaiijhicfoaaaGreatV Go.Proofs.YtogaiijhicfoaaaGreatG

noncomputable def calledL (p : ApiProgram) : List Bool := reachB (graphF p) [p.fEntry]
theorem calledL_len (p : ApiProgram) : (calledL p).length = p.fFuns.length := by unfold calledL; rw [reachB_len, graphF_len]
set_option maxRecDepth 100000 in
set_option maxHeartbeats 1000000 in
theorem prog_Called {B : Base} {w : World} (hS : St B [] w) (p : ApiProgram) (pc : List Value) (hp : kApiProgram.K B.e p pc) (hsm : SmallP p) (W0 : World) :
    CallsIn Fence.wide 0 Tryz.prog 33 #[.agg pc.toArray] w (Ret B (fun _ : Option Addr × Nat => True) (fun z => .slice z.1 p.fFuns.length z.2) (fun z => [row Kd.bool W0 4 (.slice z.1 p.fFuns.length z.2) (calledL p)])) := by
  obtain ⟨A0, c0, A1, c1, rfl, l0, g0, l1, g1⟩ := kApiProgram_open hp
  have hgl : (graphF p).length = p.fFuns.length := graphF_len p
  (refine enter Tryz.func33 rfl rfl hS ?_; simp only [List.zipIdx_cons, List.zipIdx_nil, List.map_cons, List.map_nil, Nat.reduceAdd, Nat.zero_add])
  refine wSeq (wRegion' (oBox rfl (by repeat constructor) (fun b1 => ?_)))
  refine oAssign rfl (oNil (thn_n (wSeq (wDrawN rfl rfl (anMk (i := 0) (rs := [2]) (by kernel_rfl) ?_)))))
  refine AllN.cons rfl ?_ ?_
  ·
   refine oLdA rfl (by repeat constructor) rfl (by repeat constructor) ?_
   refine oStepEnd (anMk (i := 1) (rs := [2]) (by kernel_rfl) ?_)
   refine AllN.cons rfl ?_ ?_
   ·
    (refine oCall rfl (by kernel_rfl) (fun w hS => frame hS (by repeat' constructor) (fun B' hB hS' => prog_Graph hS' p _ (kApiProgram.K_grow hB hp) hsm B.e)) ?_; rintro ⟨A4, c4, hs4⟩ hl4)
    refine oSet (t := 4) (v' := .slice A4 (graphF p).length c4) rfl (by rw [hgl]) ?_
    refine oStepEnd (anMk (i := 2) (rs := []) (by kernel_rfl) ?_)
    refine AllN.cons rfl ?_ ?_
    ·
     refine oFld (n := 2) (m := 2) rfl rfl rfl (oStepEnd (anMk (i := 3) (rs := []) (by kernel_rfl) ?_))
     refine AllN.cons rfl ?_ ?_
     ·
      refine oLd rfl (by repeat constructor) rfl rfl ?_
      refine oStepEnd (anMk (i := 4) (rs := []) (by kernel_rfl) ?_)
      refine AllN.cons rfl ?_ ?_
      ·
       refine oBuildSlice1 rfl rfl rfl rfl rfl (by repeat constructor) rfl (fun b7 => ?_)
       refine oConv (blk_row (enc := Value.int .i64) (h1 := fun _ => rfl) (W := B.e) (xs := ([p.fEntry] : List Int)) (n := 1) (by repeat constructor) rfl rfl (by decide)) ?_
       refine oStepEnd (anMk (i := 5) (rs := []) (by kernel_rfl) ?_)
       refine AllN.cons rfl ?_ ?_
       ·
        (refine oCall rfl (by kernel_rfl) (fun w hS => frame' hS .nil (fun B' hB hR hS' => reach_any hS' (graphF p) A4 c4 (grid_C (kd := Kd.int .i64) (W := B.e) (ei := 3) (eo := 42) (W0 := B.e) (n := p.fFuns.length) (cp := c4) (hs := hs4) (A := A4) (xss := graphF p) (hR _ _ (by repeat constructor)) (hR _ _ (by repeat constructor)) (by rw [hl4, hgl]) hB) (grG_small hsm) [p.fEntry] (some ⟨b7, 0, none⟩) 1 (row_Cs (W := B.e) (e := 3) (n := 1) (cp := 1) (hR _ _ (by repeat constructor))) (by simp) W0)) ?_; rintro ⟨A8, c8, l8⟩ ⟨hl8, hr8⟩)
        obtain rfl := reach_uniq hl8 hr8
        rw [hgl]
        refine oStepEnd (anMk (i := 6) (rs := []) (by kernel_rfl) ?_)
        refine AllN.cons rfl ?_ ?_
        ·
         refine oAssign rfl (oStepEnd (anNil (by kernel_rfl) ?_))
         refine thn_n (wRet (fin_r (fi1 rfl ?_)))
         exact ⟨(A8, c8), trivial, rfl, Lh⟩
        exact AllN.nil
       exact AllN.nil
      exact AllN.nil
     exact AllN.nil
    exact AllN.nil
   refine AllN.cons rfl ?_ ?_
   ·
    refine oFld (n := 2) (m := 2) rfl rfl rfl (oStepEnd (anMk (i := 1) (rs := [3]) (by kernel_rfl) ?_))
    refine AllN.cons rfl ?_ ?_
    ·
     (refine oCall rfl (by kernel_rfl) (fun w hS => frame hS (by repeat' constructor) (fun B' hB hS' => prog_Graph hS' p _ (kApiProgram.K_grow hB hp) hsm B.e)) ?_; rintro ⟨A4, c4, hs4⟩ hl4)
     refine oSet (t := 4) (v' := .slice A4 (graphF p).length c4) rfl (by rw [hgl]) ?_
     refine oStepEnd (anMk (i := 3) (rs := []) (by kernel_rfl) ?_)
     refine AllN.cons rfl ?_ ?_
     ·
      refine oLd rfl (by repeat constructor) rfl rfl ?_
      refine oStepEnd (anMk (i := 4) (rs := []) (by kernel_rfl) ?_)
      refine AllN.cons rfl ?_ ?_
      ·
       refine oBuildSlice1 rfl rfl rfl rfl rfl (by repeat constructor) rfl (fun b7 => ?_)
       refine oConv (blk_row (enc := Value.int .i64) (h1 := fun _ => rfl) (W := B.e) (xs := ([p.fEntry] : List Int)) (n := 1) (by repeat constructor) rfl rfl (by decide)) ?_
       refine oStepEnd (anMk (i := 5) (rs := []) (by kernel_rfl) ?_)
       refine AllN.cons rfl ?_ ?_
       ·
        (refine oCall rfl (by kernel_rfl) (fun w hS => frame' hS .nil (fun B' hB hR hS' => reach_any hS' (graphF p) A4 c4 (grid_C (kd := Kd.int .i64) (W := B.e) (ei := 3) (eo := 42) (W0 := B.e) (n := p.fFuns.length) (cp := c4) (hs := hs4) (A := A4) (xss := graphF p) (hR _ _ (by repeat constructor)) (hR _ _ (by repeat constructor)) (by rw [hl4, hgl]) hB) (grG_small hsm) [p.fEntry] (some ⟨b7, 0, none⟩) 1 (row_Cs (W := B.e) (e := 3) (n := 1) (cp := 1) (hR _ _ (by repeat constructor))) (by simp) W0)) ?_; rintro ⟨A8, c8, l8⟩ ⟨hl8, hr8⟩)
        obtain rfl := reach_uniq hl8 hr8
        rw [hgl]
        refine oStepEnd (anMk (i := 6) (rs := []) (by kernel_rfl) ?_)
        refine AllN.cons rfl ?_ ?_
        ·
         refine oAssign rfl (oStepEnd (anNil (by kernel_rfl) ?_))
         refine thn_n (wRet (fin_r (fi1 rfl ?_)))
         exact ⟨(A8, c8), trivial, rfl, Lh⟩
        exact AllN.nil
       exact AllN.nil
      exact AllN.nil
     exact AllN.nil
    refine AllN.cons rfl ?_ ?_
    ·
     refine oLd rfl (by repeat constructor) rfl rfl ?_
     refine oStepEnd (anMk (i := 1) (rs := [4]) (by kernel_rfl) ?_)
     refine AllN.cons rfl ?_ ?_
     ·
      (refine oCall rfl (by kernel_rfl) (fun w hS => frame hS (by repeat' constructor) (fun B' hB hS' => prog_Graph hS' p _ (kApiProgram.K_grow hB hp) hsm B.e)) ?_; rintro ⟨A4, c4, hs4⟩ hl4)
      refine oSet (t := 4) (v' := .slice A4 (graphF p).length c4) rfl (by rw [hgl]) ?_
      refine oStepEnd (anMk (i := 4) (rs := []) (by kernel_rfl) ?_)
      refine AllN.cons rfl ?_ ?_
      ·
       refine oBuildSlice1 rfl rfl rfl rfl rfl (by repeat constructor) rfl (fun b7 => ?_)
       refine oConv (blk_row (enc := Value.int .i64) (h1 := fun _ => rfl) (W := B.e) (xs := ([p.fEntry] : List Int)) (n := 1) (by repeat constructor) rfl rfl (by decide)) ?_
       refine oStepEnd (anMk (i := 5) (rs := []) (by kernel_rfl) ?_)
       refine AllN.cons rfl ?_ ?_
       ·
        (refine oCall rfl (by kernel_rfl) (fun w hS => frame' hS .nil (fun B' hB hR hS' => reach_any hS' (graphF p) A4 c4 (grid_C (kd := Kd.int .i64) (W := B.e) (ei := 3) (eo := 42) (W0 := B.e) (n := p.fFuns.length) (cp := c4) (hs := hs4) (A := A4) (xss := graphF p) (hR _ _ (by repeat constructor)) (hR _ _ (by repeat constructor)) (by rw [hl4, hgl]) hB) (grG_small hsm) [p.fEntry] (some ⟨b7, 0, none⟩) 1 (row_Cs (W := B.e) (e := 3) (n := 1) (cp := 1) (hR _ _ (by repeat constructor))) (by simp) W0)) ?_; rintro ⟨A8, c8, l8⟩ ⟨hl8, hr8⟩)
        obtain rfl := reach_uniq hl8 hr8
        rw [hgl]
        refine oStepEnd (anMk (i := 6) (rs := []) (by kernel_rfl) ?_)
        refine AllN.cons rfl ?_ ?_
        ·
         refine oAssign rfl (oStepEnd (anNil (by kernel_rfl) ?_))
         refine thn_n (wRet (fin_r (fi1 rfl ?_)))
         exact ⟨(A8, c8), trivial, rfl, Lh⟩
        exact AllN.nil
       exact AllN.nil
      exact AllN.nil
     refine AllN.cons rfl ?_ ?_
     ·
      refine oBuildSlice1 rfl rfl rfl rfl rfl (by repeat constructor) rfl (fun b7 => ?_)
      refine oConv (blk_row (enc := Value.int .i64) (h1 := fun _ => rfl) (W := B.e) (xs := ([p.fEntry] : List Int)) (n := 1) (by repeat constructor) rfl rfl (by decide)) ?_
      refine oStepEnd (anMk (i := 1) (rs := []) (by kernel_rfl) ?_)
      refine AllN.cons rfl ?_ ?_
      ·
       (refine oCall rfl (by kernel_rfl) (fun w hS => frame hS (by repeat' constructor) (fun B' hB hS' => prog_Graph hS' p _ (kApiProgram.K_grow hB hp) hsm B.e)) ?_; rintro ⟨A4, c4, hs4⟩ hl4)
       refine oSet (t := 4) (v' := .slice A4 (graphF p).length c4) rfl (by rw [hgl]) ?_
       refine oStepEnd (anMk (i := 5) (rs := []) (by kernel_rfl) ?_)
       refine AllN.cons rfl ?_ ?_
       ·
        (refine oCall rfl (by kernel_rfl) (fun w hS => frame' hS .nil (fun B' hB hR hS' => reach_any hS' (graphF p) A4 c4 (grid_C (kd := Kd.int .i64) (W := B.e) (ei := 3) (eo := 42) (W0 := B.e) (n := p.fFuns.length) (cp := c4) (hs := hs4) (A := A4) (xss := graphF p) (hR _ _ (by repeat constructor)) (hR _ _ (by repeat constructor)) (by rw [hl4, hgl]) hB) (grG_small hsm) [p.fEntry] (some ⟨b7, 0, none⟩) 1 (row_Cs (W := B.e) (e := 3) (n := 1) (cp := 1) (hR _ _ (by repeat constructor))) (by simp) W0)) ?_; rintro ⟨A8, c8, l8⟩ ⟨hl8, hr8⟩)
        obtain rfl := reach_uniq hl8 hr8
        rw [hgl]
        refine oStepEnd (anMk (i := 6) (rs := []) (by kernel_rfl) ?_)
        refine AllN.cons rfl ?_ ?_
        ·
         refine oAssign rfl (oStepEnd (anNil (by kernel_rfl) ?_))
         refine thn_n (wRet (fin_r (fi1 rfl ?_)))
         exact ⟨(A8, c8), trivial, rfl, Lh⟩
        exact AllN.nil
       exact AllN.nil
      exact AllN.nil
     exact AllN.nil
    exact AllN.nil
   exact AllN.nil
  refine AllN.cons rfl ?_ ?_
  ·
   refine oFld (n := 2) (m := 2) rfl rfl rfl (oStepEnd (anMk (i := 0) (rs := [3]) (by kernel_rfl) ?_))
   refine AllN.cons rfl ?_ ?_
   ·
    refine oLdA rfl (by repeat constructor) rfl (by repeat constructor) ?_
    refine oStepEnd (anMk (i := 1) (rs := [3]) (by kernel_rfl) ?_)
    refine AllN.cons rfl ?_ ?_
    ·
     (refine oCall rfl (by kernel_rfl) (fun w hS => frame hS (by repeat' constructor) (fun B' hB hS' => prog_Graph hS' p _ (kApiProgram.K_grow hB hp) hsm B.e)) ?_; rintro ⟨A4, c4, hs4⟩ hl4)
     refine oSet (t := 4) (v' := .slice A4 (graphF p).length c4) rfl (by rw [hgl]) ?_
     refine oStepEnd (anMk (i := 3) (rs := []) (by kernel_rfl) ?_)
     refine AllN.cons rfl ?_ ?_
     ·
      refine oLd rfl (by repeat constructor) rfl rfl ?_
      refine oStepEnd (anMk (i := 4) (rs := []) (by kernel_rfl) ?_)
      refine AllN.cons rfl ?_ ?_
      ·
       refine oBuildSlice1 rfl rfl rfl rfl rfl (by repeat constructor) rfl (fun b7 => ?_)
       refine oConv (blk_row (enc := Value.int .i64) (h1 := fun _ => rfl) (W := B.e) (xs := ([p.fEntry] : List Int)) (n := 1) (by repeat constructor) rfl rfl (by decide)) ?_
       refine oStepEnd (anMk (i := 5) (rs := []) (by kernel_rfl) ?_)
       refine AllN.cons rfl ?_ ?_
       ·
        (refine oCall rfl (by kernel_rfl) (fun w hS => frame' hS .nil (fun B' hB hR hS' => reach_any hS' (graphF p) A4 c4 (grid_C (kd := Kd.int .i64) (W := B.e) (ei := 3) (eo := 42) (W0 := B.e) (n := p.fFuns.length) (cp := c4) (hs := hs4) (A := A4) (xss := graphF p) (hR _ _ (by repeat constructor)) (hR _ _ (by repeat constructor)) (by rw [hl4, hgl]) hB) (grG_small hsm) [p.fEntry] (some ⟨b7, 0, none⟩) 1 (row_Cs (W := B.e) (e := 3) (n := 1) (cp := 1) (hR _ _ (by repeat constructor))) (by simp) W0)) ?_; rintro ⟨A8, c8, l8⟩ ⟨hl8, hr8⟩)
        obtain rfl := reach_uniq hl8 hr8
        rw [hgl]
        refine oStepEnd (anMk (i := 6) (rs := []) (by kernel_rfl) ?_)
        refine AllN.cons rfl ?_ ?_
        ·
         refine oAssign rfl (oStepEnd (anNil (by kernel_rfl) ?_))
         refine thn_n (wRet (fin_r (fi1 rfl ?_)))
         exact ⟨(A8, c8), trivial, rfl, Lh⟩
        exact AllN.nil
       exact AllN.nil
      exact AllN.nil
     exact AllN.nil
    refine AllN.cons rfl ?_ ?_
    ·
     refine oLd rfl (by repeat constructor) rfl rfl ?_
     refine oStepEnd (anMk (i := 1) (rs := [4]) (by kernel_rfl) ?_)
     refine AllN.cons rfl ?_ ?_
     ·
      (refine oCall rfl (by kernel_rfl) (fun w hS => frame hS (by repeat' constructor) (fun B' hB hS' => prog_Graph hS' p _ (kApiProgram.K_grow hB hp) hsm B.e)) ?_; rintro ⟨A4, c4, hs4⟩ hl4)
      refine oSet (t := 4) (v' := .slice A4 (graphF p).length c4) rfl (by rw [hgl]) ?_
      refine oStepEnd (anMk (i := 4) (rs := []) (by kernel_rfl) ?_)
      refine AllN.cons rfl ?_ ?_
      ·
       refine oBuildSlice1 rfl rfl rfl rfl rfl (by repeat constructor) rfl (fun b7 => ?_)
       refine oConv (blk_row (enc := Value.int .i64) (h1 := fun _ => rfl) (W := B.e) (xs := ([p.fEntry] : List Int)) (n := 1) (by repeat constructor) rfl rfl (by decide)) ?_
       refine oStepEnd (anMk (i := 5) (rs := []) (by kernel_rfl) ?_)
       refine AllN.cons rfl ?_ ?_
       ·
        (refine oCall rfl (by kernel_rfl) (fun w hS => frame' hS .nil (fun B' hB hR hS' => reach_any hS' (graphF p) A4 c4 (grid_C (kd := Kd.int .i64) (W := B.e) (ei := 3) (eo := 42) (W0 := B.e) (n := p.fFuns.length) (cp := c4) (hs := hs4) (A := A4) (xss := graphF p) (hR _ _ (by repeat constructor)) (hR _ _ (by repeat constructor)) (by rw [hl4, hgl]) hB) (grG_small hsm) [p.fEntry] (some ⟨b7, 0, none⟩) 1 (row_Cs (W := B.e) (e := 3) (n := 1) (cp := 1) (hR _ _ (by repeat constructor))) (by simp) W0)) ?_; rintro ⟨A8, c8, l8⟩ ⟨hl8, hr8⟩)
        obtain rfl := reach_uniq hl8 hr8
        rw [hgl]
        refine oStepEnd (anMk (i := 6) (rs := []) (by kernel_rfl) ?_)
        refine AllN.cons rfl ?_ ?_
        ·
         refine oAssign rfl (oStepEnd (anNil (by kernel_rfl) ?_))
         refine thn_n (wRet (fin_r (fi1 rfl ?_)))
         exact ⟨(A8, c8), trivial, rfl, Lh⟩
        exact AllN.nil
       exact AllN.nil
      exact AllN.nil
     refine AllN.cons rfl ?_ ?_
     ·
      refine oBuildSlice1 rfl rfl rfl rfl rfl (by repeat constructor) rfl (fun b7 => ?_)
      refine oConv (blk_row (enc := Value.int .i64) (h1 := fun _ => rfl) (W := B.e) (xs := ([p.fEntry] : List Int)) (n := 1) (by repeat constructor) rfl rfl (by decide)) ?_
      refine oStepEnd (anMk (i := 1) (rs := []) (by kernel_rfl) ?_)
      refine AllN.cons rfl ?_ ?_
      ·
       (refine oCall rfl (by kernel_rfl) (fun w hS => frame hS (by repeat' constructor) (fun B' hB hS' => prog_Graph hS' p _ (kApiProgram.K_grow hB hp) hsm B.e)) ?_; rintro ⟨A4, c4, hs4⟩ hl4)
       refine oSet (t := 4) (v' := .slice A4 (graphF p).length c4) rfl (by rw [hgl]) ?_
       refine oStepEnd (anMk (i := 5) (rs := []) (by kernel_rfl) ?_)
       refine AllN.cons rfl ?_ ?_
       ·
        (refine oCall rfl (by kernel_rfl) (fun w hS => frame' hS .nil (fun B' hB hR hS' => reach_any hS' (graphF p) A4 c4 (grid_C (kd := Kd.int .i64) (W := B.e) (ei := 3) (eo := 42) (W0 := B.e) (n := p.fFuns.length) (cp := c4) (hs := hs4) (A := A4) (xss := graphF p) (hR _ _ (by repeat constructor)) (hR _ _ (by repeat constructor)) (by rw [hl4, hgl]) hB) (grG_small hsm) [p.fEntry] (some ⟨b7, 0, none⟩) 1 (row_Cs (W := B.e) (e := 3) (n := 1) (cp := 1) (hR _ _ (by repeat constructor))) (by simp) W0)) ?_; rintro ⟨A8, c8, l8⟩ ⟨hl8, hr8⟩)
        obtain rfl := reach_uniq hl8 hr8
        rw [hgl]
        refine oStepEnd (anMk (i := 6) (rs := []) (by kernel_rfl) ?_)
        refine AllN.cons rfl ?_ ?_
        ·
         refine oAssign rfl (oStepEnd (anNil (by kernel_rfl) ?_))
         refine thn_n (wRet (fin_r (fi1 rfl ?_)))
         exact ⟨(A8, c8), trivial, rfl, Lh⟩
        exact AllN.nil
       exact AllN.nil
      exact AllN.nil
     exact AllN.nil
    exact AllN.nil
   refine AllN.cons rfl ?_ ?_
   ·
    refine oLd rfl (by repeat constructor) rfl rfl ?_
    refine oStepEnd (anMk (i := 0) (rs := [4]) (by kernel_rfl) ?_)
    refine AllN.cons rfl ?_ ?_
    ·
     refine oLdA rfl (by repeat constructor) rfl (by repeat constructor) ?_
     refine oStepEnd (anMk (i := 1) (rs := [4]) (by kernel_rfl) ?_)
     refine AllN.cons rfl ?_ ?_
     ·
      (refine oCall rfl (by kernel_rfl) (fun w hS => frame hS (by repeat' constructor) (fun B' hB hS' => prog_Graph hS' p _ (kApiProgram.K_grow hB hp) hsm B.e)) ?_; rintro ⟨A4, c4, hs4⟩ hl4)
      refine oSet (t := 4) (v' := .slice A4 (graphF p).length c4) rfl (by rw [hgl]) ?_
      refine oStepEnd (anMk (i := 4) (rs := []) (by kernel_rfl) ?_)
      refine AllN.cons rfl ?_ ?_
      ·
       refine oBuildSlice1 rfl rfl rfl rfl rfl (by repeat constructor) rfl (fun b7 => ?_)
       refine oConv (blk_row (enc := Value.int .i64) (h1 := fun _ => rfl) (W := B.e) (xs := ([p.fEntry] : List Int)) (n := 1) (by repeat constructor) rfl rfl (by decide)) ?_
       refine oStepEnd (anMk (i := 5) (rs := []) (by kernel_rfl) ?_)
       refine AllN.cons rfl ?_ ?_
       ·
        (refine oCall rfl (by kernel_rfl) (fun w hS => frame' hS .nil (fun B' hB hR hS' => reach_any hS' (graphF p) A4 c4 (grid_C (kd := Kd.int .i64) (W := B.e) (ei := 3) (eo := 42) (W0 := B.e) (n := p.fFuns.length) (cp := c4) (hs := hs4) (A := A4) (xss := graphF p) (hR _ _ (by repeat constructor)) (hR _ _ (by repeat constructor)) (by rw [hl4, hgl]) hB) (grG_small hsm) [p.fEntry] (some ⟨b7, 0, none⟩) 1 (row_Cs (W := B.e) (e := 3) (n := 1) (cp := 1) (hR _ _ (by repeat constructor))) (by simp) W0)) ?_; rintro ⟨A8, c8, l8⟩ ⟨hl8, hr8⟩)
        obtain rfl := reach_uniq hl8 hr8
        rw [hgl]
        refine oStepEnd (anMk (i := 6) (rs := []) (by kernel_rfl) ?_)
        refine AllN.cons rfl ?_ ?_
        ·
         refine oAssign rfl (oStepEnd (anNil (by kernel_rfl) ?_))
         refine thn_n (wRet (fin_r (fi1 rfl ?_)))
         exact ⟨(A8, c8), trivial, rfl, Lh⟩
        exact AllN.nil
       exact AllN.nil
      exact AllN.nil
     refine AllN.cons rfl ?_ ?_
     ·
      refine oBuildSlice1 rfl rfl rfl rfl rfl (by repeat constructor) rfl (fun b7 => ?_)
      refine oConv (blk_row (enc := Value.int .i64) (h1 := fun _ => rfl) (W := B.e) (xs := ([p.fEntry] : List Int)) (n := 1) (by repeat constructor) rfl rfl (by decide)) ?_
      refine oStepEnd (anMk (i := 1) (rs := []) (by kernel_rfl) ?_)
      refine AllN.cons rfl ?_ ?_
      ·
       (refine oCall rfl (by kernel_rfl) (fun w hS => frame hS (by repeat' constructor) (fun B' hB hS' => prog_Graph hS' p _ (kApiProgram.K_grow hB hp) hsm B.e)) ?_; rintro ⟨A4, c4, hs4⟩ hl4)
       refine oSet (t := 4) (v' := .slice A4 (graphF p).length c4) rfl (by rw [hgl]) ?_
       refine oStepEnd (anMk (i := 5) (rs := []) (by kernel_rfl) ?_)
       refine AllN.cons rfl ?_ ?_
       ·
        (refine oCall rfl (by kernel_rfl) (fun w hS => frame' hS .nil (fun B' hB hR hS' => reach_any hS' (graphF p) A4 c4 (grid_C (kd := Kd.int .i64) (W := B.e) (ei := 3) (eo := 42) (W0 := B.e) (n := p.fFuns.length) (cp := c4) (hs := hs4) (A := A4) (xss := graphF p) (hR _ _ (by repeat constructor)) (hR _ _ (by repeat constructor)) (by rw [hl4, hgl]) hB) (grG_small hsm) [p.fEntry] (some ⟨b7, 0, none⟩) 1 (row_Cs (W := B.e) (e := 3) (n := 1) (cp := 1) (hR _ _ (by repeat constructor))) (by simp) W0)) ?_; rintro ⟨A8, c8, l8⟩ ⟨hl8, hr8⟩)
        obtain rfl := reach_uniq hl8 hr8
        rw [hgl]
        refine oStepEnd (anMk (i := 6) (rs := []) (by kernel_rfl) ?_)
        refine AllN.cons rfl ?_ ?_
        ·
         refine oAssign rfl (oStepEnd (anNil (by kernel_rfl) ?_))
         refine thn_n (wRet (fin_r (fi1 rfl ?_)))
         exact ⟨(A8, c8), trivial, rfl, Lh⟩
        exact AllN.nil
       exact AllN.nil
      exact AllN.nil
     exact AllN.nil
    refine AllN.cons rfl ?_ ?_
    ·
     refine oBuildSlice1 rfl rfl rfl rfl rfl (by repeat constructor) rfl (fun b7 => ?_)
     refine oConv (blk_row (enc := Value.int .i64) (h1 := fun _ => rfl) (W := B.e) (xs := ([p.fEntry] : List Int)) (n := 1) (by repeat constructor) rfl rfl (by decide)) ?_
     refine oStepEnd (anMk (i := 0) (rs := []) (by kernel_rfl) ?_)
     refine AllN.cons rfl ?_ ?_
     ·
      refine oLdA rfl (by repeat constructor) rfl (by repeat constructor) ?_
      refine oStepEnd (anMk (i := 1) (rs := []) (by kernel_rfl) ?_)
      refine AllN.cons rfl ?_ ?_
      ·
       (refine oCall rfl (by kernel_rfl) (fun w hS => frame hS (by repeat' constructor) (fun B' hB hS' => prog_Graph hS' p _ (kApiProgram.K_grow hB hp) hsm B.e)) ?_; rintro ⟨A4, c4, hs4⟩ hl4)
       refine oSet (t := 4) (v' := .slice A4 (graphF p).length c4) rfl (by rw [hgl]) ?_
       refine oStepEnd (anMk (i := 5) (rs := []) (by kernel_rfl) ?_)
       refine AllN.cons rfl ?_ ?_
       ·
        (refine oCall rfl (by kernel_rfl) (fun w hS => frame' hS .nil (fun B' hB hR hS' => reach_any hS' (graphF p) A4 c4 (grid_C (kd := Kd.int .i64) (W := B.e) (ei := 3) (eo := 42) (W0 := B.e) (n := p.fFuns.length) (cp := c4) (hs := hs4) (A := A4) (xss := graphF p) (hR _ _ (by repeat constructor)) (hR _ _ (by repeat constructor)) (by rw [hl4, hgl]) hB) (grG_small hsm) [p.fEntry] (some ⟨b7, 0, none⟩) 1 (row_Cs (W := B.e) (e := 3) (n := 1) (cp := 1) (hR _ _ (by repeat constructor))) (by simp) W0)) ?_; rintro ⟨A8, c8, l8⟩ ⟨hl8, hr8⟩)
        obtain rfl := reach_uniq hl8 hr8
        rw [hgl]
        refine oStepEnd (anMk (i := 6) (rs := []) (by kernel_rfl) ?_)
        refine AllN.cons rfl ?_ ?_
        ·
         refine oAssign rfl (oStepEnd (anNil (by kernel_rfl) ?_))
         refine thn_n (wRet (fin_r (fi1 rfl ?_)))
         exact ⟨(A8, c8), trivial, rfl, Lh⟩
        exact AllN.nil
       exact AllN.nil
      exact AllN.nil
     exact AllN.nil
    exact AllN.nil
   exact AllN.nil
  exact AllN.nil
noncomputable def edgF (p : ApiProgram) (i : Nat) : List Int := if (liveL p).getD i false = true then ris (rowF p i) p.fFuns.length else []
theorem edgF_eq (p : ApiProgram) (i : Nat) : edgF p i = ris (rowF p i) p.fFuns.length := by
  unfold edgF
  split
  · rfl
  · rename_i h
    unfold rowF
    rw [if_neg h]
    simp [ris]
theorem graphF_eq (p : ApiProgram) : graphF p = (List.range p.fFuns.length).map (edgF p) := by
  unfold graphF
  exact List.map_congr_left (fun a _ => (edgF_eq p a).symm)
noncomputable def tkP (p : ApiProgram) (f : ApiFun) (m : Nat) : Bool := (takenL p).getD m false && decide ((p.fFuns.getD m default).fF.fClass ∈ viasF f)
noncomputable def partR (p : ApiProgram) (f : ApiFun) (k : Nat) : List Int := directF p f ++ ((List.range k).filter (tkP p f)).map fun k : Nat => (k : Int)
theorem partR_zero (p : ApiProgram) (f : ApiFun) : partR p f 0 = directF p f := by unfold partR; simp
theorem partR_T {p : ApiProgram} {f : ApiFun} {k : Nat} (h : tkP p f k = true) : partR p f (k + 1) = partR p f k ++ [(k : Int)] := by unfold partR; rw [List.range_succ, List.filter_append, List.map_append, List.append_assoc]; simp [h]
theorem partR_F {p : ApiProgram} {f : ApiFun} {k : Nat} (h : tkP p f k = false) : partR p f (k + 1) = partR p f k := by unfold partR; rw [List.range_succ, List.filter_append, List.map_append]; simp [h]
theorem partR_len (p : ApiProgram) (f : ApiFun) (k : Nat) : (partR p f k).length ≤ p.fFuns.length + k := by
  unfold partR
  rw [List.length_append, List.length_map]
  have h1 : (directF p f).length ≤ p.fFuns.length := ris_len _ _
  have h2 := List.length_filter_le (tkP p f) (List.range k)
  rw [List.length_range] at h2
  omega
theorem tkP_at {p : ApiProgram} {f g : ApiFun} {k : Nat} {u : Bool} (hu : (takenL p)[k]? = some u) (hg : p.fFuns[k]? = some g) : tkP p f k = (u && decide (g.fF.fClass ∈ viasF f)) := by
  unfold tkP
  rw [List.getD_eq_getElem?_getD, hu, List.getD_eq_getElem?_getD, hg]; rfl
theorem ris_same {l l' : List Int} (h : ∀ x, x ∈ l ↔ x ∈ l') (m : Nat) : ris l m = ris l' m := by
  unfold ris
  congr 1
  refine List.filter_congr (fun i _ => ?_)
  exact decide_eq_decide.2 (h i)
theorem part_eq (p : ApiProgram) (f : ApiFun) : ris (partR p f p.fFuns.length) p.fFuns.length = ris (partF p f (viasF f).length) p.fFuns.length := by
  refine ris_same (fun x => ?_) _
  unfold partR partF
  rw [List.take_length, List.mem_append, List.mem_append]
  refine or_congr Iff.rfl ?_
  rw [List.mem_flatten]
  constructor
  · intro h
    obtain ⟨k, hk, rfl⟩ := List.mem_map.1 h
    obtain ⟨h1, h2⟩ := List.mem_filter.1 hk
    unfold tkP at h2
    rw [Bool.and_eq_true, decide_eq_true_eq] at h2
    refine ⟨_, List.mem_map.2 ⟨_, h2.2, rfl⟩, mem_cls.2 ⟨k, rfl, List.mem_range.1 h1, ?_⟩⟩
    unfold clsP
    rw [h2.1]; simp
  · rintro ⟨l, hl, hx⟩
    obtain ⟨c, hc, rfl⟩ := List.mem_map.1 hl
    obtain ⟨k, rfl, hk, h2⟩ := mem_cls.1 hx
    unfold clsP at h2
    rw [Bool.and_eq_true, decide_eq_true_eq] at h2
    refine List.mem_map.2 ⟨k, List.mem_filter.2 ⟨List.mem_range.2 hk, ?_⟩, rfl⟩
    unfold tkP
    rw [h2.1, h2.2]; simpa using hc
set_option maxRecDepth 100000 in
set_option maxHeartbeats 2000000 in
theorem ref26_Edges {B : Base} {w : World} (hS : St B [] w) (p : ApiProgram) (pc : List Value) (hp : kApiProgram.K B.e p pc) (hsm : SmallP p) (i : Nat) (f : ApiFun) (hfi : p.fFuns[i]? = some f) (A1' : Option Addr) (c1' : Nat) (hL : Kd.bool.C B.e A1' (liveL p)) (A2' : Option Addr) (c2' : Nat) (hT : Kd.bool.C B.e A2' (takenL p)) (W0 : World) :
    CallsIn Fence.wide 0 Tryz.prog 94 #[.agg pc.toArray, .slice A1' p.fFuns.length c1', .slice A2' p.fFuns.length c2', .int .i64 (i : Int)] w (Ret B (fun _ : Option Addr × Nat => True) (fun z => .slice z.1 (edgF p i).length z.2) (fun z => [row (Kd.int .i64) W0 3 (.slice z.1 (edgF p i).length z.2) (edgF p i)])) := by
  obtain ⟨A0, c0, A1, c1, rfl, l0, g0, l1, g1⟩ := kApiProgram_open hp
  have hn := hsm.funs
  have hll := liveL_len p
  have htl := takenL_len p
  have hil := (List.getElem?_eq_some_iff.1 hfi).1
  obtain ⟨u, hu⟩ : ∃ u, (liveL p)[i]? = some u := ⟨_, List.getElem?_eq_getElem (by omega)⟩
  obtain ⟨eb, csb, hEb⟩ := hL.elm hu
  obtain rfl := (show csb = [Value.bool u] from hEb.K)
  have hlv : (liveL p).getD i false = u := getD_at hu
  (refine enter Tryz.func94 rfl rfl hS ?_; simp only [List.zipIdx_cons, List.zipIdx_nil, List.map_cons, List.map_nil, Nat.reduceAdd, Nat.zero_add])
  refine wSeq (wRegion' (oBox rfl (by repeat constructor) (fun b4 => ?_)))
  refine oAssign rfl (oNil (thn_n (wSeq (wSeq (wRegion' (oMove rfl (oMove rfl (oIdxE rfl rfl (hEb) (by omega) rfl rfl ?_))))))))
  have hc14 := (hEb).cell
  first | refine oLdX rfl hc14 rfl rfl ?_ | refine oLdXA rfl hc14 rfl (by repeat constructor) ?_ | (refine oLdR1 rfl (by repeat constructor) (by omega) rfl (fun u15 hu15 => ?_))
  first | refine oNot rfl ?_ | refine oNotB rfl ?_
  refine oNil (thn_n (wC (fun h16 => ?_) (fun h16 => ?_)))
  ·
   refine wSeq (wRegion' (oAssign rfl (oNil (thn_n (wRet (thn_r (fin_r (fi1 rfl ?_))))))))
   have hed : edgF p i = [] := by unfold edgF; rw [if_neg (by rw [hlv]; simpa using h16)]
   rw [hed]
   exact ⟨(none, 0), trivial, rfl, Leads.nilrow.trans Lh⟩
  have hed : edgF p i = ris (partR p f p.fFuns.length) p.fFuns.length := by unfold edgF rowF; rw [if_pos (by rw [hlv]; simpa using h16), if_pos (by rw [hlv]; simpa using h16), getD_at hfi, part_eq]
  refine wSkip (thn_n (wSeq (wRegion' (oLdA rfl (by repeat constructor) rfl (by repeat constructor) ?_))))
  refine oMove rfl ?_
  (refine oCall rfl (by kernel_rfl) (fun w hS => frame hS (by repeat' constructor) (fun B' hB hS' => ref25_Direct hS' p _ (kApiProgram.K_grow hB hp) hsm i f hfi B.e)) ?_; rintro ⟨A19, c19⟩ -)
  refine oAssign rfl (oNil (thn_n (wSeq (wRegion' (oLdA rfl (by repeat constructor) rfl (by repeat constructor) ?_)))))
  refine oMove rfl ?_
  (refine oCall rfl (by kernel_rfl) (fun w hS => frame hS (by repeat' constructor) (fun B' hB hS' => ref25_Vias hS' p _ (kApiProgram.K_grow hB hp) hsm i f hfi B.e)) ?_; rintro ⟨A22, c22⟩ -)
  rw [← partR_zero p f]
  refine oAssign rfl (oNil (thn_n (wSeq (wSeq (wRegion' (oAssign rfl (oNil (thn_n (wBlock (wLoop (ι := Nat × Option Addr × Nat) (fun z => [(2, .slice A2' p.fFuns.length c2'), (4, .pointer (some ⟨b4, 0, none⟩)), (9, .slice z.2.1 (partR p f z.1).length z.2.2), (10, .slice A22 (viasF f).length c22), (11, .int .i64 (z.1 : Int))]) (fun z => [blk b4 29 [.slice A0 p.fFuns.length c0, .slice A1 p.fDats.length c1, .int .i64 p.fEntry], row (Kd.int .i64) B.e 3 (.slice z.2.1 (partR p f z.1).length z.2.2) (partR p f z.1), row (Kd.int .i64) B.e 3 (.slice A22 (viasF f).length c22) (viasF f)]) (fun z => z.1 ≤ p.fFuns.length) (fun z => p.fFuns.length - z.1) (0, A19, c19) ?_ cv Lh ?_))))))))))
  ·
   exact Nat.zero_le _
  rintro ⟨k, A9, c9⟩ hk
  dsimp only at hk
  have hpl := partR_len p f k
  try dsimp only
  refine wSeq (wSeq (wRegion' (oMove rfl (oFld (n := 0) (m := 0) rfl rfl rfl (oLd rfl (by repeat constructor) rfl rfl ?_)))))
  refine oLenS rfl rfl (oLss rfl rfl (oNil (thn_n (wC (fun h27 => ?_) (fun h27 => ?_)))))
  ·
   obtain ⟨g, hg⟩ : ∃ g, p.fFuns[k]? = some g := ⟨_, List.getElem?_eq_getElem (by omega)⟩
   have hkl : k < p.fFuns.length := by omega
   obtain ⟨ef, csf, hEf⟩ := g0.elm hg
   obtain ⟨D0, d0, D1, d1, D2, d2, D3, d3, D4, d4, rfl, m0, q0, m1, q1, m2, q2, m3, q3, m4, q4⟩ := kApiFun_open hEf.K
   obtain ⟨v, hv⟩ : ∃ v, (takenL p)[k]? = some v := ⟨_, List.getElem?_eq_getElem (by omega)⟩
   obtain ⟨ec, csc, hEc⟩ := hT.elm hv
   obtain rfl := (show csc = [Value.bool v] from hEc.K)
   have htp := tkP_at (f := f) hv hg
   refine wSkip (thn_n (wSeq (wBlock (wSeq (wRegion' (oMove rfl (oMove rfl (oIdxE rfl rfl (hEc) (by omega) rfl rfl ?_))))))))
   have hc32 := (hEc).cell
   first | refine oLdX rfl hc32 rfl rfl ?_ | refine oLdXA rfl hc32 rfl (by repeat constructor) ?_ | (refine oLdR1 rfl (by repeat constructor) (by omega) rfl (fun u33 hu33 => ?_))
   refine oMove rfl ?_
   first | refine oSplit (t := 34) rfl (fun h34 => ?_) (fun h34 => ?_) | refine oSplitB (t := 34) rfl (fun h34 => ?_) (fun h34 => ?_)
   ·
    refine oWant rfl rfl (oMove rfl (oWant rfl rfl (oFld (n := 0) (m := 0) rfl rfl rfl (oWant rfl rfl (oLd rfl (by repeat constructor) rfl rfl ?_)))))
    refine oWant rfl rfl (oMove rfl (oWant rfl rfl (oIdxE rfl rfl (hEf) (by omega) rfl rfl ?_)))
    have hc39 := (hEf).cell
    refine oWant rfl rfl ?_
    first | refine oFldX (n := 3) (m := 3) rfl rfl rfl ?_ | refine oFldR (n := 3) (m := 3) rfl rfl rfl ?_ | refine oFldD (n := 3) (m := 3) rfl rfl rfl ?_
    refine oWant rfl rfl ?_
    first | refine oFldX (n := 0) (m := 3) rfl rfl rfl ?_ | refine oFldR (n := 0) (m := 3) rfl rfl rfl ?_ | refine oFldD (n := 0) (m := 3) rfl rfl rfl ?_
    refine oWant rfl rfl ?_
    first | refine oLdX rfl hc39 rfl rfl ?_ | refine oLdXA rfl hc39 rfl (by repeat constructor) ?_ | (refine oLdR1 rfl (by repeat constructor) (by omega) rfl (fun u42 hu42 => ?_))
    refine oWant rfl rfl ?_
    (refine oCall rfl (by kernel_rfl) (fun w hS => frame' hS .nil (fun B' hB hR hS' => in_any hS' A22 c22 (viasF f) (row_Cs (W := B.e) (e := 3) (n := (viasF f).length) (cp := c22) (hR _ _ (by repeat constructor))) g.fF.fClass)) ?_; rintro ⟨⟩ -)
    refine oPickT rfl rfl (oNil (thn_n (wC (fun h44 => ?_) (fun h44 => ?_))))
    ·
     refine wRegion' (oMove rfl (oMove rfl (oBuildSlice1 rfl rfl rfl rfl rfl (by repeat constructor) rfl (fun b47 => ?_))))
     refine oApp1 (k : Int) rfl rfl rfl rfl (by repeat constructor) (by repeat constructor) rfl (by omega) rfl (fun g48 cp48 => ?_)
     have hps := partR_T (p := p) (f := f) (k := k) (by rw [htp]; simp_all)
     rw [show (partR p f k).length + 1 = (partR p f (k + 1)).length by rw [hps, List.length_append]; rfl, ← hps]
     refine oAssign rfl (oNil (blk_n (thn_n (wRegion' (oMove rfl (oSucc rfl rfl (by omega) ?_))))))
     refine oAssign rfl (oNil (thn_n ?_))
     exact ⟨rfl, (k + 1, some ⟨g48, 0, none⟩, cp48), by show k + 1 ≤ _; omega, by show p.fFuns.length - (k + 1) < p.fFuns.length - k; omega, cv, Lh⟩
    refine wSkip (blk_n (thn_n (wRegion' (oMove rfl (oSucc rfl rfl (by omega) ?_)))))
    refine oAssign rfl (oNil (thn_n ?_))
    exact ⟨rfl, (k + 1, A9, c9), by show k + 1 ≤ _; omega, by show p.fFuns.length - (k + 1) < p.fFuns.length - k; omega, by dsimp only; rw [partR_F (by rw [htp]; simp_all)]; exact cv, by dsimp only; rw [partR_F (by rw [htp]; simp_all)]; exact Lh⟩
   refine oSkip rfl rfl rfl rfl (oSkip rfl rfl rfl rfl (oSkip rfl rfl rfl rfl (oSkip rfl rfl rfl rfl (oSkip rfl rfl rfl rfl (oSkip rfl rfl rfl rfl (oSkip rfl rfl rfl rfl (oSkip rfl rfl rfl rfl (oSkip rfl rfl rfl rfl (oPickF rfl rfl (oNil (thn_n ?_)))))))))))
   first | refine wCondF rfl ?_ | refine wCondFd h44 rfl ?_ | refine wCondFb h44 rfl ?_
   refine wSkip (blk_n (thn_n (wRegion' (oMove rfl (oSucc rfl rfl (by omega) ?_)))))
   refine oAssign rfl (oNil (thn_n ?_))
   exact ⟨rfl, (k + 1, A9, c9), by show k + 1 ≤ _; omega, by show p.fFuns.length - (k + 1) < p.fFuns.length - k; omega, by dsimp only; rw [partR_F (by rw [htp]; simp_all)]; exact cv, by dsimp only; rw [partR_F (by rw [htp]; simp_all)]; exact Lh⟩
  obtain rfl : k = p.fFuns.length := by omega
  refine wExit (thn_x (thn_x (blk_x (thn_n (wSeq (wRegion' (oMove rfl (oFld (n := 0) (m := 0) rfl rfl rfl (oLd rfl (by repeat constructor) rfl rfl ?_)))))))))
  refine oLenS rfl rfl ?_
  (refine oCall rfl (by kernel_rfl) (fun w hS => frame' hS .nil (fun B' hB hR hS' => ref25_Rising hS' (partR p f p.fFuns.length) A9 c9 (row_Cs (W := B.e) (e := 3) (n := (partR p f p.fFuns.length).length) (cp := c9) (hR _ _ (by repeat constructor))) p.fFuns.length (by omega) W0)) ?_; rintro ⟨A53, c53⟩ -)
  rw [← hed]
  refine oAssign rfl (oNil (thn_n (wRet (fin_r (fi1 rfl ?_)))))
  exact ⟨(A53, c53), trivial, rfl, Lh⟩
set_option maxRecDepth 100000 in
set_option maxHeartbeats 2000000 in
theorem ref26_Graph {B : Base} {w : World} (hS : St B [] w) (p : ApiProgram) (pc : List Value) (hp : kApiProgram.K B.e p pc) (hsm : SmallP p) (W0 : World) :
    CallsIn Fence.wide 0 Tryz.prog 36 #[.agg pc.toArray] w (Ret B (fun z : Option Addr × Nat × List Hdr => z.2.2.length = p.fFuns.length) (fun z => .slice z.1 p.fFuns.length z.2.1) (fun z => [row kHdr W0 42 (.slice z.1 p.fFuns.length z.2.1) z.2.2, bun (rws (Kd.int .i64) W0 3 z.2.2 (graphF p))])) := by
  obtain ⟨A0, c0, A1, c1, rfl, l0, g0, l1, g1⟩ := kApiProgram_open hp
  have hn := hsm.funs
  have hll := liveL_len p
  (refine enter Tryz.func36 rfl rfl hS ?_; simp only [List.zipIdx_cons, List.zipIdx_nil, List.map_cons, List.map_nil, Nat.reduceAdd, Nat.zero_add])
  refine wSeq (wRegion' (oBox rfl (by repeat constructor) (fun b1 => ?_)))
  refine oAssign rfl (oNil (thn_n (wSeq (wRegion' (oLdA rfl (by repeat constructor) rfl (by repeat constructor) ?_)))))
  (refine oCall rfl (by kernel_rfl) (fun w hS => frame hS (by repeat' constructor) (fun B' hB hS' => ref26_Live hS' p _ (kApiProgram.K_grow hB hp) hsm B.e)) ?_; rintro ⟨A8, c8⟩ -)
  refine oAssign rfl (oNil (thn_n (wSeq (wRegion' (oLdA rfl (by repeat constructor) rfl (by repeat constructor) ?_)))))
  (refine oCall rfl (by kernel_rfl) (fun w hS => frame hS (by repeat' constructor) (fun B' hB hS' => ref26_Taken hS' p _ (kApiProgram.K_grow hB hp) hsm B.e)) ?_; rintro ⟨A10, c10⟩ -)
  refine oAssign rfl (oNil (thn_n (wFreeze [row Kd.bool B.e 4 (.slice A8 p.fFuns.length c8) (liveL p), row Kd.bool B.e 4 (.slice A10 p.fFuns.length c10) (takenL p)] (by repeat' constructor) (fun B1 hB1 hq1 => ?_))))
  have hL : Kd.bool.C B1.e A8 (liveL p) := row_Cs (W := B.e) (e := 4) (n := p.fFuns.length) (cp := c8) (hq1 _ _ (by repeat constructor))
  have hT : Kd.bool.C B1.e A10 (takenL p) := row_Cs (W := B.e) (e := 4) (n := p.fFuns.length) (cp := c10) (hq1 _ _ (by repeat constructor))
  have hp1 := kApiProgram.K_grow hB1 hp
  refine wSeq (wRegion' (oAssign rfl (oNil (thn_n (wSeq (wSeq (wRegion' (oAssign rfl (oNil (thn_n (wBlock ?_)))))))))))
  refine wLoop (ι := Nat × List Hdr × Option Addr × Nat) (fun z => [(1, .pointer (some ⟨b1, 0, none⟩)), (3, .slice A8 p.fFuns.length c8), (4, .slice A10 p.fFuns.length c10), (5, .slice z.2.2.1 z.1 z.2.2.2), (6, .int .i64 (z.1 : Int))]) (fun z => [blk b1 29 [.slice A0 p.fFuns.length c0, .slice A1 p.fDats.length c1, .int .i64 p.fEntry], row kHdr W0 42 (.slice z.2.2.1 z.1 z.2.2.2) z.2.1, bun (rws (Kd.int .i64) W0 3 z.2.1 ((List.range z.1).map (edgF p)))]) (fun z => z.1 ≤ p.fFuns.length ∧ z.2.1.length = z.1) (fun z => p.fFuns.length - z.1) (0, [], none, 0) ?_ cv (Leads.nilrow.trans (bun_nil.trans Lh)) ?_
  ·
   exact ⟨Nat.zero_le _, rfl⟩
  rintro ⟨i, hs, A5, c5⟩ ⟨hi, hl⟩
  dsimp only at hi hl
  have hxl : ((List.range i).map (edgF p)).length = i := by simp
  try dsimp only
  refine wSeq (wSeq (wRegion' (oMove rfl (oFld (n := 0) (m := 0) rfl rfl rfl (oLd rfl (by repeat constructor) rfl rfl ?_)))))
  refine oLenS rfl rfl (oLss rfl rfl (oNil (thn_n (wC (fun h15 => ?_) (fun h15 => ?_)))))
  ·
   obtain ⟨f, hf⟩ : ∃ f, p.fFuns[i]? = some f := ⟨_, List.getElem?_eq_getElem (by omega)⟩
   refine wSkip (thn_n (wSeq (wBlock (wRegion' (oMove rfl (oLdA rfl (by repeat constructor) rfl (by repeat constructor) ?_))))))
   refine oMove rfl (oMove rfl (oMove rfl ?_))
   (refine oCall rfl (by kernel_rfl) (fun w hS => frame hS (by repeat' constructor) (fun B' hB hS' => ref26_Edges hS' p _ (kApiProgram.K_grow hB hp1) hsm i f hf A8 c8 (Kd.C_grow hB hL) A10 c10 (Kd.C_grow hB hT) W0)) ?_; rintro ⟨A23, c23⟩ -)
   refine oBuildSlice1 rfl rfl rfl rfl rfl (by repeat constructor) rfl (fun b24 => ?_)
   refine oApp1 (kd := kHdr) ((A23, (edgF p i).length, c23) : Hdr) rfl rfl rfl rfl (by repeat constructor) (by repeat constructor) rfl (by omega) rfl (fun g25 cp25 => ?_)
   refine oSnoc (kd := Kd.int .i64) (W := W0) (ei := 3) (u := (A23, (edgF p i).length, c23)) (l := edgF p i) (hs := hs) (xss := (List.range i).map (edgF p)) (by repeat constructor) (by repeat constructor) (by omega) ?_
   rw [show (List.range i).map (edgF p) ++ [edgF p i] = (List.range (i + 1)).map (edgF p) by rw [List.range_succ, List.map_append]; rfl, hl]
   refine oAssign rfl (oNil (blk_n (thn_n (wRegion' (oMove rfl (oSucc rfl rfl (by omega) ?_))))))
   refine oAssign rfl (oNil (thn_n ?_))
   exact ⟨rfl, (i + 1, hs ++ [(A23, (edgF p i).length, c23)], some ⟨g25, 0, none⟩, cp25), ⟨by show i + 1 ≤ _; omega, by show (hs ++ _).length = i + 1; rw [List.length_append, hl]; rfl⟩, by show p.fFuns.length - (i + 1) < p.fFuns.length - i; omega, cv, Lh⟩
  obtain rfl : i = p.fFuns.length := by omega
  rw [← graphF_eq]
  refine wExit (thn_x (thn_x (blk_x (thn_n (wSeq (wRegion' (oMove rfl (oAssign rfl (oNil (thn_n (wRet ?_)))))))))))
  refine fin_r (fi1 rfl ?_)
  exact ⟨(A5, c5, hs), hl, rfl, Lh⟩
set_option maxRecDepth 100000 in
set_option maxHeartbeats 1000000 in
theorem ref26_Called {B : Base} {w : World} (hS : St B [] w) (p : ApiProgram) (pc : List Value) (hp : kApiProgram.K B.e p pc) (hsm : SmallP p) (W0 : World) :
    CallsIn Fence.wide 0 Tryz.prog 34 #[.agg pc.toArray] w (Ret B (fun _ : Option Addr × Nat => True) (fun z => .slice z.1 p.fFuns.length z.2) (fun z => [row Kd.bool W0 4 (.slice z.1 p.fFuns.length z.2) (calledL p)])) := by
  obtain ⟨A0, c0, A1, c1, rfl, l0, g0, l1, g1⟩ := kApiProgram_open hp
  have hgl : (graphF p).length = p.fFuns.length := graphF_len p
  (refine enter Tryz.func34 rfl rfl hS ?_; simp only [List.zipIdx_cons, List.zipIdx_nil, List.map_cons, List.map_nil, Nat.reduceAdd, Nat.zero_add])
  refine wSeq (wRegion' (oBox rfl (by repeat constructor) (fun b1 => ?_)))
  refine oAssign rfl (oNil (thn_n (wSeq (wDrawN rfl rfl (anMk (i := 0) (rs := [2]) (by kernel_rfl) ?_)))))
  refine AllN.cons rfl ?_ ?_
  ·
   refine oLdA rfl (by repeat constructor) rfl (by repeat constructor) ?_
   refine oStepEnd (anMk (i := 1) (rs := [2]) (by kernel_rfl) ?_)
   refine AllN.cons rfl ?_ ?_
   ·
    (refine oCall rfl (by kernel_rfl) (fun w hS => frame hS (by repeat' constructor) (fun B' hB hS' => ref26_Graph hS' p _ (kApiProgram.K_grow hB hp) hsm B.e)) ?_; rintro ⟨A4, c4, hs4⟩ hl4)
    refine oSet (t := 4) (v' := .slice A4 (graphF p).length c4) rfl (by rw [hgl]) ?_
    refine oStepEnd (anMk (i := 2) (rs := []) (by kernel_rfl) ?_)
    refine AllN.cons rfl ?_ ?_
    ·
     refine oFld (n := 2) (m := 2) rfl rfl rfl (oStepEnd (anMk (i := 3) (rs := []) (by kernel_rfl) ?_))
     refine AllN.cons rfl ?_ ?_
     ·
      refine oLd rfl (by repeat constructor) rfl rfl ?_
      refine oStepEnd (anMk (i := 4) (rs := []) (by kernel_rfl) ?_)
      refine AllN.cons rfl ?_ ?_
      ·
       refine oBuildSlice1 rfl rfl rfl rfl rfl (by repeat constructor) rfl (fun b7 => ?_)
       refine oConv (blk_row (enc := Value.int .i64) (h1 := fun _ => rfl) (W := B.e) (xs := ([p.fEntry] : List Int)) (n := 1) (by repeat constructor) rfl rfl (by decide)) ?_
       refine oStepEnd (anMk (i := 5) (rs := []) (by kernel_rfl) ?_)
       refine AllN.cons rfl ?_ ?_
       ·
        (refine oCall rfl (by kernel_rfl) (fun w hS => frame' hS .nil (fun B' hB hR hS' => refReach hS' (graphF p) A4 c4 (grid_C (kd := Kd.int .i64) (W := B.e) (ei := 3) (eo := 42) (W0 := B.e) (n := p.fFuns.length) (cp := c4) (hs := hs4) (A := A4) (xss := graphF p) (hR _ _ (by repeat constructor)) (hR _ _ (by repeat constructor)) (by rw [hl4, hgl]) hB) (grG_small hsm) [p.fEntry] (some ⟨b7, 0, none⟩) 1 (row_Cs (W := B.e) (e := 3) (n := 1) (cp := 1) (hR _ _ (by repeat constructor))) W0)) ?_; rintro ⟨A8, c8, l8⟩ ⟨hl8, hr8⟩)
        obtain rfl := reach_uniq hl8 hr8
        rw [hgl]
        refine oStepEnd (anMk (i := 6) (rs := []) (by kernel_rfl) ?_)
        refine AllN.cons rfl ?_ ?_
        ·
         refine oAssign rfl (oStepEnd (anNil (by kernel_rfl) ?_))
         refine thn_n (wRet (fin_r (fi1 rfl ?_)))
         exact ⟨(A8, c8), trivial, rfl, Lh⟩
        exact AllN.nil
       exact AllN.nil
      exact AllN.nil
     exact AllN.nil
    exact AllN.nil
   refine AllN.cons rfl ?_ ?_
   ·
    refine oFld (n := 2) (m := 2) rfl rfl rfl (oStepEnd (anMk (i := 1) (rs := [3]) (by kernel_rfl) ?_))
    refine AllN.cons rfl ?_ ?_
    ·
     (refine oCall rfl (by kernel_rfl) (fun w hS => frame hS (by repeat' constructor) (fun B' hB hS' => ref26_Graph hS' p _ (kApiProgram.K_grow hB hp) hsm B.e)) ?_; rintro ⟨A4, c4, hs4⟩ hl4)
     refine oSet (t := 4) (v' := .slice A4 (graphF p).length c4) rfl (by rw [hgl]) ?_
     refine oStepEnd (anMk (i := 3) (rs := []) (by kernel_rfl) ?_)
     refine AllN.cons rfl ?_ ?_
     ·
      refine oLd rfl (by repeat constructor) rfl rfl ?_
      refine oStepEnd (anMk (i := 4) (rs := []) (by kernel_rfl) ?_)
      refine AllN.cons rfl ?_ ?_
      ·
       refine oBuildSlice1 rfl rfl rfl rfl rfl (by repeat constructor) rfl (fun b7 => ?_)
       refine oConv (blk_row (enc := Value.int .i64) (h1 := fun _ => rfl) (W := B.e) (xs := ([p.fEntry] : List Int)) (n := 1) (by repeat constructor) rfl rfl (by decide)) ?_
       refine oStepEnd (anMk (i := 5) (rs := []) (by kernel_rfl) ?_)
       refine AllN.cons rfl ?_ ?_
       ·
        (refine oCall rfl (by kernel_rfl) (fun w hS => frame' hS .nil (fun B' hB hR hS' => refReach hS' (graphF p) A4 c4 (grid_C (kd := Kd.int .i64) (W := B.e) (ei := 3) (eo := 42) (W0 := B.e) (n := p.fFuns.length) (cp := c4) (hs := hs4) (A := A4) (xss := graphF p) (hR _ _ (by repeat constructor)) (hR _ _ (by repeat constructor)) (by rw [hl4, hgl]) hB) (grG_small hsm) [p.fEntry] (some ⟨b7, 0, none⟩) 1 (row_Cs (W := B.e) (e := 3) (n := 1) (cp := 1) (hR _ _ (by repeat constructor))) W0)) ?_; rintro ⟨A8, c8, l8⟩ ⟨hl8, hr8⟩)
        obtain rfl := reach_uniq hl8 hr8
        rw [hgl]
        refine oStepEnd (anMk (i := 6) (rs := []) (by kernel_rfl) ?_)
        refine AllN.cons rfl ?_ ?_
        ·
         refine oAssign rfl (oStepEnd (anNil (by kernel_rfl) ?_))
         refine thn_n (wRet (fin_r (fi1 rfl ?_)))
         exact ⟨(A8, c8), trivial, rfl, Lh⟩
        exact AllN.nil
       exact AllN.nil
      exact AllN.nil
     exact AllN.nil
    refine AllN.cons rfl ?_ ?_
    ·
     refine oLd rfl (by repeat constructor) rfl rfl ?_
     refine oStepEnd (anMk (i := 1) (rs := [4]) (by kernel_rfl) ?_)
     refine AllN.cons rfl ?_ ?_
     ·
      (refine oCall rfl (by kernel_rfl) (fun w hS => frame hS (by repeat' constructor) (fun B' hB hS' => ref26_Graph hS' p _ (kApiProgram.K_grow hB hp) hsm B.e)) ?_; rintro ⟨A4, c4, hs4⟩ hl4)
      refine oSet (t := 4) (v' := .slice A4 (graphF p).length c4) rfl (by rw [hgl]) ?_
      refine oStepEnd (anMk (i := 4) (rs := []) (by kernel_rfl) ?_)
      refine AllN.cons rfl ?_ ?_
      ·
       refine oBuildSlice1 rfl rfl rfl rfl rfl (by repeat constructor) rfl (fun b7 => ?_)
       refine oConv (blk_row (enc := Value.int .i64) (h1 := fun _ => rfl) (W := B.e) (xs := ([p.fEntry] : List Int)) (n := 1) (by repeat constructor) rfl rfl (by decide)) ?_
       refine oStepEnd (anMk (i := 5) (rs := []) (by kernel_rfl) ?_)
       refine AllN.cons rfl ?_ ?_
       ·
        (refine oCall rfl (by kernel_rfl) (fun w hS => frame' hS .nil (fun B' hB hR hS' => refReach hS' (graphF p) A4 c4 (grid_C (kd := Kd.int .i64) (W := B.e) (ei := 3) (eo := 42) (W0 := B.e) (n := p.fFuns.length) (cp := c4) (hs := hs4) (A := A4) (xss := graphF p) (hR _ _ (by repeat constructor)) (hR _ _ (by repeat constructor)) (by rw [hl4, hgl]) hB) (grG_small hsm) [p.fEntry] (some ⟨b7, 0, none⟩) 1 (row_Cs (W := B.e) (e := 3) (n := 1) (cp := 1) (hR _ _ (by repeat constructor))) W0)) ?_; rintro ⟨A8, c8, l8⟩ ⟨hl8, hr8⟩)
        obtain rfl := reach_uniq hl8 hr8
        rw [hgl]
        refine oStepEnd (anMk (i := 6) (rs := []) (by kernel_rfl) ?_)
        refine AllN.cons rfl ?_ ?_
        ·
         refine oAssign rfl (oStepEnd (anNil (by kernel_rfl) ?_))
         refine thn_n (wRet (fin_r (fi1 rfl ?_)))
         exact ⟨(A8, c8), trivial, rfl, Lh⟩
        exact AllN.nil
       exact AllN.nil
      exact AllN.nil
     refine AllN.cons rfl ?_ ?_
     ·
      refine oBuildSlice1 rfl rfl rfl rfl rfl (by repeat constructor) rfl (fun b7 => ?_)
      refine oConv (blk_row (enc := Value.int .i64) (h1 := fun _ => rfl) (W := B.e) (xs := ([p.fEntry] : List Int)) (n := 1) (by repeat constructor) rfl rfl (by decide)) ?_
      refine oStepEnd (anMk (i := 1) (rs := []) (by kernel_rfl) ?_)
      refine AllN.cons rfl ?_ ?_
      ·
       (refine oCall rfl (by kernel_rfl) (fun w hS => frame hS (by repeat' constructor) (fun B' hB hS' => ref26_Graph hS' p _ (kApiProgram.K_grow hB hp) hsm B.e)) ?_; rintro ⟨A4, c4, hs4⟩ hl4)
       refine oSet (t := 4) (v' := .slice A4 (graphF p).length c4) rfl (by rw [hgl]) ?_
       refine oStepEnd (anMk (i := 5) (rs := []) (by kernel_rfl) ?_)
       refine AllN.cons rfl ?_ ?_
       ·
        (refine oCall rfl (by kernel_rfl) (fun w hS => frame' hS .nil (fun B' hB hR hS' => refReach hS' (graphF p) A4 c4 (grid_C (kd := Kd.int .i64) (W := B.e) (ei := 3) (eo := 42) (W0 := B.e) (n := p.fFuns.length) (cp := c4) (hs := hs4) (A := A4) (xss := graphF p) (hR _ _ (by repeat constructor)) (hR _ _ (by repeat constructor)) (by rw [hl4, hgl]) hB) (grG_small hsm) [p.fEntry] (some ⟨b7, 0, none⟩) 1 (row_Cs (W := B.e) (e := 3) (n := 1) (cp := 1) (hR _ _ (by repeat constructor))) W0)) ?_; rintro ⟨A8, c8, l8⟩ ⟨hl8, hr8⟩)
        obtain rfl := reach_uniq hl8 hr8
        rw [hgl]
        refine oStepEnd (anMk (i := 6) (rs := []) (by kernel_rfl) ?_)
        refine AllN.cons rfl ?_ ?_
        ·
         refine oAssign rfl (oStepEnd (anNil (by kernel_rfl) ?_))
         refine thn_n (wRet (fin_r (fi1 rfl ?_)))
         exact ⟨(A8, c8), trivial, rfl, Lh⟩
        exact AllN.nil
       exact AllN.nil
      exact AllN.nil
     exact AllN.nil
    exact AllN.nil
   exact AllN.nil
  refine AllN.cons rfl ?_ ?_
  ·
   refine oFld (n := 2) (m := 2) rfl rfl rfl (oStepEnd (anMk (i := 0) (rs := [3]) (by kernel_rfl) ?_))
   refine AllN.cons rfl ?_ ?_
   ·
    refine oLdA rfl (by repeat constructor) rfl (by repeat constructor) ?_
    refine oStepEnd (anMk (i := 1) (rs := [3]) (by kernel_rfl) ?_)
    refine AllN.cons rfl ?_ ?_
    ·
     (refine oCall rfl (by kernel_rfl) (fun w hS => frame hS (by repeat' constructor) (fun B' hB hS' => ref26_Graph hS' p _ (kApiProgram.K_grow hB hp) hsm B.e)) ?_; rintro ⟨A4, c4, hs4⟩ hl4)
     refine oSet (t := 4) (v' := .slice A4 (graphF p).length c4) rfl (by rw [hgl]) ?_
     refine oStepEnd (anMk (i := 3) (rs := []) (by kernel_rfl) ?_)
     refine AllN.cons rfl ?_ ?_
     ·
      refine oLd rfl (by repeat constructor) rfl rfl ?_
      refine oStepEnd (anMk (i := 4) (rs := []) (by kernel_rfl) ?_)
      refine AllN.cons rfl ?_ ?_
      ·
       refine oBuildSlice1 rfl rfl rfl rfl rfl (by repeat constructor) rfl (fun b7 => ?_)
       refine oConv (blk_row (enc := Value.int .i64) (h1 := fun _ => rfl) (W := B.e) (xs := ([p.fEntry] : List Int)) (n := 1) (by repeat constructor) rfl rfl (by decide)) ?_
       refine oStepEnd (anMk (i := 5) (rs := []) (by kernel_rfl) ?_)
       refine AllN.cons rfl ?_ ?_
       ·
        (refine oCall rfl (by kernel_rfl) (fun w hS => frame' hS .nil (fun B' hB hR hS' => refReach hS' (graphF p) A4 c4 (grid_C (kd := Kd.int .i64) (W := B.e) (ei := 3) (eo := 42) (W0 := B.e) (n := p.fFuns.length) (cp := c4) (hs := hs4) (A := A4) (xss := graphF p) (hR _ _ (by repeat constructor)) (hR _ _ (by repeat constructor)) (by rw [hl4, hgl]) hB) (grG_small hsm) [p.fEntry] (some ⟨b7, 0, none⟩) 1 (row_Cs (W := B.e) (e := 3) (n := 1) (cp := 1) (hR _ _ (by repeat constructor))) W0)) ?_; rintro ⟨A8, c8, l8⟩ ⟨hl8, hr8⟩)
        obtain rfl := reach_uniq hl8 hr8
        rw [hgl]
        refine oStepEnd (anMk (i := 6) (rs := []) (by kernel_rfl) ?_)
        refine AllN.cons rfl ?_ ?_
        ·
         refine oAssign rfl (oStepEnd (anNil (by kernel_rfl) ?_))
         refine thn_n (wRet (fin_r (fi1 rfl ?_)))
         exact ⟨(A8, c8), trivial, rfl, Lh⟩
        exact AllN.nil
       exact AllN.nil
      exact AllN.nil
     exact AllN.nil
    refine AllN.cons rfl ?_ ?_
    ·
     refine oLd rfl (by repeat constructor) rfl rfl ?_
     refine oStepEnd (anMk (i := 1) (rs := [4]) (by kernel_rfl) ?_)
     refine AllN.cons rfl ?_ ?_
     ·
      (refine oCall rfl (by kernel_rfl) (fun w hS => frame hS (by repeat' constructor) (fun B' hB hS' => ref26_Graph hS' p _ (kApiProgram.K_grow hB hp) hsm B.e)) ?_; rintro ⟨A4, c4, hs4⟩ hl4)
      refine oSet (t := 4) (v' := .slice A4 (graphF p).length c4) rfl (by rw [hgl]) ?_
      refine oStepEnd (anMk (i := 4) (rs := []) (by kernel_rfl) ?_)
      refine AllN.cons rfl ?_ ?_
      ·
       refine oBuildSlice1 rfl rfl rfl rfl rfl (by repeat constructor) rfl (fun b7 => ?_)
       refine oConv (blk_row (enc := Value.int .i64) (h1 := fun _ => rfl) (W := B.e) (xs := ([p.fEntry] : List Int)) (n := 1) (by repeat constructor) rfl rfl (by decide)) ?_
       refine oStepEnd (anMk (i := 5) (rs := []) (by kernel_rfl) ?_)
       refine AllN.cons rfl ?_ ?_
       ·
        (refine oCall rfl (by kernel_rfl) (fun w hS => frame' hS .nil (fun B' hB hR hS' => refReach hS' (graphF p) A4 c4 (grid_C (kd := Kd.int .i64) (W := B.e) (ei := 3) (eo := 42) (W0 := B.e) (n := p.fFuns.length) (cp := c4) (hs := hs4) (A := A4) (xss := graphF p) (hR _ _ (by repeat constructor)) (hR _ _ (by repeat constructor)) (by rw [hl4, hgl]) hB) (grG_small hsm) [p.fEntry] (some ⟨b7, 0, none⟩) 1 (row_Cs (W := B.e) (e := 3) (n := 1) (cp := 1) (hR _ _ (by repeat constructor))) W0)) ?_; rintro ⟨A8, c8, l8⟩ ⟨hl8, hr8⟩)
        obtain rfl := reach_uniq hl8 hr8
        rw [hgl]
        refine oStepEnd (anMk (i := 6) (rs := []) (by kernel_rfl) ?_)
        refine AllN.cons rfl ?_ ?_
        ·
         refine oAssign rfl (oStepEnd (anNil (by kernel_rfl) ?_))
         refine thn_n (wRet (fin_r (fi1 rfl ?_)))
         exact ⟨(A8, c8), trivial, rfl, Lh⟩
        exact AllN.nil
       exact AllN.nil
      exact AllN.nil
     refine AllN.cons rfl ?_ ?_
     ·
      refine oBuildSlice1 rfl rfl rfl rfl rfl (by repeat constructor) rfl (fun b7 => ?_)
      refine oConv (blk_row (enc := Value.int .i64) (h1 := fun _ => rfl) (W := B.e) (xs := ([p.fEntry] : List Int)) (n := 1) (by repeat constructor) rfl rfl (by decide)) ?_
      refine oStepEnd (anMk (i := 1) (rs := []) (by kernel_rfl) ?_)
      refine AllN.cons rfl ?_ ?_
      ·
       (refine oCall rfl (by kernel_rfl) (fun w hS => frame hS (by repeat' constructor) (fun B' hB hS' => ref26_Graph hS' p _ (kApiProgram.K_grow hB hp) hsm B.e)) ?_; rintro ⟨A4, c4, hs4⟩ hl4)
       refine oSet (t := 4) (v' := .slice A4 (graphF p).length c4) rfl (by rw [hgl]) ?_
       refine oStepEnd (anMk (i := 5) (rs := []) (by kernel_rfl) ?_)
       refine AllN.cons rfl ?_ ?_
       ·
        (refine oCall rfl (by kernel_rfl) (fun w hS => frame' hS .nil (fun B' hB hR hS' => refReach hS' (graphF p) A4 c4 (grid_C (kd := Kd.int .i64) (W := B.e) (ei := 3) (eo := 42) (W0 := B.e) (n := p.fFuns.length) (cp := c4) (hs := hs4) (A := A4) (xss := graphF p) (hR _ _ (by repeat constructor)) (hR _ _ (by repeat constructor)) (by rw [hl4, hgl]) hB) (grG_small hsm) [p.fEntry] (some ⟨b7, 0, none⟩) 1 (row_Cs (W := B.e) (e := 3) (n := 1) (cp := 1) (hR _ _ (by repeat constructor))) W0)) ?_; rintro ⟨A8, c8, l8⟩ ⟨hl8, hr8⟩)
        obtain rfl := reach_uniq hl8 hr8
        rw [hgl]
        refine oStepEnd (anMk (i := 6) (rs := []) (by kernel_rfl) ?_)
        refine AllN.cons rfl ?_ ?_
        ·
         refine oAssign rfl (oStepEnd (anNil (by kernel_rfl) ?_))
         refine thn_n (wRet (fin_r (fi1 rfl ?_)))
         exact ⟨(A8, c8), trivial, rfl, Lh⟩
        exact AllN.nil
       exact AllN.nil
      exact AllN.nil
     exact AllN.nil
    exact AllN.nil
   refine AllN.cons rfl ?_ ?_
   ·
    refine oLd rfl (by repeat constructor) rfl rfl ?_
    refine oStepEnd (anMk (i := 0) (rs := [4]) (by kernel_rfl) ?_)
    refine AllN.cons rfl ?_ ?_
    ·
     refine oLdA rfl (by repeat constructor) rfl (by repeat constructor) ?_
     refine oStepEnd (anMk (i := 1) (rs := [4]) (by kernel_rfl) ?_)
     refine AllN.cons rfl ?_ ?_
     ·
      (refine oCall rfl (by kernel_rfl) (fun w hS => frame hS (by repeat' constructor) (fun B' hB hS' => ref26_Graph hS' p _ (kApiProgram.K_grow hB hp) hsm B.e)) ?_; rintro ⟨A4, c4, hs4⟩ hl4)
      refine oSet (t := 4) (v' := .slice A4 (graphF p).length c4) rfl (by rw [hgl]) ?_
      refine oStepEnd (anMk (i := 4) (rs := []) (by kernel_rfl) ?_)
      refine AllN.cons rfl ?_ ?_
      ·
       refine oBuildSlice1 rfl rfl rfl rfl rfl (by repeat constructor) rfl (fun b7 => ?_)
       refine oConv (blk_row (enc := Value.int .i64) (h1 := fun _ => rfl) (W := B.e) (xs := ([p.fEntry] : List Int)) (n := 1) (by repeat constructor) rfl rfl (by decide)) ?_
       refine oStepEnd (anMk (i := 5) (rs := []) (by kernel_rfl) ?_)
       refine AllN.cons rfl ?_ ?_
       ·
        (refine oCall rfl (by kernel_rfl) (fun w hS => frame' hS .nil (fun B' hB hR hS' => refReach hS' (graphF p) A4 c4 (grid_C (kd := Kd.int .i64) (W := B.e) (ei := 3) (eo := 42) (W0 := B.e) (n := p.fFuns.length) (cp := c4) (hs := hs4) (A := A4) (xss := graphF p) (hR _ _ (by repeat constructor)) (hR _ _ (by repeat constructor)) (by rw [hl4, hgl]) hB) (grG_small hsm) [p.fEntry] (some ⟨b7, 0, none⟩) 1 (row_Cs (W := B.e) (e := 3) (n := 1) (cp := 1) (hR _ _ (by repeat constructor))) W0)) ?_; rintro ⟨A8, c8, l8⟩ ⟨hl8, hr8⟩)
        obtain rfl := reach_uniq hl8 hr8
        rw [hgl]
        refine oStepEnd (anMk (i := 6) (rs := []) (by kernel_rfl) ?_)
        refine AllN.cons rfl ?_ ?_
        ·
         refine oAssign rfl (oStepEnd (anNil (by kernel_rfl) ?_))
         refine thn_n (wRet (fin_r (fi1 rfl ?_)))
         exact ⟨(A8, c8), trivial, rfl, Lh⟩
        exact AllN.nil
       exact AllN.nil
      exact AllN.nil
     refine AllN.cons rfl ?_ ?_
     ·
      refine oBuildSlice1 rfl rfl rfl rfl rfl (by repeat constructor) rfl (fun b7 => ?_)
      refine oConv (blk_row (enc := Value.int .i64) (h1 := fun _ => rfl) (W := B.e) (xs := ([p.fEntry] : List Int)) (n := 1) (by repeat constructor) rfl rfl (by decide)) ?_
      refine oStepEnd (anMk (i := 1) (rs := []) (by kernel_rfl) ?_)
      refine AllN.cons rfl ?_ ?_
      ·
       (refine oCall rfl (by kernel_rfl) (fun w hS => frame hS (by repeat' constructor) (fun B' hB hS' => ref26_Graph hS' p _ (kApiProgram.K_grow hB hp) hsm B.e)) ?_; rintro ⟨A4, c4, hs4⟩ hl4)
       refine oSet (t := 4) (v' := .slice A4 (graphF p).length c4) rfl (by rw [hgl]) ?_
       refine oStepEnd (anMk (i := 5) (rs := []) (by kernel_rfl) ?_)
       refine AllN.cons rfl ?_ ?_
       ·
        (refine oCall rfl (by kernel_rfl) (fun w hS => frame' hS .nil (fun B' hB hR hS' => refReach hS' (graphF p) A4 c4 (grid_C (kd := Kd.int .i64) (W := B.e) (ei := 3) (eo := 42) (W0 := B.e) (n := p.fFuns.length) (cp := c4) (hs := hs4) (A := A4) (xss := graphF p) (hR _ _ (by repeat constructor)) (hR _ _ (by repeat constructor)) (by rw [hl4, hgl]) hB) (grG_small hsm) [p.fEntry] (some ⟨b7, 0, none⟩) 1 (row_Cs (W := B.e) (e := 3) (n := 1) (cp := 1) (hR _ _ (by repeat constructor))) W0)) ?_; rintro ⟨A8, c8, l8⟩ ⟨hl8, hr8⟩)
        obtain rfl := reach_uniq hl8 hr8
        rw [hgl]
        refine oStepEnd (anMk (i := 6) (rs := []) (by kernel_rfl) ?_)
        refine AllN.cons rfl ?_ ?_
        ·
         refine oAssign rfl (oStepEnd (anNil (by kernel_rfl) ?_))
         refine thn_n (wRet (fin_r (fi1 rfl ?_)))
         exact ⟨(A8, c8), trivial, rfl, Lh⟩
        exact AllN.nil
       exact AllN.nil
      exact AllN.nil
     exact AllN.nil
    refine AllN.cons rfl ?_ ?_
    ·
     refine oBuildSlice1 rfl rfl rfl rfl rfl (by repeat constructor) rfl (fun b7 => ?_)
     refine oConv (blk_row (enc := Value.int .i64) (h1 := fun _ => rfl) (W := B.e) (xs := ([p.fEntry] : List Int)) (n := 1) (by repeat constructor) rfl rfl (by decide)) ?_
     refine oStepEnd (anMk (i := 0) (rs := []) (by kernel_rfl) ?_)
     refine AllN.cons rfl ?_ ?_
     ·
      refine oLdA rfl (by repeat constructor) rfl (by repeat constructor) ?_
      refine oStepEnd (anMk (i := 1) (rs := []) (by kernel_rfl) ?_)
      refine AllN.cons rfl ?_ ?_
      ·
       (refine oCall rfl (by kernel_rfl) (fun w hS => frame hS (by repeat' constructor) (fun B' hB hS' => ref26_Graph hS' p _ (kApiProgram.K_grow hB hp) hsm B.e)) ?_; rintro ⟨A4, c4, hs4⟩ hl4)
       refine oSet (t := 4) (v' := .slice A4 (graphF p).length c4) rfl (by rw [hgl]) ?_
       refine oStepEnd (anMk (i := 5) (rs := []) (by kernel_rfl) ?_)
       refine AllN.cons rfl ?_ ?_
       ·
        (refine oCall rfl (by kernel_rfl) (fun w hS => frame' hS .nil (fun B' hB hR hS' => refReach hS' (graphF p) A4 c4 (grid_C (kd := Kd.int .i64) (W := B.e) (ei := 3) (eo := 42) (W0 := B.e) (n := p.fFuns.length) (cp := c4) (hs := hs4) (A := A4) (xss := graphF p) (hR _ _ (by repeat constructor)) (hR _ _ (by repeat constructor)) (by rw [hl4, hgl]) hB) (grG_small hsm) [p.fEntry] (some ⟨b7, 0, none⟩) 1 (row_Cs (W := B.e) (e := 3) (n := 1) (cp := 1) (hR _ _ (by repeat constructor))) W0)) ?_; rintro ⟨A8, c8, l8⟩ ⟨hl8, hr8⟩)
        obtain rfl := reach_uniq hl8 hr8
        rw [hgl]
        refine oStepEnd (anMk (i := 6) (rs := []) (by kernel_rfl) ?_)
        refine AllN.cons rfl ?_ ?_
        ·
         refine oAssign rfl (oStepEnd (anNil (by kernel_rfl) ?_))
         refine thn_n (wRet (fin_r (fi1 rfl ?_)))
         exact ⟨(A8, c8), trivial, rfl, Lh⟩
        exact AllN.nil
       exact AllN.nil
      exact AllN.nil
     exact AllN.nil
    exact AllN.nil
   exact AllN.nil
  exact AllN.nil
end Go.Proofs.YtogaiijhicfoaaaGreatU
