import Derived.Test.YtogaiijhicfoaaaGreatUk

/-
  What is called: program and reference; the reference's call graph.
-/
namespace Go.Proofs.YtogaiijhicfoaaaGreatU
set_option linter.unusedVariables false
set_option linter.unusedSimpArgs false
open Go.RowKit Go.Proofs.YtogaiijhicfoaaaGreatK Go.Proofs.YtogaiijhicfoaaaGreatT Go.Proofs.YtogaiijhicfoaaaGreatL Go.Proofs.YtogaiijhicfoaaaGreatV Go.Proofs.YtogaiijhicfoaaaGreatG

noncomputable def calledL (p : ApiProgram) : List Bool := reachB (graphF p) [p.fEntry]
set_option maxRecDepth 100000 in
set_option maxHeartbeats 1000000 in
theorem prog_Called {B : Base} {w : World} (hS : St B [] w) (p : ApiProgram) (pc : List Value) (hp : kApiProgram.K B.e p pc) (hsm : SmallP p) (W0 : World) :
    CallsIn Fence.wide 0 Tryz.prog 33 #[.agg pc.toArray] w (Ret B (fun _ : Option Addr × Nat => True) (fun z => .slice z.1 p.fFuns.length z.2) (fun z => [row Kd.bool W0 4 (.slice z.1 p.fFuns.length z.2) (calledL p)])) := by
  obtain ⟨A0, c0, A1, c1, rfl, l0, g0, l1, g1⟩ := kApiProgram_open hp
  have hgl : (graphF p).length = p.fFuns.length := graphF_len p
  (refine enter Tryz.func33 rfl rfl hS ?_; simp only [List.zipIdx_cons, List.zipIdx_nil, List.map_cons, List.map_nil, Nat.reduceAdd, Nat.zero_add])
  refine wSeq (wRegion' (oBox rfl (by repeat constructor) (fun b1 => ?_)))
  refine oAssign rfl (oNil (thn_n (wSeq (wDrawN rfl rfl (anMk (i := 0) (rs := [2]) (by kernel_rfl) ?_)))))
  refine AllN.cons rfl ?_ ?_
  ·
   refine oLdA rfl (by repeat constructor) rfl (by repeat constructor) ?_
   refine oStepEnd (anMk (i := 1) (rs := [2]) (by kernel_rfl) ?_)
   refine AllN.cons rfl ?_ ?_
   ·
    (refine oCall rfl (by kernel_rfl) (fun w hS => frame hS (by repeat' constructor) (fun B' hB hS' => prog_Graph hS' p _ (kApiProgram.K_grow hB hp) hsm B.e)) ?_; rintro ⟨A4, c4, hs4⟩ hl4)
    refine oSet (t := 4) (v' := .slice A4 (graphF p).length c4) rfl (by rw [hgl]) ?_
    refine oStepEnd (anMk (i := 2) (rs := []) (by kernel_rfl) ?_)
    refine AllN.cons rfl ?_ ?_
    ·
     refine oFld (n := 2) (m := 2) rfl rfl rfl (oStepEnd (anMk (i := 3) (rs := []) (by kernel_rfl) ?_))
     refine AllN.cons rfl ?_ ?_
     ·
      refine oLd rfl (by repeat constructor) rfl rfl ?_
      refine oStepEnd (anMk (i := 4) (rs := []) (by kernel_rfl) ?_)
      refine AllN.cons rfl ?_ ?_
      ·
       refine oBuildSlice1 rfl rfl rfl rfl rfl (by repeat constructor) rfl (fun b7 => ?_)
       refine oConv (blk_row (enc := Value.int .i64) (h1 := fun _ => rfl) (W := B.e) (xs := ([p.fEntry] : List Int)) (n := 1) (by repeat constructor) rfl rfl (by decide)) ?_
       refine oStepEnd (anMk (i := 5) (rs := []) (by kernel_rfl) ?_)
       refine AllN.cons rfl ?_ ?_
       ·
        (refine oCall rfl (by kernel_rfl) (fun w hS => frame' hS .nil (fun B' hB hR hS' => reach_any hS' (graphF p) A4 c4 (grid_C (kd := Kd.int .i64) (W := B.e) (ei := 3) (eo := 42) (W0 := B.e) (n := p.fFuns.length) (cp := c4) (hs := hs4) (A := A4) (xss := graphF p) (hR _ _ (by repeat constructor)) (hR _ _ (by repeat constructor)) (by rw [hl4, hgl]) hB) (grG_small hsm) [p.fEntry] (some ⟨b7, 0, none⟩) 1 (row_Cs (W := B.e) (e := 3) (n := 1) (cp := 1) (hR _ _ (by repeat constructor))) (by simp) W0)) ?_; rintro ⟨A8, c8, l8⟩ ⟨hl8, hr8⟩)
        obtain rfl := reach_uniq hl8 hr8
        rw [hgl]
        refine oStepEnd (anMk (i := 6) (rs := []) (by kernel_rfl) ?_)
        refine AllN.cons rfl ?_ ?_
        ·
         refine oAssign rfl (oStepEnd (anNil (by kernel_rfl) ?_))
         refine thn_n (wRet (fin_r (fi1 rfl ?_)))
         exact ⟨(A8, c8), trivial, rfl, Lh⟩
        exact AllN.nil
       exact AllN.nil
      exact AllN.nil
     exact AllN.nil
    exact AllN.nil
   refine AllN.cons rfl ?_ ?_
   ·
    refine oFld (n := 2) (m := 2) rfl rfl rfl (oStepEnd (anMk (i := 1) (rs := [3]) (by kernel_rfl) ?_))
    refine AllN.cons rfl ?_ ?_
    ·
     (refine oCall rfl (by kernel_rfl) (fun w hS => frame hS (by repeat' constructor) (fun B' hB hS' => prog_Graph hS' p _ (kApiProgram.K_grow hB hp) hsm B.e)) ?_; rintro ⟨A4, c4, hs4⟩ hl4)
     refine oSet (t := 4) (v' := .slice A4 (graphF p).length c4) rfl (by rw [hgl]) ?_
     refine oStepEnd (anMk (i := 3) (rs := []) (by kernel_rfl) ?_)
     refine AllN.cons rfl ?_ ?_
     ·
      refine oLd rfl (by repeat constructor) rfl rfl ?_
      refine oStepEnd (anMk (i := 4) (rs := []) (by kernel_rfl) ?_)
      refine AllN.cons rfl ?_ ?_
      ·
       refine oBuildSlice1 rfl rfl rfl rfl rfl (by repeat constructor) rfl (fun b7 => ?_)
       refine oConv (blk_row (enc := Value.int .i64) (h1 := fun _ => rfl) (W := B.e) (xs := ([p.fEntry] : List Int)) (n := 1) (by repeat constructor) rfl rfl (by decide)) ?_
       refine oStepEnd (anMk (i := 5) (rs := []) (by kernel_rfl) ?_)
       refine AllN.cons rfl ?_ ?_
       ·
        (refine oCall rfl (by kernel_rfl) (fun w hS => frame' hS .nil (fun B' hB hR hS' => reach_any hS' (graphF p) A4 c4 (grid_C (kd := Kd.int .i64) (W := B.e) (ei := 3) (eo := 42) (W0 := B.e) (n := p.fFuns.length) (cp := c4) (hs := hs4) (A := A4) (xss := graphF p) (hR _ _ (by repeat constructor)) (hR _ _ (by repeat constructor)) (by rw [hl4, hgl]) hB) (grG_small hsm) [p.fEntry] (some ⟨b7, 0, none⟩) 1 (row_Cs (W := B.e) (e := 3) (n := 1) (cp := 1) (hR _ _ (by repeat constructor))) (by simp) W0)) ?_; rintro ⟨A8, c8, l8⟩ ⟨hl8, hr8⟩)
        obtain rfl := reach_uniq hl8 hr8
        rw [hgl]
        refine oStepEnd (anMk (i := 6) (rs := []) (by kernel_rfl) ?_)
        refine AllN.cons rfl ?_ ?_
        ·
         refine oAssign rfl (oStepEnd (anNil (by kernel_rfl) ?_))
         refine thn_n (wRet (fin_r (fi1 rfl ?_)))
         exact ⟨(A8, c8), trivial, rfl, Lh⟩
        exact AllN.nil
       exact AllN.nil
      exact AllN.nil
     exact AllN.nil
    refine AllN.cons rfl ?_ ?_
    ·
     refine oLd rfl (by repeat constructor) rfl rfl ?_
     refine oStepEnd (anMk (i := 1) (rs := [4]) (by kernel_rfl) ?_)
     refine AllN.cons rfl ?_ ?_
     ·
      (refine oCall rfl (by kernel_rfl) (fun w hS => frame hS (by repeat' constructor) (fun B' hB hS' => prog_Graph hS' p _ (kApiProgram.K_grow hB hp) hsm B.e)) ?_; rintro ⟨A4, c4, hs4⟩ hl4)
      refine oSet (t := 4) (v' := .slice A4 (graphF p).length c4) rfl (by rw [hgl]) ?_
      refine oStepEnd (anMk (i := 4) (rs := []) (by kernel_rfl) ?_)
      refine AllN.cons rfl ?_ ?_
      ·
       refine oBuildSlice1 rfl rfl rfl rfl rfl (by repeat constructor) rfl (fun b7 => ?_)
       refine oConv (blk_row (enc := Value.int .i64) (h1 := fun _ => rfl) (W := B.e) (xs := ([p.fEntry] : List Int)) (n := 1) (by repeat constructor) rfl rfl (by decide)) ?_
       refine oStepEnd (anMk (i := 5) (rs := []) (by kernel_rfl) ?_)
       refine AllN.cons rfl ?_ ?_
       ·
        (refine oCall rfl (by kernel_rfl) (fun w hS => frame' hS .nil (fun B' hB hR hS' => reach_any hS' (graphF p) A4 c4 (grid_C (kd := Kd.int .i64) (W := B.e) (ei := 3) (eo := 42) (W0 := B.e) (n := p.fFuns.length) (cp := c4) (hs := hs4) (A := A4) (xss := graphF p) (hR _ _ (by repeat constructor)) (hR _ _ (by repeat constructor)) (by rw [hl4, hgl]) hB) (grG_small hsm) [p.fEntry] (some ⟨b7, 0, none⟩) 1 (row_Cs (W := B.e) (e := 3) (n := 1) (cp := 1) (hR _ _ (by repeat constructor))) (by simp) W0)) ?_; rintro ⟨A8, c8, l8⟩ ⟨hl8, hr8⟩)
        obtain rfl := reach_uniq hl8 hr8
        rw [hgl]
        refine oStepEnd (anMk (i := 6) (rs := []) (by kernel_rfl) ?_)
        refine AllN.cons rfl ?_ ?_
        ·
         refine oAssign rfl (oStepEnd (anNil (by kernel_rfl) ?_))
         refine thn_n (wRet (fin_r (fi1 rfl ?_)))
         exact ⟨(A8, c8), trivial, rfl, Lh⟩
        exact AllN.nil
       exact AllN.nil
      exact AllN.nil
     refine AllN.cons rfl ?_ ?_
     ·
      refine oBuildSlice1 rfl rfl rfl rfl rfl (by repeat constructor) rfl (fun b7 => ?_)
      refine oConv (blk_row (enc := Value.int .i64) (h1 := fun _ => rfl) (W := B.e) (xs := ([p.fEntry] : List Int)) (n := 1) (by repeat constructor) rfl rfl (by decide)) ?_
      refine oStepEnd (anMk (i := 1) (rs := []) (by kernel_rfl) ?_)
      refine AllN.cons rfl ?_ ?_
      ·
       (refine oCall rfl (by kernel_rfl) (fun w hS => frame hS (by repeat' constructor) (fun B' hB hS' => prog_Graph hS' p _ (kApiProgram.K_grow hB hp) hsm B.e)) ?_; rintro ⟨A4, c4, hs4⟩ hl4)
       refine oSet (t := 4) (v' := .slice A4 (graphF p).length c4) rfl (by rw [hgl]) ?_
       refine oStepEnd (anMk (i := 5) (rs := []) (by kernel_rfl) ?_)
       refine AllN.cons rfl ?_ ?_
       ·
        (refine oCall rfl (by kernel_rfl) (fun w hS => frame' hS .nil (fun B' hB hR hS' => reach_any hS' (graphF p) A4 c4 (grid_C (kd := Kd.int .i64) (W := B.e) (ei := 3) (eo := 42) (W0 := B.e) (n := p.fFuns.length) (cp := c4) (hs := hs4) (A := A4) (xss := graphF p) (hR _ _ (by repeat constructor)) (hR _ _ (by repeat constructor)) (by rw [hl4, hgl]) hB) (grG_small hsm) [p.fEntry] (some ⟨b7, 0, none⟩) 1 (row_Cs (W := B.e) (e := 3) (n := 1) (cp := 1) (hR _ _ (by repeat constructor))) (by simp) W0)) ?_; rintro ⟨A8, c8, l8⟩ ⟨hl8, hr8⟩)
        obtain rfl := reach_uniq hl8 hr8
        rw [hgl]
        refine oStepEnd (anMk (i := 6) (rs := []) (by kernel_rfl) ?_)
        refine AllN.cons rfl ?_ ?_
        ·
         refine oAssign rfl (oStepEnd (anNil (by kernel_rfl) ?_))
         refine thn_n (wRet (fin_r (fi1 rfl ?_)))
         exact ⟨(A8, c8), trivial, rfl, Lh⟩
        exact AllN.nil
       exact AllN.nil
      exact AllN.nil
     exact AllN.nil
    exact AllN.nil
   exact AllN.nil
  refine AllN.cons rfl ?_ ?_
  ·
   refine oFld (n := 2) (m := 2) rfl rfl rfl (oStepEnd (anMk (i := 0) (rs := [3]) (by kernel_rfl) ?_))
   refine AllN.cons rfl ?_ ?_
   ·
    refine oLdA rfl (by repeat constructor) rfl (by repeat constructor) ?_
    refine oStepEnd (anMk (i := 1) (rs := [3]) (by kernel_rfl) ?_)
    refine AllN.cons rfl ?_ ?_
    ·
     (refine oCall rfl (by kernel_rfl) (fun w hS => frame hS (by repeat' constructor) (fun B' hB hS' => prog_Graph hS' p _ (kApiProgram.K_grow hB hp) hsm B.e)) ?_; rintro ⟨A4, c4, hs4⟩ hl4)
     refine oSet (t := 4) (v' := .slice A4 (graphF p).length c4) rfl (by rw [hgl]) ?_
     refine oStepEnd (anMk (i := 3) (rs := []) (by kernel_rfl) ?_)
     refine AllN.cons rfl ?_ ?_
     ·
      refine oLd rfl (by repeat constructor) rfl rfl ?_
      refine oStepEnd (anMk (i := 4) (rs := []) (by kernel_rfl) ?_)
      refine AllN.cons rfl ?_ ?_
      ·
       refine oBuildSlice1 rfl rfl rfl rfl rfl (by repeat constructor) rfl (fun b7 => ?_)
       refine oConv (blk_row (enc := Value.int .i64) (h1 := fun _ => rfl) (W := B.e) (xs := ([p.fEntry] : List Int)) (n := 1) (by repeat constructor) rfl rfl (by decide)) ?_
       refine oStepEnd (anMk (i := 5) (rs := []) (by kernel_rfl) ?_)
       refine AllN.cons rfl ?_ ?_
       ·
        (refine oCall rfl (by kernel_rfl) (fun w hS => frame' hS .nil (fun B' hB hR hS' => reach_any hS' (graphF p) A4 c4 (grid_C (kd := Kd.int .i64) (W := B.e) (ei := 3) (eo := 42) (W0 := B.e) (n := p.fFuns.length) (cp := c4) (hs := hs4) (A := A4) (xss := graphF p) (hR _ _ (by repeat constructor)) (hR _ _ (by repeat constructor)) (by rw [hl4, hgl]) hB) (grG_small hsm) [p.fEntry] (some ⟨b7, 0, none⟩) 1 (row_Cs (W := B.e) (e := 3) (n := 1) (cp := 1) (hR _ _ (by repeat constructor))) (by simp) W0)) ?_; rintro ⟨A8, c8, l8⟩ ⟨hl8, hr8⟩)
        obtain rfl := reach_uniq hl8 hr8
        rw [hgl]
        refine oStepEnd (anMk (i := 6) (rs := []) (by kernel_rfl) ?_)
        refine AllN.cons rfl ?_ ?_
        ·
         refine oAssign rfl (oStepEnd (anNil (by kernel_rfl) ?_))
         refine thn_n (wRet (fin_r (fi1 rfl ?_)))
         exact ⟨(A8, c8), trivial, rfl, Lh⟩
        exact AllN.nil
       exact AllN.nil
      exact AllN.nil
     exact AllN.nil
    refine AllN.cons rfl ?_ ?_
    ·
     refine oLd rfl (by repeat constructor) rfl rfl ?_
     refine oStepEnd (anMk (i := 1) (rs := [4]) (by kernel_rfl) ?_)
     refine AllN.cons rfl ?_ ?_
     ·
      (refine oCall rfl (by kernel_rfl) (fun w hS => frame hS (by repeat' constructor) (fun B' hB hS' => prog_Graph hS' p _ (kApiProgram.K_grow hB hp) hsm B.e)) ?_; rintro ⟨A4, c4, hs4⟩ hl4)
      refine oSet (t := 4) (v' := .slice A4 (graphF p).length c4) rfl (by rw [hgl]) ?_
      refine oStepEnd (anMk (i := 4) (rs := []) (by kernel_rfl) ?_)
      refine AllN.cons rfl ?_ ?_
      ·
       refine oBuildSlice1 rfl rfl rfl rfl rfl (by repeat constructor) rfl (fun b7 => ?_)
       refine oConv (blk_row (enc := Value.int .i64) (h1 := fun _ => rfl) (W := B.e) (xs := ([p.fEntry] : List Int)) (n := 1) (by repeat constructor) rfl rfl (by decide)) ?_
       refine oStepEnd (anMk (i := 5) (rs := []) (by kernel_rfl) ?_)
       refine AllN.cons rfl ?_ ?_
       ·
        (refine oCall rfl (by kernel_rfl) (fun w hS => frame' hS .nil (fun B' hB hR hS' => reach_any hS' (graphF p) A4 c4 (grid_C (kd := Kd.int .i64) (W := B.e) (ei := 3) (eo := 42) (W0 := B.e) (n := p.fFuns.length) (cp := c4) (hs := hs4) (A := A4) (xss := graphF p) (hR _ _ (by repeat constructor)) (hR _ _ (by repeat constructor)) (by rw [hl4, hgl]) hB) (grG_small hsm) [p.fEntry] (some ⟨b7, 0, none⟩) 1 (row_Cs (W := B.e) (e := 3) (n := 1) (cp := 1) (hR _ _ (by repeat constructor))) (by simp) W0)) ?_; rintro ⟨A8, c8, l8⟩ ⟨hl8, hr8⟩)
        obtain rfl := reach_uniq hl8 hr8
        rw [hgl]
        refine oStepEnd (anMk (i := 6) (rs := []) (by kernel_rfl) ?_)
        refine AllN.cons rfl ?_ ?_
        ·
         refine oAssign rfl (oStepEnd (anNil (by kernel_rfl) ?_))
         refine thn_n (wRet (fin_r (fi1 rfl ?_)))
         exact ⟨(A8, c8), trivial, rfl, Lh⟩
        exact AllN.nil
       exact AllN.nil
      exact AllN.nil
     refine AllN.cons rfl ?_ ?_
     ·
      refine oBuildSlice1 rfl rfl rfl rfl rfl (by repeat constructor) rfl (fun b7 => ?_)
      refine oConv (blk_row (enc := Value.int .i64) (h1 := fun _ => rfl) (W := B.e) (xs := ([p.fEntry] : List Int)) (n := 1) (by repeat constructor) rfl rfl (by decide)) ?_
      refine oStepEnd (anMk (i := 1) (rs := []) (by kernel_rfl) ?_)
      refine AllN.cons rfl ?_ ?_
      ·
       (refine oCall rfl (by kernel_rfl) (fun w hS => frame hS (by repeat' constructor) (fun B' hB hS' => prog_Graph hS' p _ (kApiProgram.K_grow hB hp) hsm B.e)) ?_; rintro ⟨A4, c4, hs4⟩ hl4)
       refine oSet (t := 4) (v' := .slice A4 (graphF p).length c4) rfl (by rw [hgl]) ?_
       refine oStepEnd (anMk (i := 5) (rs := []) (by kernel_rfl) ?_)
       refine AllN.cons rfl ?_ ?_
       ·
        (refine oCall rfl (by kernel_rfl) (fun w hS => frame' hS .nil (fun B' hB hR hS' => reach_any hS' (graphF p) A4 c4 (grid_C (kd := Kd.int .i64) (W := B.e) (ei := 3) (eo := 42) (W0 := B.e) (n := p.fFuns.length) (cp := c4) (hs := hs4) (A := A4) (xss := graphF p) (hR _ _ (by repeat constructor)) (hR _ _ (by repeat constructor)) (by rw [hl4, hgl]) hB) (grG_small hsm) [p.fEntry] (some ⟨b7, 0, none⟩) 1 (row_Cs (W := B.e) (e := 3) (n := 1) (cp := 1) (hR _ _ (by repeat constructor))) (by simp) W0)) ?_; rintro ⟨A8, c8, l8⟩ ⟨hl8, hr8⟩)
        obtain rfl := reach_uniq hl8 hr8
        rw [hgl]
        refine oStepEnd (anMk (i := 6) (rs := []) (by kernel_rfl) ?_)
        refine AllN.cons rfl ?_ ?_
        ·
         refine oAssign rfl (oStepEnd (anNil (by kernel_rfl) ?_))
         refine thn_n (wRet (fin_r (fi1 rfl ?_)))
         exact ⟨(A8, c8), trivial, rfl, Lh⟩
        exact AllN.nil
       exact AllN.nil
      exact AllN.nil
     exact AllN.nil
    exact AllN.nil
   refine AllN.cons rfl ?_ ?_
   ·
    refine oLd rfl (by repeat constructor) rfl rfl ?_
    refine oStepEnd (anMk (i := 0) (rs := [4]) (by kernel_rfl) ?_)
    refine AllN.cons rfl ?_ ?_
    ·
     refine oLdA rfl (by repeat constructor) rfl (by repeat constructor) ?_
     refine oStepEnd (anMk (i := 1) (rs := [4]) (by kernel_rfl) ?_)
     refine AllN.cons rfl ?_ ?_
     ·
      (refine oCall rfl (by kernel_rfl) (fun w hS => frame hS (by repeat' constructor) (fun B' hB hS' => prog_Graph hS' p _ (kApiProgram.K_grow hB hp) hsm B.e)) ?_; rintro ⟨A4, c4, hs4⟩ hl4)
      refine oSet (t := 4) (v' := .slice A4 (graphF p).length c4) rfl (by rw [hgl]) ?_
      refine oStepEnd (anMk (i := 4) (rs := []) (by kernel_rfl) ?_)
      refine AllN.cons rfl ?_ ?_
      ·
       refine oBuildSlice1 rfl rfl rfl rfl rfl (by repeat constructor) rfl (fun b7 => ?_)
       refine oConv (blk_row (enc := Value.int .i64) (h1 := fun _ => rfl) (W := B.e) (xs := ([p.fEntry] : List Int)) (n := 1) (by repeat constructor) rfl rfl (by decide)) ?_
       refine oStepEnd (anMk (i := 5) (rs := []) (by kernel_rfl) ?_)
       refine AllN.cons rfl ?_ ?_
       ·
        (refine oCall rfl (by kernel_rfl) (fun w hS => frame' hS .nil (fun B' hB hR hS' => reach_any hS' (graphF p) A4 c4 (grid_C (kd := Kd.int .i64) (W := B.e) (ei := 3) (eo := 42) (W0 := B.e) (n := p.fFuns.length) (cp := c4) (hs := hs4) (A := A4) (xss := graphF p) (hR _ _ (by repeat constructor)) (hR _ _ (by repeat constructor)) (by rw [hl4, hgl]) hB) (grG_small hsm) [p.fEntry] (some ⟨b7, 0, none⟩) 1 (row_Cs (W := B.e) (e := 3) (n := 1) (cp := 1) (hR _ _ (by repeat constructor))) (by simp) W0)) ?_; rintro ⟨A8, c8, l8⟩ ⟨hl8, hr8⟩)
        obtain rfl := reach_uniq hl8 hr8
        rw [hgl]
        refine oStepEnd (anMk (i := 6) (rs := []) (by kernel_rfl) ?_)
        refine AllN.cons rfl ?_ ?_
        ·
         refine oAssign rfl (oStepEnd (anNil (by kernel_rfl) ?_))
         refine thn_n (wRet (fin_r (fi1 rfl ?_)))
         exact ⟨(A8, c8), trivial, rfl, Lh⟩
        exact AllN.nil
       exact AllN.nil
      exact AllN.nil
     refine AllN.cons rfl ?_ ?_
     ·
      refine oBuildSlice1 rfl rfl rfl rfl rfl (by repeat constructor) rfl (fun b7 => ?_)
      refine oConv (blk_row (enc := Value.int .i64) (h1 := fun _ => rfl) (W := B.e) (xs := ([p.fEntry] : List Int)) (n := 1) (by repeat constructor) rfl rfl (by decide)) ?_
      refine oStepEnd (anMk (i := 1) (rs := []) (by kernel_rfl) ?_)
      refine AllN.cons rfl ?_ ?_
      ·
       (refine oCall rfl (by kernel_rfl) (fun w hS => frame hS (by repeat' constructor) (fun B' hB hS' => prog_Graph hS' p _ (kApiProgram.K_grow hB hp) hsm B.e)) ?_; rintro ⟨A4, c4, hs4⟩ hl4)
       refine oSet (t := 4) (v' := .slice A4 (graphF p).length c4) rfl (by rw [hgl]) ?_
       refine oStepEnd (anMk (i := 5) (rs := []) (by kernel_rfl) ?_)
       refine AllN.cons rfl ?_ ?_
       ·
        (refine oCall rfl (by kernel_rfl) (fun w hS => frame' hS .nil (fun B' hB hR hS' => reach_any hS' (graphF p) A4 c4 (grid_C (kd := Kd.int .i64) (W := B.e) (ei := 3) (eo := 42) (W0 := B.e) (n := p.fFuns.length) (cp := c4) (hs := hs4) (A := A4) (xss := graphF p) (hR _ _ (by repeat constructor)) (hR _ _ (by repeat constructor)) (by rw [hl4, hgl]) hB) (grG_small hsm) [p.fEntry] (some ⟨b7, 0, none⟩) 1 (row_Cs (W := B.e) (e := 3) (n := 1) (cp := 1) (hR _ _ (by repeat constructor))) (by simp) W0)) ?_; rintro ⟨A8, c8, l8⟩ ⟨hl8, hr8⟩)
        obtain rfl := reach_uniq hl8 hr8
        rw [hgl]
        refine oStepEnd (anMk (i := 6) (rs := []) (by kernel_rfl) ?_)
        refine AllN.cons rfl ?_ ?_
        ·
         refine oAssign rfl (oStepEnd (anNil (by kernel_rfl) ?_))
         refine thn_n (wRet (fin_r (fi1 rfl ?_)))
         exact ⟨(A8, c8), trivial, rfl, Lh⟩
        exact AllN.nil
       exact AllN.nil
      exact AllN.nil
     exact AllN.nil
    refine AllN.cons rfl ?_ ?_
    ·
     refine oBuildSlice1 rfl rfl rfl rfl rfl (by repeat constructor) rfl (fun b7 => ?_)
     refine oConv (blk_row (enc := Value.int .i64) (h1 := fun _ => rfl) (W := B.e) (xs := ([p.fEntry] : List Int)) (n := 1) (by repeat constructor) rfl rfl (by decide)) ?_
     refine oStepEnd (anMk (i := 0) (rs := []) (by kernel_rfl) ?_)
     refine AllN.cons rfl ?_ ?_
     ·
      refine oLdA rfl (by repeat constructor) rfl (by repeat constructor) ?_
      refine oStepEnd (anMk (i := 1) (rs := []) (by kernel_rfl) ?_)
      refine AllN.cons rfl ?_ ?_
      ·
       (refine oCall rfl (by kernel_rfl) (fun w hS => frame hS (by repeat' constructor) (fun B' hB hS' => prog_Graph hS' p _ (kApiProgram.K_grow hB hp) hsm B.e)) ?_; rintro ⟨A4, c4, hs4⟩ hl4)
       refine oSet (t := 4) (v' := .slice A4 (graphF p).length c4) rfl (by rw [hgl]) ?_
       refine oStepEnd (anMk (i := 5) (rs := []) (by kernel_rfl) ?_)
       refine AllN.cons rfl ?_ ?_
       ·
        (refine oCall rfl (by kernel_rfl) (fun w hS => frame' hS .nil (fun B' hB hR hS' => reach_any hS' (graphF p) A4 c4 (grid_C (kd := Kd.int .i64) (W := B.e) (ei := 3) (eo := 42) (W0 := B.e) (n := p.fFuns.length) (cp := c4) (hs := hs4) (A := A4) (xss := graphF p) (hR _ _ (by repeat constructor)) (hR _ _ (by repeat constructor)) (by rw [hl4, hgl]) hB) (grG_small hsm) [p.fEntry] (some ⟨b7, 0, none⟩) 1 (row_Cs (W := B.e) (e := 3) (n := 1) (cp := 1) (hR _ _ (by repeat constructor))) (by simp) W0)) ?_; rintro ⟨A8, c8, l8⟩ ⟨hl8, hr8⟩)
        obtain rfl := reach_uniq hl8 hr8
        rw [hgl]
        refine oStepEnd (anMk (i := 6) (rs := []) (by kernel_rfl) ?_)
        refine AllN.cons rfl ?_ ?_
        ·
         refine oAssign rfl (oStepEnd (anNil (by kernel_rfl) ?_))
         refine thn_n (wRet (fin_r (fi1 rfl ?_)))
         exact ⟨(A8, c8), trivial, rfl, Lh⟩
        exact AllN.nil
       exact AllN.nil
      exact AllN.nil
     exact AllN.nil
    exact AllN.nil
   exact AllN.nil
  exact AllN.nil
end Go.Proofs.YtogaiijhicfoaaaGreatU
