import Derived.Test.YtogaiijhicfoaaaGreatUd

/-
  What is live, and taken: program and reference.
-/
namespace Go.Proofs.YtogaiijhicfoaaaGreatU
set_option linter.unusedVariables false
set_option linter.unusedSimpArgs false
open Go.RowKit Go.Proofs.YtogaiijhicfoaaaGreatK Go.Proofs.YtogaiijhicfoaaaGreatT Go.Proofs.YtogaiijhicfoaaaGreatL Go.Proofs.YtogaiijhicfoaaaGreatV Go.Proofs.YtogaiijhicfoaaaGreatG

open Classical in
noncomputable def reachB (g : Graph) (f : List Int) : List Bool := (List.range g.length).map fun i : Nat => decide (RP g f (i : Int))
theorem reachB_len (g : Graph) (f : List Int) : (reachB g f).length = g.length := by unfold reachB; simp
theorem reachB_at (g : Graph) (f : List Int) (i : Nat) : (reachB g f)[i]? = some true ↔ i < g.length ∧ RP g f (i : Int) := by
  unfold reachB
  rw [List.getElem?_map]
  by_cases hi : i < g.length
  · rw [List.getElem?_range hi]; simp [hi]
  · rw [List.getElem?_eq_none (by simpa using hi)]; simp [hi]
theorem bools_eq {a b : List Bool} (hl : a.length = b.length) (h : ∀ i : Nat, a[i]? = some true ↔ b[i]? = some true) : a = b := by
  apply List.ext_getElem?
  intro i
  have hi := h i
  cases ha : a[i]? with
  | none =>
    have := List.getElem?_eq_none_iff.1 ha
    rw [List.getElem?_eq_none (by omega)]
  | some x =>
    have hlt := (List.getElem?_eq_some_iff.1 ha).1
    cases hb : b[i]? with
    | none => have := List.getElem?_eq_none_iff.1 hb; omega
    | some y => rw [ha, hb] at hi; cases x <;> cases y <;> simp_all
theorem reach_uniq {g : Graph} {f : List Int} {l : List Bool} (hl : l.length = g.length) (h : ∀ i : Nat, l[i]? = some true ↔ RP g f (i : Int)) : reachB g f = l := by
  refine bools_eq (by rw [reachB_len, hl]) (fun i => ?_)
  rw [reachB_at, h i]
  refine ⟨fun k => k.2, fun k => ⟨?_, k⟩⟩
  have := (List.getElem?_eq_some_iff.1 ((h i).2 k)).1
  omega
theorem rows_small {p : ApiProgram} (hsm : SmallP p) {F : ApiFun → List Int} (hF : ∀ f, (F f).length ≤ 1000) : SmallG (p.fFuns.map F) := by
  have := hsm.funs
  refine ⟨by rw [List.length_map]; omega, fun l hl => ?_⟩
  obtain ⟨f, _, rfl⟩ := List.mem_map.1 hl
  exact hF f
theorem refG_small {p : ApiProgram} (hsm : SmallP p) : SmallG (p.fFuns.map (refersF p)) := rows_small hsm (fun f => by have := ris_len (directF p f ++ valuesF p f) p.fFuns.length; have := hsm.funs; unfold refersF; omega)
noncomputable def liveL (p : ApiProgram) : List Bool := reachB (p.fFuns.map (refersF p)) [p.fEntry]
theorem liveL_len (p : ApiProgram) : (liveL p).length = p.fFuns.length := by unfold liveL; rw [reachB_len, List.length_map]
set_option maxRecDepth 100000 in
set_option maxHeartbeats 1000000 in
theorem prog_Live {B : Base} {w : World} (hS : St B [] w) (p : ApiProgram) (pc : List Value) (hp : kApiProgram.K B.e p pc) (hsm : SmallP p) (W0 : World) :
    CallsIn Fence.wide 0 Tryz.prog 29 #[.agg pc.toArray] w (Ret B (fun _ : Option Addr × Nat => True) (fun z => .slice z.1 p.fFuns.length z.2) (fun z => [row Kd.bool W0 4 (.slice z.1 p.fFuns.length z.2) (liveL p)])) := by
  obtain ⟨A0, c0, A1, c1, rfl, l0, g0, l1, g1⟩ := kApiProgram_open hp
  have hgl : (p.fFuns.map (refersF p)).length = p.fFuns.length := List.length_map ..
  (refine enter Tryz.func29 rfl rfl hS ?_; simp only [List.zipIdx_cons, List.zipIdx_nil, List.map_cons, List.map_nil, Nat.reduceAdd, Nat.zero_add])
  refine wSeq (wRegion' (oBox rfl (by repeat constructor) (fun b1 => ?_)))
  refine oAssign rfl (oNil (thn_n (wSeq (wDrawN rfl rfl (anMk (i := 0) (rs := [2]) (by kernel_rfl) ?_)))))
  refine AllN.cons rfl ?_ ?_
  ·
   refine oLdA rfl (by repeat constructor) rfl (by repeat constructor) ?_
   refine oStepEnd (anMk (i := 1) (rs := [2]) (by kernel_rfl) ?_)
   refine AllN.cons rfl ?_ ?_
   ·
    (refine oCall rfl (by kernel_rfl) (fun w hS => frame hS (by repeat' constructor) (fun B' hB hS' => prog_Refers hS' p _ (kApiProgram.K_grow hB hp) hsm B.e)) ?_; rintro ⟨A4, c4, hs4⟩ hl4)
    refine oSet (t := 4) (v' := .slice A4 (p.fFuns.map (refersF p)).length c4) rfl (by rw [hgl]) ?_
    refine oStepEnd (anMk (i := 2) (rs := []) (by kernel_rfl) ?_)
    refine AllN.cons rfl ?_ ?_
    ·
     refine oFld (n := 2) (m := 2) rfl rfl rfl (oStepEnd (anMk (i := 3) (rs := []) (by kernel_rfl) ?_))
     refine AllN.cons rfl ?_ ?_
     ·
      refine oLd rfl (by repeat constructor) rfl rfl ?_
      refine oStepEnd (anMk (i := 4) (rs := []) (by kernel_rfl) ?_)
      refine AllN.cons rfl ?_ ?_
      ·
       refine oBuildSlice1 rfl rfl rfl rfl rfl (by repeat constructor) rfl (fun b7 => ?_)
       refine oConv (blk_row (enc := Value.int .i64) (h1 := fun _ => rfl) (W := B.e) (xs := ([p.fEntry] : List Int)) (n := 1) (by repeat constructor) rfl rfl (by decide)) ?_
       refine oStepEnd (anMk (i := 5) (rs := []) (by kernel_rfl) ?_)
       refine AllN.cons rfl ?_ ?_
       ·
        (refine oCall rfl (by kernel_rfl) (fun w hS => frame' hS .nil (fun B' hB hR hS' => reach_any hS' (p.fFuns.map (refersF p)) A4 c4 (grid_C (kd := Kd.int .i64) (W := B.e) (ei := 3) (eo := 42) (W0 := B.e) (n := p.fFuns.length) (cp := c4) (hs := hs4) (A := A4) (xss := p.fFuns.map (refersF p)) (hR _ _ (by repeat constructor)) (hR _ _ (by repeat constructor)) (by rw [hl4, hgl]) hB) (refG_small hsm) [p.fEntry] (some ⟨b7, 0, none⟩) 1 (row_Cs (W := B.e) (e := 3) (n := 1) (cp := 1) (hR _ _ (by repeat constructor))) (by simp) W0)) ?_; rintro ⟨A8, c8, l8⟩ ⟨hl8, hr8⟩)
        obtain rfl := reach_uniq hl8 hr8
        rw [hgl]
        refine oStepEnd (anMk (i := 6) (rs := []) (by kernel_rfl) ?_)
        refine AllN.cons rfl ?_ ?_
        ·
         refine oAssign rfl (oStepEnd (anNil (by kernel_rfl) ?_))
         refine thn_n (wRet (fin_r (fi1 rfl ?_)))
         exact ⟨(A8, c8), trivial, rfl, Lh⟩
        exact AllN.nil
       exact AllN.nil
      exact AllN.nil
     exact AllN.nil
    exact AllN.nil
   refine AllN.cons rfl ?_ ?_
   ·
    refine oFld (n := 2) (m := 2) rfl rfl rfl (oStepEnd (anMk (i := 1) (rs := [3]) (by kernel_rfl) ?_))
    refine AllN.cons rfl ?_ ?_
    ·
     (refine oCall rfl (by kernel_rfl) (fun w hS => frame hS (by repeat' constructor) (fun B' hB hS' => prog_Refers hS' p _ (kApiProgram.K_grow hB hp) hsm B.e)) ?_; rintro ⟨A4, c4, hs4⟩ hl4)
     refine oSet (t := 4) (v' := .slice A4 (p.fFuns.map (refersF p)).length c4) rfl (by rw [hgl]) ?_
     refine oStepEnd (anMk (i := 3) (rs := []) (by kernel_rfl) ?_)
     refine AllN.cons rfl ?_ ?_
     ·
      refine oLd rfl (by repeat constructor) rfl rfl ?_
      refine oStepEnd (anMk (i := 4) (rs := []) (by kernel_rfl) ?_)
      refine AllN.cons rfl ?_ ?_
      ·
       refine oBuildSlice1 rfl rfl rfl rfl rfl (by repeat constructor) rfl (fun b7 => ?_)
       refine oConv (blk_row (enc := Value.int .i64) (h1 := fun _ => rfl) (W := B.e) (xs := ([p.fEntry] : List Int)) (n := 1) (by repeat constructor) rfl rfl (by decide)) ?_
       refine oStepEnd (anMk (i := 5) (rs := []) (by kernel_rfl) ?_)
       refine AllN.cons rfl ?_ ?_
       ·
        (refine oCall rfl (by kernel_rfl) (fun w hS => frame' hS .nil (fun B' hB hR hS' => reach_any hS' (p.fFuns.map (refersF p)) A4 c4 (grid_C (kd := Kd.int .i64) (W := B.e) (ei := 3) (eo := 42) (W0 := B.e) (n := p.fFuns.length) (cp := c4) (hs := hs4) (A := A4) (xss := p.fFuns.map (refersF p)) (hR _ _ (by repeat constructor)) (hR _ _ (by repeat constructor)) (by rw [hl4, hgl]) hB) (refG_small hsm) [p.fEntry] (some ⟨b7, 0, none⟩) 1 (row_Cs (W := B.e) (e := 3) (n := 1) (cp := 1) (hR _ _ (by repeat constructor))) (by simp) W0)) ?_; rintro ⟨A8, c8, l8⟩ ⟨hl8, hr8⟩)
        obtain rfl := reach_uniq hl8 hr8
        rw [hgl]
        refine oStepEnd (anMk (i := 6) (rs := []) (by kernel_rfl) ?_)
        refine AllN.cons rfl ?_ ?_
        ·
         refine oAssign rfl (oStepEnd (anNil (by kernel_rfl) ?_))
         refine thn_n (wRet (fin_r (fi1 rfl ?_)))
         exact ⟨(A8, c8), trivial, rfl, Lh⟩
        exact AllN.nil
       exact AllN.nil
      exact AllN.nil
     exact AllN.nil
    refine AllN.cons rfl ?_ ?_
    ·
     refine oLd rfl (by repeat constructor) rfl rfl ?_
     refine oStepEnd (anMk (i := 1) (rs := [4]) (by kernel_rfl) ?_)
     refine AllN.cons rfl ?_ ?_
     ·
      (refine oCall rfl (by kernel_rfl) (fun w hS => frame hS (by repeat' constructor) (fun B' hB hS' => prog_Refers hS' p _ (kApiProgram.K_grow hB hp) hsm B.e)) ?_; rintro ⟨A4, c4, hs4⟩ hl4)
      refine oSet (t := 4) (v' := .slice A4 (p.fFuns.map (refersF p)).length c4) rfl (by rw [hgl]) ?_
      refine oStepEnd (anMk (i := 4) (rs := []) (by kernel_rfl) ?_)
      refine AllN.cons rfl ?_ ?_
      ·
       refine oBuildSlice1 rfl rfl rfl rfl rfl (by repeat constructor) rfl (fun b7 => ?_)
       refine oConv (blk_row (enc := Value.int .i64) (h1 := fun _ => rfl) (W := B.e) (xs := ([p.fEntry] : List Int)) (n := 1) (by repeat constructor) rfl rfl (by decide)) ?_
       refine oStepEnd (anMk (i := 5) (rs := []) (by kernel_rfl) ?_)
       refine AllN.cons rfl ?_ ?_
       ·
        (refine oCall rfl (by kernel_rfl) (fun w hS => frame' hS .nil (fun B' hB hR hS' => reach_any hS' (p.fFuns.map (refersF p)) A4 c4 (grid_C (kd := Kd.int .i64) (W := B.e) (ei := 3) (eo := 42) (W0 := B.e) (n := p.fFuns.length) (cp := c4) (hs := hs4) (A := A4) (xss := p.fFuns.map (refersF p)) (hR _ _ (by repeat constructor)) (hR _ _ (by repeat constructor)) (by rw [hl4, hgl]) hB) (refG_small hsm) [p.fEntry] (some ⟨b7, 0, none⟩) 1 (row_Cs (W := B.e) (e := 3) (n := 1) (cp := 1) (hR _ _ (by repeat constructor))) (by simp) W0)) ?_; rintro ⟨A8, c8, l8⟩ ⟨hl8, hr8⟩)
        obtain rfl := reach_uniq hl8 hr8
        rw [hgl]
        refine oStepEnd (anMk (i := 6) (rs := []) (by kernel_rfl) ?_)
        refine AllN.cons rfl ?_ ?_
        ·
         refine oAssign rfl (oStepEnd (anNil (by kernel_rfl) ?_))
         refine thn_n (wRet (fin_r (fi1 rfl ?_)))
         exact ⟨(A8, c8), trivial, rfl, Lh⟩
        exact AllN.nil
       exact AllN.nil
      exact AllN.nil
     refine AllN.cons rfl ?_ ?_
     ·
      refine oBuildSlice1 rfl rfl rfl rfl rfl (by repeat constructor) rfl (fun b7 => ?_)
      refine oConv (blk_row (enc := Value.int .i64) (h1 := fun _ => rfl) (W := B.e) (xs := ([p.fEntry] : List Int)) (n := 1) (by repeat constructor) rfl rfl (by decide)) ?_
      refine oStepEnd (anMk (i := 1) (rs := []) (by kernel_rfl) ?_)
      refine AllN.cons rfl ?_ ?_
      ·
       (refine oCall rfl (by kernel_rfl) (fun w hS => frame hS (by repeat' constructor) (fun B' hB hS' => prog_Refers hS' p _ (kApiProgram.K_grow hB hp) hsm B.e)) ?_; rintro ⟨A4, c4, hs4⟩ hl4)
       refine oSet (t := 4) (v' := .slice A4 (p.fFuns.map (refersF p)).length c4) rfl (by rw [hgl]) ?_
       refine oStepEnd (anMk (i := 5) (rs := []) (by kernel_rfl) ?_)
       refine AllN.cons rfl ?_ ?_
       ·
        (refine oCall rfl (by kernel_rfl) (fun w hS => frame' hS .nil (fun B' hB hR hS' => reach_any hS' (p.fFuns.map (refersF p)) A4 c4 (grid_C (kd := Kd.int .i64) (W := B.e) (ei := 3) (eo := 42) (W0 := B.e) (n := p.fFuns.length) (cp := c4) (hs := hs4) (A := A4) (xss := p.fFuns.map (refersF p)) (hR _ _ (by repeat constructor)) (hR _ _ (by repeat constructor)) (by rw [hl4, hgl]) hB) (refG_small hsm) [p.fEntry] (some ⟨b7, 0, none⟩) 1 (row_Cs (W := B.e) (e := 3) (n := 1) (cp := 1) (hR _ _ (by repeat constructor))) (by simp) W0)) ?_; rintro ⟨A8, c8, l8⟩ ⟨hl8, hr8⟩)
        obtain rfl := reach_uniq hl8 hr8
        rw [hgl]
        refine oStepEnd (anMk (i := 6) (rs := []) (by kernel_rfl) ?_)
        refine AllN.cons rfl ?_ ?_
        ·
         refine oAssign rfl (oStepEnd (anNil (by kernel_rfl) ?_))
         refine thn_n (wRet (fin_r (fi1 rfl ?_)))
         exact ⟨(A8, c8), trivial, rfl, Lh⟩
        exact AllN.nil
       exact AllN.nil
      exact AllN.nil
     exact AllN.nil
    exact AllN.nil
   exact AllN.nil
  refine AllN.cons rfl ?_ ?_
  ·
   refine oFld (n := 2) (m := 2) rfl rfl rfl (oStepEnd (anMk (i := 0) (rs := [3]) (by kernel_rfl) ?_))
   refine AllN.cons rfl ?_ ?_
   ·
    refine oLdA rfl (by repeat constructor) rfl (by repeat constructor) ?_
    refine oStepEnd (anMk (i := 1) (rs := [3]) (by kernel_rfl) ?_)
    refine AllN.cons rfl ?_ ?_
    ·
     (refine oCall rfl (by kernel_rfl) (fun w hS => frame hS (by repeat' constructor) (fun B' hB hS' => prog_Refers hS' p _ (kApiProgram.K_grow hB hp) hsm B.e)) ?_; rintro ⟨A4, c4, hs4⟩ hl4)
     refine oSet (t := 4) (v' := .slice A4 (p.fFuns.map (refersF p)).length c4) rfl (by rw [hgl]) ?_
     refine oStepEnd (anMk (i := 3) (rs := []) (by kernel_rfl) ?_)
     refine AllN.cons rfl ?_ ?_
     ·
      refine oLd rfl (by repeat constructor) rfl rfl ?_
      refine oStepEnd (anMk (i := 4) (rs := []) (by kernel_rfl) ?_)
      refine AllN.cons rfl ?_ ?_
      ·
       refine oBuildSlice1 rfl rfl rfl rfl rfl (by repeat constructor) rfl (fun b7 => ?_)
       refine oConv (blk_row (enc := Value.int .i64) (h1 := fun _ => rfl) (W := B.e) (xs := ([p.fEntry] : List Int)) (n := 1) (by repeat constructor) rfl rfl (by decide)) ?_
       refine oStepEnd (anMk (i := 5) (rs := []) (by kernel_rfl) ?_)
       refine AllN.cons rfl ?_ ?_
       ·
        (refine oCall rfl (by kernel_rfl) (fun w hS => frame' hS .nil (fun B' hB hR hS' => reach_any hS' (p.fFuns.map (refersF p)) A4 c4 (grid_C (kd := Kd.int .i64) (W := B.e) (ei := 3) (eo := 42) (W0 := B.e) (n := p.fFuns.length) (cp := c4) (hs := hs4) (A := A4) (xss := p.fFuns.map (refersF p)) (hR _ _ (by repeat constructor)) (hR _ _ (by repeat constructor)) (by rw [hl4, hgl]) hB) (refG_small hsm) [p.fEntry] (some ⟨b7, 0, none⟩) 1 (row_Cs (W := B.e) (e := 3) (n := 1) (cp := 1) (hR _ _ (by repeat constructor))) (by simp) W0)) ?_; rintro ⟨A8, c8, l8⟩ ⟨hl8, hr8⟩)
        obtain rfl := reach_uniq hl8 hr8
        rw [hgl]
        refine oStepEnd (anMk (i := 6) (rs := []) (by kernel_rfl) ?_)
        refine AllN.cons rfl ?_ ?_
        ·
         refine oAssign rfl (oStepEnd (anNil (by kernel_rfl) ?_))
         refine thn_n (wRet (fin_r (fi1 rfl ?_)))
         exact ⟨(A8, c8), trivial, rfl, Lh⟩
        exact AllN.nil
       exact AllN.nil
      exact AllN.nil
     exact AllN.nil
    refine AllN.cons rfl ?_ ?_
    ·
     refine oLd rfl (by repeat constructor) rfl rfl ?_
     refine oStepEnd (anMk (i := 1) (rs := [4]) (by kernel_rfl) ?_)
     refine AllN.cons rfl ?_ ?_
     ·
      (refine oCall rfl (by kernel_rfl) (fun w hS => frame hS (by repeat' constructor) (fun B' hB hS' => prog_Refers hS' p _ (kApiProgram.K_grow hB hp) hsm B.e)) ?_; rintro ⟨A4, c4, hs4⟩ hl4)
      refine oSet (t := 4) (v' := .slice A4 (p.fFuns.map (refersF p)).length c4) rfl (by rw [hgl]) ?_
      refine oStepEnd (anMk (i := 4) (rs := []) (by kernel_rfl) ?_)
      refine AllN.cons rfl ?_ ?_
      ·
       refine oBuildSlice1 rfl rfl rfl rfl rfl (by repeat constructor) rfl (fun b7 => ?_)
       refine oConv (blk_row (enc := Value.int .i64) (h1 := fun _ => rfl) (W := B.e) (xs := ([p.fEntry] : List Int)) (n := 1) (by repeat constructor) rfl rfl (by decide)) ?_
       refine oStepEnd (anMk (i := 5) (rs := []) (by kernel_rfl) ?_)
       refine AllN.cons rfl ?_ ?_
       ·
        (refine oCall rfl (by kernel_rfl) (fun w hS => frame' hS .nil (fun B' hB hR hS' => reach_any hS' (p.fFuns.map (refersF p)) A4 c4 (grid_C (kd := Kd.int .i64) (W := B.e) (ei := 3) (eo := 42) (W0 := B.e) (n := p.fFuns.length) (cp := c4) (hs := hs4) (A := A4) (xss := p.fFuns.map (refersF p)) (hR _ _ (by repeat constructor)) (hR _ _ (by repeat constructor)) (by rw [hl4, hgl]) hB) (refG_small hsm) [p.fEntry] (some ⟨b7, 0, none⟩) 1 (row_Cs (W := B.e) (e := 3) (n := 1) (cp := 1) (hR _ _ (by repeat constructor))) (by simp) W0)) ?_; rintro ⟨A8, c8, l8⟩ ⟨hl8, hr8⟩)
        obtain rfl := reach_uniq hl8 hr8
        rw [hgl]
        refine oStepEnd (anMk (i := 6) (rs := []) (by kernel_rfl) ?_)
        refine AllN.cons rfl ?_ ?_
        ·
         refine oAssign rfl (oStepEnd (anNil (by kernel_rfl) ?_))
         refine thn_n (wRet (fin_r (fi1 rfl ?_)))
         exact ⟨(A8, c8), trivial, rfl, Lh⟩
        exact AllN.nil
       exact AllN.nil
      exact AllN.nil
     refine AllN.cons rfl ?_ ?_
     ·
      refine oBuildSlice1 rfl rfl rfl rfl rfl (by repeat constructor) rfl (fun b7 => ?_)
      refine oConv (blk_row (enc := Value.int .i64) (h1 := fun _ => rfl) (W := B.e) (xs := ([p.fEntry] : List Int)) (n := 1) (by repeat constructor) rfl rfl (by decide)) ?_
      refine oStepEnd (anMk (i := 1) (rs := []) (by kernel_rfl) ?_)
      refine AllN.cons rfl ?_ ?_
      ·
       (refine oCall rfl (by kernel_rfl) (fun w hS => frame hS (by repeat' constructor) (fun B' hB hS' => prog_Refers hS' p _ (kApiProgram.K_grow hB hp) hsm B.e)) ?_; rintro ⟨A4, c4, hs4⟩ hl4)
       refine oSet (t := 4) (v' := .slice A4 (p.fFuns.map (refersF p)).length c4) rfl (by rw [hgl]) ?_
       refine oStepEnd (anMk (i := 5) (rs := []) (by kernel_rfl) ?_)
       refine AllN.cons rfl ?_ ?_
       ·
        (refine oCall rfl (by kernel_rfl) (fun w hS => frame' hS .nil (fun B' hB hR hS' => reach_any hS' (p.fFuns.map (refersF p)) A4 c4 (grid_C (kd := Kd.int .i64) (W := B.e) (ei := 3) (eo := 42) (W0 := B.e) (n := p.fFuns.length) (cp := c4) (hs := hs4) (A := A4) (xss := p.fFuns.map (refersF p)) (hR _ _ (by repeat constructor)) (hR _ _ (by repeat constructor)) (by rw [hl4, hgl]) hB) (refG_small hsm) [p.fEntry] (some ⟨b7, 0, none⟩) 1 (row_Cs (W := B.e) (e := 3) (n := 1) (cp := 1) (hR _ _ (by repeat constructor))) (by simp) W0)) ?_; rintro ⟨A8, c8, l8⟩ ⟨hl8, hr8⟩)
        obtain rfl := reach_uniq hl8 hr8
        rw [hgl]
        refine oStepEnd (anMk (i := 6) (rs := []) (by kernel_rfl) ?_)
        refine AllN.cons rfl ?_ ?_
        ·
         refine oAssign rfl (oStepEnd (anNil (by kernel_rfl) ?_))
         refine thn_n (wRet (fin_r (fi1 rfl ?_)))
         exact ⟨(A8, c8), trivial, rfl, Lh⟩
        exact AllN.nil
       exact AllN.nil
      exact AllN.nil
     exact AllN.nil
    exact AllN.nil
   refine AllN.cons rfl ?_ ?_
   ·
    refine oLd rfl (by repeat constructor) rfl rfl ?_
    refine oStepEnd (anMk (i := 0) (rs := [4]) (by kernel_rfl) ?_)
    refine AllN.cons rfl ?_ ?_
    ·
     refine oLdA rfl (by repeat constructor) rfl (by repeat constructor) ?_
     refine oStepEnd (anMk (i := 1) (rs := [4]) (by kernel_rfl) ?_)
     refine AllN.cons rfl ?_ ?_
     ·
      (refine oCall rfl (by kernel_rfl) (fun w hS => frame hS (by repeat' constructor) (fun B' hB hS' => prog_Refers hS' p _ (kApiProgram.K_grow hB hp) hsm B.e)) ?_; rintro ⟨A4, c4, hs4⟩ hl4)
      refine oSet (t := 4) (v' := .slice A4 (p.fFuns.map (refersF p)).length c4) rfl (by rw [hgl]) ?_
      refine oStepEnd (anMk (i := 4) (rs := []) (by kernel_rfl) ?_)
      refine AllN.cons rfl ?_ ?_
      ·
       refine oBuildSlice1 rfl rfl rfl rfl rfl (by repeat constructor) rfl (fun b7 => ?_)
       refine oConv (blk_row (enc := Value.int .i64) (h1 := fun _ => rfl) (W := B.e) (xs := ([p.fEntry] : List Int)) (n := 1) (by repeat constructor) rfl rfl (by decide)) ?_
       refine oStepEnd (anMk (i := 5) (rs := []) (by kernel_rfl) ?_)
       refine AllN.cons rfl ?_ ?_
       ·
        (refine oCall rfl (by kernel_rfl) (fun w hS => frame' hS .nil (fun B' hB hR hS' => reach_any hS' (p.fFuns.map (refersF p)) A4 c4 (grid_C (kd := Kd.int .i64) (W := B.e) (ei := 3) (eo := 42) (W0 := B.e) (n := p.fFuns.length) (cp := c4) (hs := hs4) (A := A4) (xss := p.fFuns.map (refersF p)) (hR _ _ (by repeat constructor)) (hR _ _ (by repeat constructor)) (by rw [hl4, hgl]) hB) (refG_small hsm) [p.fEntry] (some ⟨b7, 0, none⟩) 1 (row_Cs (W := B.e) (e := 3) (n := 1) (cp := 1) (hR _ _ (by repeat constructor))) (by simp) W0)) ?_; rintro ⟨A8, c8, l8⟩ ⟨hl8, hr8⟩)
        obtain rfl := reach_uniq hl8 hr8
        rw [hgl]
        refine oStepEnd (anMk (i := 6) (rs := []) (by kernel_rfl) ?_)
        refine AllN.cons rfl ?_ ?_
        ·
         refine oAssign rfl (oStepEnd (anNil (by kernel_rfl) ?_))
         refine thn_n (wRet (fin_r (fi1 rfl ?_)))
         exact ⟨(A8, c8), trivial, rfl, Lh⟩
        exact AllN.nil
       exact AllN.nil
      exact AllN.nil
     refine AllN.cons rfl ?_ ?_
     ·
      refine oBuildSlice1 rfl rfl rfl rfl rfl (by repeat constructor) rfl (fun b7 => ?_)
      refine oConv (blk_row (enc := Value.int .i64) (h1 := fun _ => rfl) (W := B.e) (xs := ([p.fEntry] : List Int)) (n := 1) (by repeat constructor) rfl rfl (by decide)) ?_
      refine oStepEnd (anMk (i := 1) (rs := []) (by kernel_rfl) ?_)
      refine AllN.cons rfl ?_ ?_
      ·
       (refine oCall rfl (by kernel_rfl) (fun w hS => frame hS (by repeat' constructor) (fun B' hB hS' => prog_Refers hS' p _ (kApiProgram.K_grow hB hp) hsm B.e)) ?_; rintro ⟨A4, c4, hs4⟩ hl4)
       refine oSet (t := 4) (v' := .slice A4 (p.fFuns.map (refersF p)).length c4) rfl (by rw [hgl]) ?_
       refine oStepEnd (anMk (i := 5) (rs := []) (by kernel_rfl) ?_)
       refine AllN.cons rfl ?_ ?_
       ·
        (refine oCall rfl (by kernel_rfl) (fun w hS => frame' hS .nil (fun B' hB hR hS' => reach_any hS' (p.fFuns.map (refersF p)) A4 c4 (grid_C (kd := Kd.int .i64) (W := B.e) (ei := 3) (eo := 42) (W0 := B.e) (n := p.fFuns.length) (cp := c4) (hs := hs4) (A := A4) (xss := p.fFuns.map (refersF p)) (hR _ _ (by repeat constructor)) (hR _ _ (by repeat constructor)) (by rw [hl4, hgl]) hB) (refG_small hsm) [p.fEntry] (some ⟨b7, 0, none⟩) 1 (row_Cs (W := B.e) (e := 3) (n := 1) (cp := 1) (hR _ _ (by repeat constructor))) (by simp) W0)) ?_; rintro ⟨A8, c8, l8⟩ ⟨hl8, hr8⟩)
        obtain rfl := reach_uniq hl8 hr8
        rw [hgl]
        refine oStepEnd (anMk (i := 6) (rs := []) (by kernel_rfl) ?_)
        refine AllN.cons rfl ?_ ?_
        ·
         refine oAssign rfl (oStepEnd (anNil (by kernel_rfl) ?_))
         refine thn_n (wRet (fin_r (fi1 rfl ?_)))
         exact ⟨(A8, c8), trivial, rfl, Lh⟩
        exact AllN.nil
       exact AllN.nil
      exact AllN.nil
     exact AllN.nil
    refine AllN.cons rfl ?_ ?_
    ·
     refine oBuildSlice1 rfl rfl rfl rfl rfl (by repeat constructor) rfl (fun b7 => ?_)
     refine oConv (blk_row (enc := Value.int .i64) (h1 := fun _ => rfl) (W := B.e) (xs := ([p.fEntry] : List Int)) (n := 1) (by repeat constructor) rfl rfl (by decide)) ?_
     refine oStepEnd (anMk (i := 0) (rs := []) (by kernel_rfl) ?_)
     refine AllN.cons rfl ?_ ?_
     ·
      refine oLdA rfl (by repeat constructor) rfl (by repeat constructor) ?_
      refine oStepEnd (anMk (i := 1) (rs := []) (by kernel_rfl) ?_)
      refine AllN.cons rfl ?_ ?_
      ·
       (refine oCall rfl (by kernel_rfl) (fun w hS => frame hS (by repeat' constructor) (fun B' hB hS' => prog_Refers hS' p _ (kApiProgram.K_grow hB hp) hsm B.e)) ?_; rintro ⟨A4, c4, hs4⟩ hl4)
       refine oSet (t := 4) (v' := .slice A4 (p.fFuns.map (refersF p)).length c4) rfl (by rw [hgl]) ?_
       refine oStepEnd (anMk (i := 5) (rs := []) (by kernel_rfl) ?_)
       refine AllN.cons rfl ?_ ?_
       ·
        (refine oCall rfl (by kernel_rfl) (fun w hS => frame' hS .nil (fun B' hB hR hS' => reach_any hS' (p.fFuns.map (refersF p)) A4 c4 (grid_C (kd := Kd.int .i64) (W := B.e) (ei := 3) (eo := 42) (W0 := B.e) (n := p.fFuns.length) (cp := c4) (hs := hs4) (A := A4) (xss := p.fFuns.map (refersF p)) (hR _ _ (by repeat constructor)) (hR _ _ (by repeat constructor)) (by rw [hl4, hgl]) hB) (refG_small hsm) [p.fEntry] (some ⟨b7, 0, none⟩) 1 (row_Cs (W := B.e) (e := 3) (n := 1) (cp := 1) (hR _ _ (by repeat constructor))) (by simp) W0)) ?_; rintro ⟨A8, c8, l8⟩ ⟨hl8, hr8⟩)
        obtain rfl := reach_uniq hl8 hr8
        rw [hgl]
        refine oStepEnd (anMk (i := 6) (rs := []) (by kernel_rfl) ?_)
        refine AllN.cons rfl ?_ ?_
        ·
         refine oAssign rfl (oStepEnd (anNil (by kernel_rfl) ?_))
         refine thn_n (wRet (fin_r (fi1 rfl ?_)))
         exact ⟨(A8, c8), trivial, rfl, Lh⟩
        exact AllN.nil
       exact AllN.nil
      exact AllN.nil
     exact AllN.nil
    exact AllN.nil
   exact AllN.nil
  exact AllN.nil
def lv (p : ApiProgram) (i : Nat) : Prop := (liveL p)[i]? = some true
open Classical in
noncomputable def takenL (p : ApiProgram) : List Bool := (List.range p.fFuns.length).map fun k : Nat => decide (∃ (i : Nat) (f : ApiFun), p.fFuns[i]? = some f ∧ lv p i ∧ (k : Int) ∈ valuesF p f)
theorem takenL_len (p : ApiProgram) : (takenL p).length = p.fFuns.length := by unfold takenL; simp
theorem takenL_at (p : ApiProgram) (k : Nat) : (takenL p)[k]? = some true ↔ k < p.fFuns.length ∧ ∃ (i : Nat) (f : ApiFun), p.fFuns[i]? = some f ∧ lv p i ∧ (k : Int) ∈ valuesF p f := by
  unfold takenL
  rw [List.getElem?_map]
  by_cases hi : k < p.fFuns.length
  · rw [List.getElem?_range hi]; simp [hi]
  · rw [List.getElem?_eq_none (by simpa using hi)]; simp [hi]
theorem set_id {α : Type} {l : List α} {i : Nat} {u : α} (h : l[i]? = some u) : l.set i u = l := by
  obtain ⟨hi, rfl⟩ := List.getElem?_eq_some_iff.1 h
  simp
structure TK (p : ApiProgram) (i j : Nat) (out : List Bool) : Prop where
  len : out.length = p.fFuns.length
  at_ : ∀ k : Nat, out[k]? = some true ↔ (∃ (i' : Nat) (f : ApiFun), i' < i ∧ p.fFuns[i']? = some f ∧ lv p i' ∧ (k : Int) ∈ valuesF p f) ∨ (lv p i ∧ ∃ f, p.fFuns[i]? = some f ∧ (k : Int) ∈ (valuesF p f).take j)
theorem TK.zero (p : ApiProgram) : TK p 0 0 (List.replicate p.fFuns.length false) := by
  refine ⟨by simp, fun k => ?_⟩
  rw [List.getElem?_replicate]
  simp
theorem TK.next {p : ApiProgram} {i : Nat} {f : ApiFun} {out : List Bool} (hf : p.fFuns[i]? = some f) (h : TK p i (valuesF p f).length out) : TK p (i + 1) 0 out := by
  refine ⟨h.len, fun k => ?_⟩
  rw [h.at_ k]
  constructor
  · rintro (⟨i', f', h1, h2, h3, h4⟩ | ⟨h1, f', h2, h3⟩)
    · exact .inl ⟨i', f', by omega, h2, h3, h4⟩
    · rw [hf] at h2
      obtain rfl := Option.some.inj h2
      rw [List.take_length] at h3
      exact .inl ⟨i, f, by omega, hf, h1, h3⟩
  · rintro (⟨i', f', h1, h2, h3, h4⟩ | ⟨h1, f', h2, h3⟩)
    · by_cases e : i' = i
      · subst e
        rw [hf] at h2
        obtain rfl := Option.some.inj h2
        exact .inr ⟨h3, f, hf, by rw [List.take_length]; exact h4⟩
      · exact .inl ⟨i', f', by omega, h2, h3, h4⟩
    · rw [List.take_zero] at h3; cases h3
theorem TK.skip {p : ApiProgram} {i j : Nat} {out : List Bool} (hn : ¬ lv p i) (h : TK p i j out) (j' : Nat) : TK p i j' out :=
  ⟨h.len, fun k => by
    rw [h.at_ k]
    constructor
    · rintro (h1 | h1)
      · exact .inl h1
      · exact absurd h1.1 hn
    · rintro (h1 | h1)
      · exact .inl h1
      · exact absurd h1.1 hn⟩
theorem TK.put {p : ApiProgram} {i j k : Nat} {f : ApiFun} {out : List Bool} (hf : p.fFuns[i]? = some f) (hx : (valuesF p f)[j]? = some (k : Int)) (hk : k < p.fFuns.length) (hl : lv p i) (h : TK p i j out) : TK p i (j + 1) (out.set k true) := by
  refine ⟨by rw [List.length_set]; exact h.len, fun m => ?_⟩
  rw [List.getElem?_set]
  have hol := h.len
  by_cases e : k = m
  · subst e
    rw [if_pos rfl, if_pos (by omega)]
    exact ⟨fun _ => .inr ⟨hl, f, hf, by rw [List.take_add_one, hx]; simp⟩, fun _ => rfl⟩
  · rw [if_neg e, h.at_ m]
    constructor
    · rintro (h1 | ⟨h1, f', h2, h3⟩)
      · exact .inl h1
      · exact .inr ⟨h1, f', h2, List.mem_of_mem_take (i := j) (by rw [List.take_take, Nat.min_eq_left (by omega)]; exact h3)⟩
    · rintro (h1 | ⟨h1, f', h2, h3⟩)
      · exact .inl h1
      · rw [hf] at h2
        obtain rfl := Option.some.inj h2
        rw [List.take_add_one, hx] at h3
        rcases List.mem_append.1 h3 with h3 | h3
        · exact .inr ⟨h1, f, hf, h3⟩
        · simp at h3; omega
theorem TK.or {p : ApiProgram} {i j k : Nat} {f : ApiFun} {out : List Bool} {u b : Bool} (hf : p.fFuns[i]? = some f) (hx : (valuesF p f)[j]? = some (k : Int)) (hk : k < p.fFuns.length) (hu : out[k]? = some u) (hb : b = true ↔ lv p i) (h : TK p i j out) : TK p i (j + 1) (out.set k (u || b)) := by
  cases b with
  | true =>
    rw [Bool.or_true]
    exact h.put hf hx hk (hb.1 rfl)
  | false =>
    rw [Bool.or_false, set_id hu]
    exact h.skip (fun hl => by have := hb.2 hl; cases this) _
theorem TK.done {p : ApiProgram} {out : List Bool} (h : TK p p.fFuns.length 0 out) : out = takenL p := by
  refine bools_eq (by rw [h.len, takenL_len]) (fun k => ?_)
  rw [h.at_ k, takenL_at]
  constructor
  · rintro (⟨i', f', h1, h2, h3, h4⟩ | ⟨h1, f', h2, h3⟩)
    · have := (mem_ris.1 h4).2
      exact ⟨by omega, i', f', h2, h3, h4⟩
    · rw [List.take_zero] at h3; cases h3
  · rintro ⟨_, i', f', h2, h3, h4⟩
    exact .inl ⟨i', f', (List.getElem?_eq_some_iff.1 h2).1, h2, h3, h4⟩
set_option maxRecDepth 100000 in
set_option maxHeartbeats 2000000 in
theorem prog_Taken {B : Base} {w : World} (hS : St B [] w) (p : ApiProgram) (pc : List Value) (hp : kApiProgram.K B.e p pc) (hsm : SmallP p) (W0 : World) :
    CallsIn Fence.wide 0 Tryz.prog 31 #[.agg pc.toArray] w (Ret B (fun _ : Option Addr × Nat => True) (fun z => .slice z.1 p.fFuns.length z.2) (fun z => [row Kd.bool W0 4 (.slice z.1 p.fFuns.length z.2) (takenL p)])) := by
  obtain ⟨A0, c0, A1, c1, rfl, l0, g0, l1, g1⟩ := kApiProgram_open hp
  have hn := hsm.funs
  have hll := liveL_len p
  (refine enter Tryz.func31 rfl rfl hS ?_; simp only [List.zipIdx_cons, List.zipIdx_nil, List.map_cons, List.map_nil, Nat.reduceAdd, Nat.zero_add])
  refine wSeq (wRegion' (oBox rfl (by repeat constructor) (fun b1 => ?_)))
  refine oAssign rfl (oNil (thn_n (wSeq (wRegion' (oFld (n := 0) (m := 0) rfl rfl rfl (oLd rfl (by repeat constructor) rfl rfl ?_))))))
  refine oLenS rfl rfl (oMake (kd := Kd.bool) (W := W0) false rfl rfl rfl rfl rfl rfl (by omega) rfl (fun g12 => ?_))
  refine oAssign rfl (oNil (thn_n (wSeq (wRegion' (oLdA rfl (by repeat constructor) rfl (by repeat constructor) ?_)))))
  (refine oCall rfl (by kernel_rfl) (fun w hS => frame hS (by repeat' constructor) (fun B' hB hS' => prog_Values hS' p _ (kApiProgram.K_grow hB hp) hsm B.e)) ?_; rintro ⟨A14, c14, hs14⟩ hl14)
  refine oAssign rfl (oNil (thn_n (wFreeze [row kHdr B.e 42 (.slice A14 p.fFuns.length c14) hs14, bun (rws (Kd.int .i64) B.e 3 hs14 (p.fFuns.map (valuesF p)))] (by repeat' constructor) (fun B1 hB1 hq1 => ?_))))
  have hV : (Kd.slice (Kd.int .i64)).C B1.e A14 (p.fFuns.map (valuesF p)) := grid_C (kd := Kd.int .i64) (W := B.e) (W0 := B.e) (n := p.fFuns.length) (cp := c14) (hq1 _ _ (by repeat constructor)) (hq1 _ _ (by repeat constructor)) (by rw [hl14, List.length_map]) hB1
  have hp1 := kApiProgram.K_grow hB1 hp
  refine wSeq (wSeq (wRegion' (oLdA rfl (by repeat constructor) rfl (by repeat constructor) ?_)))
  (refine oCall rfl (by kernel_rfl) (fun w hS => frame hS (by repeat' constructor) (fun B' hB hS' => prog_Live hS' p _ (kApiProgram.K_grow hB hp1) hsm B1.e)) ?_; rintro ⟨A16, c16⟩ -)
  refine oLenS rfl rfl (oMove rfl (oNil (thn_n (wBlock (wLoop (ι := Nat × List Bool) (fun z => [(3, .slice (some ⟨g12, 0, none⟩) p.fFuns.length p.fFuns.length), (4, .slice A14 p.fFuns.length c14), (16, .slice A16 p.fFuns.length c16), (17, .int .i64 (p.fFuns.length : Int)), (18, .int .i64 (z.1 : Int))]) (fun z => [row Kd.bool W0 4 (.slice (some ⟨g12, 0, none⟩) p.fFuns.length p.fFuns.length) z.2, row Kd.bool B1.e 4 (.slice A16 p.fFuns.length c16) (liveL p)]) (fun z => z.1 ≤ p.fFuns.length ∧ TK p z.1 0 z.2) (fun z => p.fFuns.length - z.1) (0, List.replicate p.fFuns.length false) ?_ cv Lh ?_)))))
  ·
   exact ⟨Nat.zero_le _, TK.zero p⟩
  rintro ⟨i, out⟩ ⟨hi, hT⟩
  dsimp only at hi hT
  try dsimp only
  refine wSeq (wRegion' (oLss rfl rfl (oNil (thn_n (wSeq (wC (fun h19 => ?_) (fun h19 => ?_)))))))
  ·
   obtain ⟨f, hf⟩ : ∃ f, p.fFuns[i]? = some f := ⟨_, List.getElem?_eq_getElem (by omega)⟩
   obtain ⟨e1, cs1, hE⟩ := hV.elm (i := i) (u := valuesF p f) (by rw [List.getElem?_map, hf]; rfl)
   obtain ⟨X1, n1, rfl, hn1, hX1⟩ := hE.K
   have hvl := ris_len (takenF p f) p.fFuns.length
   have hvl2 : (valuesF p f).length ≤ p.fFuns.length := hvl
   have hil : i < p.fFuns.length := by omega
   refine wSkip (thn_n (wSeq (wBlock (wSeq (wRegion' (oMove rfl (oIdxR rfl rfl (by repeat constructor) (by omega) rfl rfl (fun g21 hg21 => ?_))))))))
   first | subst hg21 | (injection hg21 with hg21; injection hg21 with hg21; subst hg21)
   first | refine oLdX rfl hc21 rfl rfl ?_ | refine oLdXA rfl hc21 rfl (by repeat constructor) ?_ | (refine oLdR1 rfl (by repeat constructor) (by omega) rfl (fun u22 hu22 => ?_))
   have hlv : u22 = true ↔ lv p i := by unfold lv; rw [hu22]; simp
   refine oAssign rfl (oAssign rfl (oNil (thn_n (wSeq (wRegion' (oMove rfl (oMove rfl (oIdxE rfl rfl (hE) (by omega) rfl rfl ?_))))))))
   have hc25 := (hE).cell
   first | refine oLdX rfl hc25 rfl rfl ?_ | refine oLdXA rfl hc25 rfl (by repeat constructor) ?_ | (refine oLdR1 rfl (by repeat constructor) (by omega) rfl (fun u26 hu26 => ?_))
   refine oLenS rfl rfl (oMove rfl (oNil (thn_n (wBlock (wLoop (ι := Nat × List Bool) (fun z => [(3, .slice (some ⟨g12, 0, none⟩) p.fFuns.length p.fFuns.length), (4, .slice A14 p.fFuns.length c14), (6, .bool u22), (16, .slice (some ⟨g21, 0, none⟩) p.fFuns.length c16), (17, .int .i64 (p.fFuns.length : Int)), (18, .int .i64 (i : Int)), (26, .slice X1 (valuesF p f).length n1), (27, .int .i64 ((valuesF p f).length : Int)), (28, .int .i64 (z.1 : Int))]) (fun z => [row Kd.bool W0 4 (.slice (some ⟨g12, 0, none⟩) p.fFuns.length p.fFuns.length) z.2, row Kd.bool B1.e 4 (.slice (some ⟨g21, 0, none⟩) p.fFuns.length c16) (liveL p)]) (fun z => z.1 ≤ (valuesF p f).length ∧ TK p i z.1 z.2) (fun z => (valuesF p f).length - z.1) (0, out) ?_ cv Lh ?_)))))
   ·
    exact ⟨Nat.zero_le _, hT⟩
   rintro ⟨j, out⟩ ⟨hj, hT⟩
   dsimp only at hj hT
   have hol := hT.len
   try dsimp only
   refine wSeq (wRegion' (oLss rfl rfl (oNil (thn_n (wSeq (wC (fun h29 => ?_) (fun h29 => ?_)))))))
   ·
    obtain ⟨x, hx⟩ : ∃ x, (valuesF p f)[j]? = some x := ⟨_, List.getElem?_eq_getElem (by omega)⟩
    obtain ⟨e2, cs2, hE2⟩ := hX1.elm hx
    obtain rfl := (show cs2 = [Value.int .i64 x] from hE2.K)
    obtain ⟨k, rfl⟩ := Int.eq_ofNat_of_zero_le (show 0 ≤ x from (mem_ris.1 (List.mem_of_getElem? hx)).2.1)
    have hk : k < p.fFuns.length := by have := (mem_ris.1 (List.mem_of_getElem? hx)).2.2; omega
    refine wSkip (thn_n (wSeq (wBlock (wSeq (wRegion' (oIdxE rfl rfl (hE2) (by omega) rfl rfl ?_))))))
    have hc30 := (hE2).cell
    first | refine oLdX rfl hc30 rfl rfl ?_ | refine oLdXA rfl hc30 rfl (by repeat constructor) ?_ | (refine oLdR1 rfl (by repeat constructor) (by omega) rfl (fun u31 hu31 => ?_))
    refine oAssign rfl (oNil (thn_n (wRegion' (oMove rfl (oMove rfl (oMove rfl (oMove rfl (oIdxR rfl rfl (by repeat constructor) (by omega) rfl rfl (fun g36 hg36 => ?_)))))))))
    first | subst hg36 | (injection hg36 with hg36; injection hg36 with hg36; subst hg36)
    first | refine oLdX rfl hc36 rfl rfl ?_ | refine oLdXA rfl hc36 rfl (by repeat constructor) ?_ | (refine oLdR1 rfl (by repeat constructor) (by omega) rfl (fun u37 hu37 => ?_))
    refine oMove rfl ?_
    first | refine oSplit (t := 38) rfl (fun h38 => ?_) (fun h38 => ?_) | refine oSplitB (t := 38) rfl (fun h38 => ?_) (fun h38 => ?_)
    ·
     refine oSkip rfl rfl rfl rfl (oPickT rfl rfl (oIdxR rfl rfl (by repeat constructor) (by omega) rfl rfl (fun g41 hg41 => ?_)))
     first | subst hg41 | (injection hg41 with hg41; injection hg41 with hg41; subst hg41)
     refine oStR _ rfl rfl rfl rfl (by repeat constructor) (by first | omega | (simp only [List.length_set]; omega)) ?_
     refine oNil (blk_n (thn_n (wRegion' (oSucc rfl rfl (by omega) ?_))))
     refine oMove rfl (oNil (thn_n ?_))
     exact ⟨rfl, (j + 1, out.set k true), ⟨by show j + 1 ≤ _; omega, by have := hT.or hf hx hk hu37 hlv; rw [h38, Bool.true_or] at this; exact this⟩, by show (valuesF p f).length - (j + 1) < (valuesF p f).length - j; omega, cv, Lh⟩
    refine oWant rfl rfl (oMove rfl (oPickF rfl rfl (oIdxR rfl rfl (by repeat constructor) (by omega) rfl rfl (fun g41 hg41 => ?_))))
    first | subst hg41 | (injection hg41 with hg41; injection hg41 with hg41; subst hg41)
    refine oStR _ rfl rfl rfl rfl (by repeat constructor) (by first | omega | (simp only [List.length_set]; omega)) ?_
    refine oNil (blk_n (thn_n (wRegion' (oSucc rfl rfl (by omega) ?_))))
    refine oMove rfl (oNil (thn_n ?_))
    exact ⟨rfl, (j + 1, out.set k u22), ⟨by show j + 1 ≤ _; omega, by have := hT.or hf hx hk hu37 hlv; rw [h38, Bool.false_or] at this; exact this⟩, by show (valuesF p f).length - (j + 1) < (valuesF p f).length - j; omega, cv, Lh⟩
   obtain rfl : j = (valuesF p f).length := by omega
   refine wExit (thn_x (thn_x (blk_x (blk_n (thn_n (wRegion' (oSucc rfl rfl (by omega) ?_)))))))
   refine oMove rfl (oNil (thn_n ?_))
   exact ⟨rfl, (i + 1, out), ⟨by show i + 1 ≤ _; omega, TK.next hf hT⟩, by show p.fFuns.length - (i + 1) < p.fFuns.length - i; omega, cv, Lh⟩
  obtain rfl : i = p.fFuns.length := by omega
  obtain rfl := TK.done hT
  refine wExit (thn_x (thn_x (blk_x (thn_n (wSeq (wRegion' (oMove rfl (oAssign rfl (oNil (thn_n (wRet ?_)))))))))))
  refine fin_r (fi1 rfl ?_)
  exact ⟨(some ⟨g12, 0, none⟩, p.fFuns.length), trivial, rfl, Lh⟩
end Go.Proofs.YtogaiijhicfoaaaGreatU
