import Derived.Test.YtogaiijhicfoaaaGreatUm

/-
  What is live: the second statement.
-/
namespace Go.Proofs.YtogaiijhicfoaaaGreatU
set_option linter.unusedVariables false
set_option linter.unusedSimpArgs false
open Go.RowKit Go.Proofs.YtogaiijhicfoaaaGreatK Go.Proofs.YtogaiijhicfoaaaGreatT Go.Proofs.YtogaiijhicfoaaaGreatL Go.Proofs.YtogaiijhicfoaaaGreatV Go.Proofs.YtogaiijhicfoaaaGreatG Go.Proofs.YtogaiijhicfoaaaGreatW

theorem sumO_mono {fn : Bool} {l : List ApiObject} (n : Nat) : ∀ m, sumO fn l n ≤ sumO fn l (n + m)
  | 0 => Nat.le_refl _
  | m + 1 => by
    have ih := sumO_mono (fn := fn) (l := l) n m
    rw [← Nat.add_assoc]
    cases ho : l[n + m]? with
    | none =>
      have : l.take (n + m + 1) = l.take (n + m) := by rw [List.take_add_one, ho]; simp
      have h2 : sumO fn l (n + m + 1) = sumO fn l (n + m) := by unfold sumO; rw [this]
      omega
    | some o => rw [sumO_succ ho]; split <;> omega
theorem bind_in {l : List ApiObject} {s : ByteArray} (h : (bindR l s).1 = 0) : ∃ e : Nat, (bindP l s).fEntry = (e : Int) ∧ e < (bindP l s).fFuns.length := by
  have hP : bindP l s = ⟨funsTo l l.length, datsTo l l.length, numberF l (fnd l s).1 (fnd l s).2.1⟩ := by unfold bindP; rw [if_pos h]
  unfold bindR at h
  split at h
  · exact absurd h (by decide)
  split at h
  · next h1 =>
    exfalso
    obtain ⟨k, x, hk, hx, hp⟩ := idxI_at h1
    rw [hk, Int.toNat_natCast, objAt_eq hx] at h
    exact of_decide_eq_true hp h
  next h1 =>
  split at h
  · next h2 => exact absurd h h2
  next h2 =>
  split at h
  · exact absurd h (by decide)
  next h3 =>
  have hf : (fnd l s).2.2 = true := by cases hb : (fnd l s).2.2 with | true => rfl | false => exact absurd (.inl hb) h3
  obtain ⟨i, k, o, x, hfe, ho, hx, -⟩ := fnd_some hf
  have hso := symOf_eq ho hx
  have hxs : x.fSort = 1 := by
    rw [hfe] at h3
    dsimp only at h3
    rw [hso] at h3
    exact Classical.byContradiction fun hc => h3 (.inr (.inl hc))
  obtain ⟨i2, k2, o2, y, hb, ho2, hy, hyd, hys, -⟩ := bnd_ok (Classical.not_not.1 h2) ho hx
  have hz : objE o2 = 0 := by
    apply Classical.byContradiction
    intro hc
    exact h1 (idxI_iff.2 (List.any_eq_true.2 ⟨o2, List.mem_of_getElem? ho2, decide_eq_true hc⟩))
  have hk2 := (List.getElem?_eq_some_iff.1 hy).1
  have hi2 := (List.getElem?_eq_some_iff.1 ho2).1
  have hsz := sym_zero ((obj_zero hz).2.1 k2 hk2) hy
  have hmo : mostN o2 y = o2.fFuncs.length := by unfold mostN; rw [if_neg (by omega)]
  rw [hmo] at hsz
  have hnum : numberF l (i : Int) (k : Int) = y.fDef + (sumO true l i2 : Int) := by
    unfold numberF
    rw [hb]
    dsimp only
    rw [symOf_eq ho2 hy, show decide (y.fSort = 1) = true by rw [hys, hxs]; rfl, Int.toNat_natCast]
  have hs1 := sumO_succ (fn := true) ho2
  rw [if_pos rfl] at hs1
  have hs2 := sumO_mono (fn := true) (l := l) (i2 + 1) (l.length - (i2 + 1))
  rw [show i2 + 1 + (l.length - (i2 + 1)) = l.length by omega] at hs2
  rw [hP, hfe]
  dsimp only
  rw [hnum, funsTo_len]
  exact ⟨(y.fDef + (sumO true l i2 : Int)).toNat, by omega, by omega⟩
theorem lv_iff {p : ApiProgram} {i : Nat} : lv p i ↔ i < p.fFuns.length ∧ RP (p.fFuns.map (refersF p)) [p.fEntry] (i : Int) := by
  unfold lv liveL
  rw [reachB_at, List.length_map]
theorem ends_map {p : ApiProgram} {F : ApiFun → List Int} {i k : Nat} {f : ApiFun} (hf : p.fFuns[i]? = some f) (hk : k < p.fFuns.length) (h : (k : Int) ∈ F f) : (k : Int) ∈ endsOf (p.fFuns.map F) i := by
  unfold endsOf
  rw [getD_at (show (p.fFuns.map F)[i]? = some (F f) by rw [List.getElem?_map, hf]; rfl)]
  refine List.mem_filter.2 ⟨h, inG_iff.2 ⟨by omega, by rw [List.length_map]; omega⟩⟩
theorem lv_step {p : ApiProgram} {i k : Nat} {f : ApiFun} (hi : lv p i) (hf : p.fFuns[i]? = some f) (hk : k < p.fFuns.length) (h : (k : Int) ∈ directF p f ∨ (k : Int) ∈ valuesF p f) : lv p k :=
  lv_iff.2 ⟨hk, .step (lv_iff.1 hi).2 (ends_map hf hk (mem_ris.2 ⟨List.mem_append.2 h, by omega, by omega⟩))⟩
theorem lv_entry {p : ApiProgram} {e : Nat} (he : p.fEntry = (e : Int)) (hl : e < p.fFuns.length) : lv p e :=
  lv_iff.2 ⟨hl, .start (by rw [he]; simp) (inG_iff.2 ⟨by omega, by rw [List.length_map]; omega⟩)⟩
theorem taken_lv {p : ApiProgram} {k : Nat} (h : (takenL p)[k]? = some true) : lv p k := by
  obtain ⟨hk, i, f, hf, hi, hv⟩ := (takenL_at p k).1 h
  exact lv_step hi hf hk (.inr hv)
theorem lv_getD {p : ApiProgram} {i : Nat} : (liveL p).getD i false = true ↔ lv p i := by
  unfold lv
  rw [List.getD_eq_getElem?_getD]
  cases (liveL p)[i]? <;> simp
theorem row_lv {p : ApiProgram} {i k : Nat} (h : (k : Int) ∈ ris (rowF p i) p.fFuns.length) (hi : i < p.fFuns.length) : lv p i ∧ lv p k := by
  obtain ⟨h, -, hk⟩ := mem_ris.1 h
  have hk : k < p.fFuns.length := by omega
  unfold rowF at h
  split at h
  · next h1 =>
    have h1 := lv_getD.1 h1
    refine ⟨h1, ?_⟩
    rw [getD_at (List.getElem?_eq_getElem hi)] at h
    unfold partF at h
    rcases List.mem_append.1 h with h | h
    · exact lv_step h1 (List.getElem?_eq_getElem hi) hk (.inl h)
    · obtain ⟨c, hc, hx⟩ := List.mem_flatten.1 h
      obtain ⟨c, -, rfl⟩ := List.mem_map.1 hc
      obtain ⟨k2, e, -, hp⟩ := mem_cls.1 hx
      obtain rfl : k = k2 := by omega
      unfold clsP at hp
      rw [Bool.and_eq_true, List.getD_eq_getElem?_getD] at hp
      refine taken_lv ?_
      cases ht : (takenL p)[k]? with
      | none => rw [ht] at hp; exact absurd hp.1 (by simp)
      | some b => rw [ht] at hp; rw [show b = true from hp.1]
  · cases h
theorem graph_at {p : ApiProgram} {i : Nat} (hi : i < p.fFuns.length) : (graphF p)[i]? = some (ris (rowF p i) p.fFuns.length) := by
  unfold graphF
  rw [List.getElem?_map, List.getElem?_range hi]; rfl
theorem ends_graph {p : ApiProgram} {i : Nat} (hi : i < p.fFuns.length) {x : Int} : x ∈ endsOf (graphF p) i ↔ x ∈ ris (rowF p i) p.fFuns.length := by
  unfold endsOf
  rw [getD_at (graph_at hi), List.mem_filter, inG_iff, graphF_len]
  exact ⟨fun h => h.1, fun h => ⟨h, (mem_ris.1 h).2⟩⟩
theorem called_iff {p : ApiProgram} {i : Nat} : (calledL p)[i]? = some true ↔ i < p.fFuns.length ∧ RP (graphF p) [p.fEntry] (i : Int) := by
  unfold calledL
  rw [reachB_at, graphF_len]
theorem called_lv {p : ApiProgram} {e : Nat} (he : p.fEntry = (e : Int)) (hl : e < p.fFuns.length) {i : Nat} (h : (calledL p)[i]? = some true) : lv p i := by
  have key : ∀ x, RP (graphF p) [p.fEntry] x → lv p x.toNat := by
    intro x hx
    induction hx with
    | start h1 h2 => rw [List.mem_singleton.1 h1, he]; exact lv_entry he hl
    | @step a b h1 h2 ih =>
      have ha := (inG_iff.1 h1.inG).2
      rw [graphF_len] at ha
      have h2 := (ends_graph (by omega)).1 h2
      obtain ⟨k, rfl⟩ := Int.eq_ofNat_of_zero_le (mem_ris.1 h2).2.1
      exact (row_lv h2 (by omega)).2
  exact key _ (called_iff.1 h).2
theorem called_entry {p : ApiProgram} {e : Nat} (he : p.fEntry = (e : Int)) (hl : e < p.fFuns.length) : (calledL p)[e]? = some true :=
  called_iff.2 ⟨hl, .start (by rw [he]; simp) (inG_iff.2 ⟨by omega, by rw [graphF_len]; omega⟩)⟩
theorem called_step {p : ApiProgram} {i k : Nat} (h : (calledL p)[i]? = some true) (hk : (k : Int) ∈ ris (rowF p i) p.fFuns.length) : (calledL p)[k]? = some true := by
  obtain ⟨hi, hr⟩ := called_iff.1 h
  exact called_iff.2 ⟨by have := (mem_ris.1 hk).2.2; omega, .step hr ((ends_graph hi).2 hk)⟩
set_option maxRecDepth 100000 in
set_option maxHeartbeats 4000000 in
theorem liveWithin {B : Base} {w : World} (hS : St B [] w) (A : Option Addr) (cp : Nat) (l : List ApiObject) (hC : kApiObject.C B.e A l) (hv : ∀ o ∈ l, vApiObject o) :
    CallsIn Fence.wide 0 Tryz.prog 6 #[.slice A l.length cp] w (Ret B (fun _ : Unit => True) (fun _ => .bool true) (fun _ => [])) := by
  (refine enter Tryz.func6 rfl rfl hS ?_; simp only [List.zipIdx_cons, List.zipIdx_nil, List.map_cons, List.map_nil, Nat.reduceAdd, Nat.zero_add])
  refine wSeq (wRegion' (oAssign rfl (oNil (thn_n (wSeq (wSeq (wRegion' (oMove rfl ?_))))))))
  (refine oCall rfl (by kernel_rfl) (fun w hS => frame hS (by repeat' constructor) (fun B' hB hS' => ref24_Few hS' A cp l (Kd.C_grow hB hC))) ?_; rintro r13 h13)
  first | refine oNot rfl ?_ | refine oNotB rfl ?_
  refine oNil (thn_n (wC (fun h14 => ?_) (fun h14 => ?_)))
  ·
   refine wSeq (wRegion' ?_)
   (refine oCall rfl (by kernel_rfl) (fun w hS => frame hS (by repeat' constructor) (fun B' hB hS' => known26 hS')) ?_; rintro ⟨⟩ -)
   refine oAssign rfl (oNil (thn_n (wRet (thn_r (fin_r (fi1 rfl ?_))))))
   exact ⟨(), trivial, rfl, Lh⟩
  have hsm : FewO l := h13 (by simpa using h14)
  refine wSkip (thn_n (wSeq (wRegion' (oMove rfl ?_))))
  (refine oCall rfl (by kernel_rfl) (fun w hS => frame hS (by repeat' constructor) (fun B' hB hS' => ref24_Bind hS' A cp l B.e hB hC hv hsm mainS)) ?_; rintro z ⟨hz, hzp⟩)
  obtain ⟨Af, cf, ft, fr, Ad, cd, dt, dr⟩ := z
  have hz1 := hz.f
  have hz3 := hz.d
  dsimp only [PZ.cells] at hz1 hz3 ⊢
  have hPf : funsOf ft fr = (bindP l mainS).fFuns := by rw [← hzp]; rfl
  have hPd : datsOf dt dr = (bindP l mainS).fDats := by rw [← hzp]; rfl
  have hfl : ft.length = (bindP l mainS).fFuns.length := by rw [← hPf]; exact (zip_len hz1).symm
  have hdl : dt.length = (bindP l mainS).fDats.length := by rw [← hPd]; exact (zip_len hz3).symm
  rw [hfl, hdl]
  refine oMove rfl (oExt rfl (by repeat constructor) ?_)
  refine oExt rfl (by repeat constructor) ?_
  refine oAlloc rfl (by repeat constructor) (fun b3 => ?_)
  refine oAlloc rfl (by repeat constructor) (fun b4 => ?_)
  refine oStA rfl rfl rfl rfl (by repeat constructor) (by rfl) ?_
  refine oStA rfl rfl rfl rfl (by repeat constructor) (by rfl) ?_
  refine oNil (thn_n (wFreeze [row kFunT B.e 49 (.slice Af (bindP l mainS).fFuns.length cf) ft, bun (rws (Kd.int .i64) B.e 3 (ft.map hdT) fr), row kDatT B.e 98 (.slice Ad (bindP l mainS).fDats.length cd) dt, bun (rws (Kd.int .i64) B.e 3 (dt.map hdT) dr)] (by repeat' constructor) (fun B1 hB1 hq1 => ?_)))
  have hcF := funs_C (hq1 _ _ (by repeat constructor)) hB1 (hq1 _ _ (by repeat constructor)) hz1
  have hcD := dats_C (hq1 _ _ (by repeat constructor)) hB1 (hq1 _ _ (by repeat constructor)) hz3
  rw [hPf] at hcF
  rw [hPd] at hcD
  obtain ⟨-, hfc, hF⟩ := hcF
  obtain ⟨-, hdc, hD⟩ := hcD
  have hKp : kApiProgram.K B1.e (bindP l mainS) [.slice Af (bindP l mainS).fFuns.length cf, .slice Ad (bindP l mainS).fDats.length cd, .int .i64 (bindP l mainS).fEntry] := kApiProgram_mk B1.e (bindP l mainS) hfc hF hdc hD
  refine wSeq (wSeq (wRegion' (oFld (n := 0) (m := 0) rfl rfl rfl (oLd rfl (by repeat constructor) rfl rfl ?_))))
  refine oNeq rfl rfl (oMove rfl ?_)
  first | refine oSplit (t := 24) rfl (fun h24 => ?_) (fun h24 => ?_) | refine oSplitB (t := 24) rfl (fun h24 => ?_) (fun h24 => ?_)
  ·
   refine oSkip rfl rfl rfl rfl (oSkip rfl rfl rfl rfl (oSkip rfl rfl rfl rfl (oPickT rfl rfl (oNil (thn_n ?_)))))
   first | refine wCondT rfl ?_ | refine wCondTd h28 rfl ?_ | refine wCondTb h28 rfl ?_
   refine wSeq (wRegion' ?_)
   (refine oCall rfl (by kernel_rfl) (fun w hS => frame hS (by repeat' constructor) (fun B' hB hS' => known26 hS')) ?_; rintro ⟨⟩ -)
   refine oAssign rfl (oNil (thn_n (wRet (thn_r (fin_r (fi1 rfl ?_))))))
   exact ⟨(), trivial, rfl, Lh⟩
  refine oWant rfl rfl (oLdA rfl (by repeat constructor) rfl (by repeat constructor) ?_)
  refine oWant rfl rfl ?_
  (refine oCall rfl (by kernel_rfl) (fun w hS => frame hS (by repeat' constructor) (fun B' hB hS' => ref25_Few hS' (bindP l mainS) _ (kApiProgram.K_grow hB hKp))) ?_; rintro r26 h26)
  refine oWant rfl rfl ?_
  first | refine oNot rfl ?_ | refine oNotB rfl ?_
  refine oPickF rfl rfl (oNil (thn_n (wC (fun h28 => ?_) (fun h28 => ?_))))
  ·
   refine wSeq (wRegion' ?_)
   (refine oCall rfl (by kernel_rfl) (fun w hS => frame hS (by repeat' constructor) (fun B' hB hS' => known26 hS')) ?_; rintro ⟨⟩ -)
   refine oAssign rfl (oNil (thn_n (wRet (thn_r (fin_r (fi1 rfl ?_))))))
   exact ⟨(), trivial, rfl, Lh⟩
  have hsp : SmallP (bindP l mainS) := h26 (by simp_all)
  obtain ⟨e, hen, hel⟩ := bind_in (l := l) (s := mainS) (Classical.byContradiction fun hc => by simp_all)
  have hfn := hsp.funs
  have hLe := lv_entry hen hel
  have hCe := called_entry hen hel
  refine wSkip (thn_n (wSeq (wRegion' (oLdA rfl (by repeat constructor) rfl (by repeat constructor) ?_))))
  (refine oCall rfl (by kernel_rfl) (fun w hS => frame hS (by repeat' constructor) (fun B' hB hS' => prog_Live hS' (bindP l mainS) _ (kApiProgram.K_grow hB hKp) hsp B1.e)) ?_; rintro ⟨A31, c31⟩ -)
  refine oAssign rfl (oNil (thn_n (wSeq (wRegion' (oLdA rfl (by repeat constructor) rfl (by repeat constructor) ?_)))))
  (refine oCall rfl (by kernel_rfl) (fun w hS => frame hS (by repeat' constructor) (fun B' hB hS' => prog_Taken hS' (bindP l mainS) _ (kApiProgram.K_grow hB hKp) hsp B1.e)) ?_; rintro ⟨A33, c33⟩ -)
  refine oAssign rfl (oNil (thn_n (wSeq (wRegion' (oLdA rfl (by repeat constructor) rfl (by repeat constructor) ?_)))))
  (refine oCall rfl (by kernel_rfl) (fun w hS => frame hS (by repeat' constructor) (fun B' hB hS' => prog_Called hS' (bindP l mainS) _ (kApiProgram.K_grow hB hKp) hsp B1.e)) ?_; rintro ⟨A35, c35⟩ -)
  refine oAssign rfl (oNil (thn_n (wSeq (wRegion' (oLdA rfl (by repeat constructor) rfl (by repeat constructor) ?_)))))
  (refine oCall rfl (by kernel_rfl) (fun w hS => frame hS (by repeat' constructor) (fun B' hB hS' => prog_Graph hS' (bindP l mainS) _ (kApiProgram.K_grow hB hKp) hsp B1.e)) ?_; rintro ⟨A37, c37, hs37⟩ hl37)
  refine oAssign rfl (oNil (thn_n (wFreeze [row Kd.bool B1.e 4 (.slice A31 (bindP l mainS).fFuns.length c31) (liveL (bindP l mainS)), row Kd.bool B1.e 4 (.slice A33 (bindP l mainS).fFuns.length c33) (takenL (bindP l mainS)), row Kd.bool B1.e 4 (.slice A35 (bindP l mainS).fFuns.length c35) (calledL (bindP l mainS)), row kHdr B1.e 42 (.slice A37 (bindP l mainS).fFuns.length c37) hs37, bun (rws (Kd.int .i64) B1.e 3 hs37 (graphF (bindP l mainS)))] (by repeat' constructor) (fun B2 hB2 hq2 => ?_))))
  have hcL : Kd.bool.C B2.e A31 (liveL (bindP l mainS)) := row_Cs (W := B1.e) (e := 4) (n := (bindP l mainS).fFuns.length) (cp := c31) (hq2 _ _ (by repeat constructor))
  have hcT : Kd.bool.C B2.e A33 (takenL (bindP l mainS)) := row_Cs (W := B1.e) (e := 4) (n := (bindP l mainS).fFuns.length) (cp := c33) (hq2 _ _ (by repeat constructor))
  have hcC : Kd.bool.C B2.e A35 (calledL (bindP l mainS)) := row_Cs (W := B1.e) (e := 4) (n := (bindP l mainS).fFuns.length) (cp := c35) (hq2 _ _ (by repeat constructor))
  have hcG : (Kd.slice (Kd.int .i64)).C B2.e A37 (graphF (bindP l mainS)) := grid_C (kd := Kd.int .i64) (W := B1.e) (W0 := B1.e) (n := (bindP l mainS).fFuns.length) (cp := c37) (hq2 _ _ (by repeat constructor)) (hq2 _ _ (by repeat constructor)) (by rw [hl37, graphF_len]) hB2
  have hLl := liveL_len (bindP l mainS)
  have hTl := takenL_len (bindP l mainS)
  have hCl := calledL_len (bindP l mainS)
  obtain ⟨ea, csa, hEa⟩ := hcL.elm hLe
  obtain rfl := (show csa = [Value.bool true] from hEa.K)
  obtain ⟨ec, csc, hEc⟩ := hcC.elm hCe
  obtain rfl := (show csc = [Value.bool true] from hEc.K)
  refine wSeq (wRegion' (oFld (n := 0) (m := 0) rfl rfl rfl (oLd rfl (by repeat constructor) rfl rfl ?_)))
  refine oLenS rfl rfl (oAssign rfl (oNil (thn_n (wSeq (wSeq (wRegion' (oMove rfl (oLenS rfl rfl (oMove rfl (oNeq rfl rfl (oSet (t := 44) (v' := .bool false) rfl (by simp) ?_)))))))))))
  refine oMove rfl (oWant rfl rfl (oMove rfl (oWant rfl rfl (oLenS rfl rfl (oWant rfl rfl (oMove rfl (oWant rfl rfl (oNeq rfl rfl (oSet (t := 49) (v' := .bool false) rfl (by simp) ?_)))))))))
  refine oPickF rfl rfl (oMove rfl (oWant rfl rfl (oMove rfl (oWant rfl rfl (oLenS rfl rfl (oWant rfl rfl (oMove rfl (oWant rfl rfl (oNeq rfl rfl (oSet (t := 55) (v' := .bool false) rfl (by simp) ?_))))))))))
  refine oPickF rfl rfl (oMove rfl (oWant rfl rfl (oMove rfl (oWant rfl rfl (oLenS rfl rfl (oWant rfl rfl (oMove rfl (oWant rfl rfl (oNeq rfl rfl (oSet (t := 61) (v' := .bool false) rfl (by simp) ?_))))))))))
  refine oPickF rfl rfl (oMove rfl (oWant rfl rfl (oMove rfl (oWant rfl rfl (oFld (n := 2) (m := 2) rfl rfl rfl (oWant rfl rfl (oLd rfl (by repeat constructor) rfl rfl ?_)))))))
  refine oSet (t := 66) (v' := .int .i64 (e : Int)) rfl (by rw [hen]) ?_
  refine oWant rfl rfl (oIdxE rfl rfl (hEa) (by omega) rfl rfl ?_)
  have hc67 := (hEa).cell
  refine oWant rfl rfl ?_
  first | refine oLdX rfl hc67 rfl rfl ?_ | refine oLdXA rfl hc67 rfl (by repeat constructor) ?_ | (refine oLdR1 rfl (by repeat constructor) (by omega) rfl (fun u68 hu68 => ?_))
  refine oWant rfl rfl (oNotT rfl (oPickF rfl rfl (oMove rfl (oWant rfl rfl (oMove rfl (oWant rfl rfl (oFld (n := 2) (m := 2) rfl rfl rfl (oWant rfl rfl (oLd rfl (by repeat constructor) rfl rfl ?_)))))))))
  refine oSet (t := 74) (v' := .int .i64 (e : Int)) rfl (by rw [hen]) ?_
  refine oWant rfl rfl (oIdxE rfl rfl (hEc) (by omega) rfl rfl ?_)
  have hc75 := (hEc).cell
  refine oWant rfl rfl ?_
  first | refine oLdX rfl hc75 rfl rfl ?_ | refine oLdXA rfl hc75 rfl (by repeat constructor) ?_ | (refine oLdR1 rfl (by repeat constructor) (by omega) rfl (fun u76 hu76 => ?_))
  refine oWant rfl rfl (oNotT rfl (oPickF rfl rfl (oNil (thn_n ?_))))
  first | refine wCondF rfl ?_ | refine wCondFd h78 rfl ?_ | refine wCondFb h78 rfl ?_
  refine wSkip (thn_n (wSeq (wSeq (wRegion' (oAssign rfl (oNil (thn_n (wBlock (wLoop (ι := Nat) (fun i => [(5, .slice A31 (bindP l mainS).fFuns.length c31), (6, .slice A33 (bindP l mainS).fFuns.length c33), (7, .slice A35 (bindP l mainS).fFuns.length c35), (8, .slice A37 (bindP l mainS).fFuns.length c37), (9, .int .i64 ((bindP l mainS).fFuns.length : Int)), (10, .int .i64 (i : Int))]) (fun i => []) (fun i => i ≤ (bindP l mainS).fFuns.length) (fun i => (bindP l mainS).fFuns.length - i) 0 ?_ cv Lh ?_)))))))))
  ·
   exact Nat.zero_le _
  rintro i hi
  try dsimp only
  refine wSeq (wSeq (wRegion' (oMove rfl (oMove rfl (oLss rfl rfl (oNil (thn_n (wC (fun h81 => ?_) (fun h81 => ?_)))))))))
  ·
   have hil : i < (bindP l mainS).fFuns.length := by omega
   obtain ⟨la, hla⟩ : ∃ u, (liveL (bindP l mainS))[i]? = some u := ⟨_, List.getElem?_eq_getElem (by omega)⟩
   obtain ⟨tb, htb⟩ : ∃ u, (takenL (bindP l mainS))[i]? = some u := ⟨_, List.getElem?_eq_getElem (by omega)⟩
   obtain ⟨cc, hcc⟩ : ∃ u, (calledL (bindP l mainS))[i]? = some u := ⟨_, List.getElem?_eq_getElem (by omega)⟩
   have hgr := graph_at hil
   have hgx : ∀ k : Nat, (k : Int) ∈ ris (rowF (bindP l mainS) i) (bindP l mainS).fFuns.length → lv (bindP l mainS) i ∧ lv (bindP l mainS) k := fun k h => row_lv h hil
   have hgc : ∀ k : Nat, (k : Int) ∈ ris (rowF (bindP l mainS) i) (bindP l mainS).fFuns.length → (calledL (bindP l mainS))[i]? = some true → (calledL (bindP l mainS))[k]? = some true := fun k h h1 => called_step h1 h
   have hgb : ∀ x ∈ ris (rowF (bindP l mainS) i) (bindP l mainS).fFuns.length, 0 ≤ x ∧ x < ((bindP l mainS).fFuns.length : Int) := fun x h => (mem_ris.1 h).2
   have hgl : (ris (rowF (bindP l mainS) i) (bindP l mainS).fFuns.length).length ≤ (bindP l mainS).fFuns.length := ris_len _ _
   generalize ris (rowF (bindP l mainS) i) (bindP l mainS).fFuns.length = g at *
   have hLa : lv (bindP l mainS) i → la = true := fun h => Option.some.inj (hla.symm.trans h)
   have hTL : tb = true → la = true := fun h => hLa (taken_lv (by rw [htb, h]))
   have hCL : cc = true → la = true := fun h => hLa (called_lv hen hel (by rw [hcc, h]))
   have hGL : 0 < g.length → la = true := fun h => by
     obtain ⟨k, hk⟩ := Int.eq_ofNat_of_zero_le (hgb g[0] (List.getElem_mem h)).1
     exact hLa (hgx k (hk ▸ List.getElem_mem h)).1
   obtain ⟨e1, cs1, hE1⟩ := hcL.elm hla
   obtain rfl := (show cs1 = [Value.bool la] from hE1.K)
   obtain ⟨e2, cs2, hE2⟩ := hcT.elm htb
   obtain rfl := (show cs2 = [Value.bool tb] from hE2.K)
   obtain ⟨e3, cs3, hE3⟩ := hcC.elm hcc
   obtain rfl := (show cs3 = [Value.bool cc] from hE3.K)
   obtain ⟨e4, cs4, hE4⟩ := hcG.elm hgr
   obtain ⟨X1, n1, rfl, hn1, hX1⟩ := hE4.K
   refine wSkip (thn_n (wSeq (wBlock (wSeq (wSeq (wRegion' (oMove rfl (oMove rfl (oIdxE rfl rfl (hE2) (by omega) rfl rfl ?_)))))))))
   have hc86 := (hE2).cell
   first | refine oLdX rfl hc86 rfl rfl ?_ | refine oLdXA rfl hc86 rfl (by repeat constructor) ?_ | (refine oLdR1 rfl (by repeat constructor) (by omega) rfl (fun u87 hu87 => ?_))
   refine oMove rfl ?_
   first | refine oSplit (t := 88) rfl (fun h88 => ?_) (fun h88 => ?_) | refine oSplitB (t := 88) rfl (fun h88 => ?_) (fun h88 => ?_)
   ·
    refine oSkip rfl rfl rfl rfl (oSkip rfl rfl rfl rfl (oSkip rfl rfl rfl rfl (oSkip rfl rfl rfl rfl (oPickT rfl rfl (oMove rfl (oWant rfl rfl (oMove rfl (oWant rfl rfl (oMove rfl (oWant rfl rfl (oIdxE rfl rfl (hE1) (by omega) rfl rfl ?_)))))))))))
    have hc97 := (hE1).cell
    refine oWant rfl rfl ?_
    first | refine oLdX rfl hc97 rfl rfl ?_ | refine oLdXA rfl hc97 rfl (by repeat constructor) ?_ | (refine oLdR1 rfl (by repeat constructor) (by omega) rfl (fun u98 hu98 => ?_))
    refine oSet (t := 98) (v' := .bool true) rfl (by rw [hTL h88]) ?_
    refine oWant rfl rfl (oNotT rfl (oPickT rfl rfl (oMove rfl (oWant rfl rfl (oMove rfl (oWant rfl rfl (oMove rfl (oWant rfl rfl (oIdxE rfl rfl (hE4) (by omega) rfl rfl ?_)))))))))
    have hc104 := (hE4).cell
    refine oWant rfl rfl ?_
    first | refine oLdX rfl hc104 rfl rfl ?_ | refine oLdXA rfl hc104 rfl (by repeat constructor) ?_ | (refine oLdR1 rfl (by repeat constructor) (by omega) rfl (fun u105 hu105 => ?_))
    refine oWant rfl rfl (oLenS rfl rfl (oWant rfl rfl (oGtr rfl rfl (oWant rfl rfl (oMove rfl ?_)))))
    first | refine oSplit (t := 108) rfl (fun h108 => ?_) (fun h108 => ?_) | refine oSplitB (t := 108) rfl (fun h108 => ?_) (fun h108 => ?_)
    ·
     refine oWant rfl rfl (oMove rfl (oWant rfl rfl (oMove rfl (oWant rfl rfl (oIdxE rfl rfl (hE1) (by omega) rfl rfl ?_)))))
     have hc111 := (hE1).cell
     refine oWant rfl rfl ?_
     first | refine oLdX rfl hc111 rfl rfl ?_ | refine oLdXA rfl hc111 rfl (by repeat constructor) ?_ | (refine oLdR1 rfl (by repeat constructor) (by omega) rfl (fun u112 hu112 => ?_))
     refine oSet (t := 112) (v' := .bool true) rfl (by rw [hGL (by simpa using h108)]) ?_
     refine oWant rfl rfl (oNotT rfl (oWant rfl rfl (oPickT rfl rfl (oPickF rfl rfl (oNil (thn_n ?_))))))
     first | refine wCondF rfl ?_ | refine wCondFd h115 rfl ?_ | refine wCondFb h115 rfl ?_
     refine wSkip (thn_n (wSeq (wRegion' (oAssign rfl (oNil (thn_n (wBlock (wLoop (ι := Nat) (fun j => [(5, .slice A31 (bindP l mainS).fFuns.length c31), (6, .slice A33 (bindP l mainS).fFuns.length c33), (7, .slice A35 (bindP l mainS).fFuns.length c35), (8, .slice A37 (bindP l mainS).fFuns.length c37), (9, .int .i64 ((bindP l mainS).fFuns.length : Int)), (10, .int .i64 (i : Int)), (11, .int .i64 (j : Int))]) (fun j => []) (fun j => j ≤ g.length) (fun j => g.length - j) 0 ?_ cv Lh ?_))))))))
     ·
      exact Nat.zero_le _
     rintro j hj
     try dsimp only
     refine wSeq (wSeq (wRegion' (oMove rfl (oMove rfl (oMove rfl (oIdxE rfl rfl (hE4) (by omega) rfl rfl ?_))))))
     have hc119 := (hE4).cell
     first | refine oLdX rfl hc119 rfl rfl ?_ | refine oLdXA rfl hc119 rfl (by repeat constructor) ?_ | (refine oLdR1 rfl (by repeat constructor) (by omega) rfl (fun u120 hu120 => ?_))
     refine oLenS rfl rfl (oLss rfl rfl (oNil (thn_n (wC (fun h122 => ?_) (fun h122 => ?_)))))
     ·
      obtain ⟨x, hx⟩ : ∃ x, g[j]? = some x := ⟨_, List.getElem?_eq_getElem (by omega)⟩
      obtain ⟨e5, cs5, hE5⟩ := hX1.elm hx
      obtain rfl := (show cs5 = [Value.int .i64 x] from hE5.K)
      have hxm := List.mem_of_getElem? hx
      have hxb := hgb x hxm
      obtain ⟨k, rfl⟩ := Int.eq_ofNat_of_zero_le hxb.1
      have hkl : k < (bindP l mainS).fFuns.length := by omega
      obtain ⟨cx, hcx⟩ : ∃ u, (calledL (bindP l mainS))[k]? = some u := ⟨_, List.getElem?_eq_getElem (by omega)⟩
      have hCx : cc = true → cx = true := fun h => Option.some.inj (hcx.symm.trans (hgc k hxm (by rw [hcc, h])))
      obtain ⟨e6, cs6, hE6⟩ := hcL.elm (hgx k hxm).2
      obtain rfl := (show cs6 = [Value.bool true] from hE6.K)
      obtain ⟨e7, cs7, hE7⟩ := hcC.elm hcx
      obtain rfl := (show cs7 = [Value.bool cx] from hE7.K)
      refine wSkip (thn_n (wSeq (wBlock (wSeq (wRegion' (oMove rfl (oMove rfl (oIdxE rfl rfl (hE4) (by omega) rfl rfl ?_))))))))
      have hc127 := (hE4).cell
      first | refine oLdX rfl hc127 rfl rfl ?_ | refine oLdXA rfl hc127 rfl (by repeat constructor) ?_ | (refine oLdR1 rfl (by repeat constructor) (by omega) rfl (fun u128 hu128 => ?_))
      refine oMove rfl (oIdxE rfl rfl (hE5) (by omega) rfl rfl ?_)
      have hc130 := (hE5).cell
      first | refine oLdX rfl hc130 rfl rfl ?_ | refine oLdXA rfl hc130 rfl (by repeat constructor) ?_ | (refine oLdR1 rfl (by repeat constructor) (by omega) rfl (fun u131 hu131 => ?_))
      refine oLss rfl rfl (oSet (t := 132) (v' := .bool false) rfl (by rw [decide_eq_false (by omega)]) ?_)
      refine oMove rfl (oWant rfl rfl (oMove rfl (oWant rfl rfl (oMove rfl (oWant rfl rfl (oIdxE rfl rfl (hE4) (by omega) rfl rfl ?_))))))
      have hc136 := (hE4).cell
      refine oWant rfl rfl ?_
      first | refine oLdX rfl hc136 rfl rfl ?_ | refine oLdXA rfl hc136 rfl (by repeat constructor) ?_ | (refine oLdR1 rfl (by repeat constructor) (by omega) rfl (fun u137 hu137 => ?_))
      refine oWant rfl rfl (oMove rfl (oWant rfl rfl (oIdxE rfl rfl (hE5) (by omega) rfl rfl ?_)))
      have hc139 := (hE5).cell
      refine oWant rfl rfl ?_
      first | refine oLdX rfl hc139 rfl rfl ?_ | refine oLdXA rfl hc139 rfl (by repeat constructor) ?_ | (refine oLdR1 rfl (by repeat constructor) (by omega) rfl (fun u140 hu140 => ?_))
      refine oWant rfl rfl (oMove rfl (oWant rfl rfl (oGeq rfl rfl (oSet (t := 142) (v' := .bool false) rfl (by rw [decide_eq_false (by omega)]) ?_))))
      refine oPickF rfl rfl (oMove rfl (oWant rfl rfl (oMove rfl (oWant rfl rfl (oMove rfl (oWant rfl rfl (oMove rfl (oWant rfl rfl (oIdxE rfl rfl (hE4) (by omega) rfl rfl ?_)))))))))
      have hc148 := (hE4).cell
      refine oWant rfl rfl ?_
      first | refine oLdX rfl hc148 rfl rfl ?_ | refine oLdXA rfl hc148 rfl (by repeat constructor) ?_ | (refine oLdR1 rfl (by repeat constructor) (by omega) rfl (fun u149 hu149 => ?_))
      refine oWant rfl rfl (oMove rfl (oWant rfl rfl (oIdxE rfl rfl (hE5) (by omega) rfl rfl ?_)))
      have hc151 := (hE5).cell
      refine oWant rfl rfl ?_
      first | refine oLdX rfl hc151 rfl rfl ?_ | refine oLdXA rfl hc151 rfl (by repeat constructor) ?_ | (refine oLdR1 rfl (by repeat constructor) (by omega) rfl (fun u152 hu152 => ?_))
      refine oWant rfl rfl (oIdxE rfl rfl (hE6) (by omega) rfl rfl ?_)
      have hc153 := (hE6).cell
      refine oWant rfl rfl ?_
      first | refine oLdX rfl hc153 rfl rfl ?_ | refine oLdXA rfl hc153 rfl (by repeat constructor) ?_ | (refine oLdR1 rfl (by repeat constructor) (by omega) rfl (fun u154 hu154 => ?_))
      refine oWant rfl rfl (oNotT rfl (oPickF rfl rfl (oMove rfl (oWant rfl rfl (oMove rfl (oWant rfl rfl (oMove rfl (oWant rfl rfl (oIdxE rfl rfl (hE3) (by omega) rfl rfl ?_)))))))))
      have hc160 := (hE3).cell
      refine oWant rfl rfl ?_
      first | refine oLdX rfl hc160 rfl rfl ?_ | refine oLdXA rfl hc160 rfl (by repeat constructor) ?_ | (refine oLdR1 rfl (by repeat constructor) (by omega) rfl (fun u161 hu161 => ?_))
      refine oWant rfl rfl (oMove rfl ?_)
      first | refine oSplit (t := 162) rfl (fun h162 => ?_) (fun h162 => ?_) | refine oSplitB (t := 162) rfl (fun h162 => ?_) (fun h162 => ?_)
      ·
       refine oWant rfl rfl (oMove rfl (oWant rfl rfl (oMove rfl (oWant rfl rfl (oMove rfl (oWant rfl rfl (oIdxE rfl rfl (hE4) (by omega) rfl rfl ?_)))))))
       have hc166 := (hE4).cell
       refine oWant rfl rfl ?_
       first | refine oLdX rfl hc166 rfl rfl ?_ | refine oLdXA rfl hc166 rfl (by repeat constructor) ?_ | (refine oLdR1 rfl (by repeat constructor) (by omega) rfl (fun u167 hu167 => ?_))
       refine oWant rfl rfl (oMove rfl (oWant rfl rfl (oIdxE rfl rfl (hE5) (by omega) rfl rfl ?_)))
       have hc169 := (hE5).cell
       refine oWant rfl rfl ?_
       first | refine oLdX rfl hc169 rfl rfl ?_ | refine oLdXA rfl hc169 rfl (by repeat constructor) ?_ | (refine oLdR1 rfl (by repeat constructor) (by omega) rfl (fun u170 hu170 => ?_))
       refine oWant rfl rfl (oIdxE rfl rfl (hE7) (by omega) rfl rfl ?_)
       have hc171 := (hE7).cell
       refine oWant rfl rfl ?_
       first | refine oLdX rfl hc171 rfl rfl ?_ | refine oLdXA rfl hc171 rfl (by repeat constructor) ?_ | (refine oLdR1 rfl (by repeat constructor) (by omega) rfl (fun u172 hu172 => ?_))
       refine oSet (t := 172) (v' := .bool true) rfl (by rw [hCx h162]) ?_
       refine oWant rfl rfl (oNotT rfl (oWant rfl rfl (oPickT rfl rfl (oPickF rfl rfl (oNil (thn_n ?_))))))
       first | refine wCondF rfl ?_ | refine wCondFd h175 rfl ?_ | refine wCondFb h175 rfl ?_
       refine wSkip (blk_n (thn_n (wRegion' (oMove rfl (oSucc rfl rfl (by omega) ?_)))))
       refine oAssign rfl (oNil (thn_n ?_))
       exact ⟨rfl, j + 1, by omega, by omega, cv, Lh⟩
      refine oSkip rfl rfl rfl rfl (oSkip rfl rfl rfl rfl (oSkip rfl rfl rfl rfl (oSkip rfl rfl rfl rfl (oSkip rfl rfl rfl rfl (oSkip rfl rfl rfl rfl (oSkip rfl rfl rfl rfl (oSkip rfl rfl rfl rfl (oSkip rfl rfl rfl rfl (oSkip rfl rfl rfl rfl (oSkip rfl rfl rfl rfl (oWant rfl rfl ?_)))))))))))
      refine oPickF rfl rfl (oPickF rfl rfl (oNil (thn_n ?_)))
      first | refine wCondF rfl ?_ | refine wCondFd h175 rfl ?_ | refine wCondFb h175 rfl ?_
      refine wSkip (blk_n (thn_n (wRegion' (oMove rfl (oSucc rfl rfl (by omega) ?_)))))
      refine oAssign rfl (oNil (thn_n ?_))
      exact ⟨rfl, j + 1, by omega, by omega, cv, Lh⟩
     refine wExit (thn_x (thn_x (blk_x (blk_n (thn_n (wRegion' (oMove rfl (oSucc rfl rfl (by omega) ?_))))))))
     refine oAssign rfl (oNil (thn_n ?_))
     exact ⟨rfl, i + 1, by omega, by omega, cv, Lh⟩
    refine oSkip rfl rfl rfl rfl (oSkip rfl rfl rfl rfl (oSkip rfl rfl rfl rfl (oSkip rfl rfl rfl rfl (oSkip rfl rfl rfl rfl (oWant rfl rfl (oPickF rfl rfl (oPickF rfl rfl (oNil (thn_n ?_)))))))))
    first | refine wCondF rfl ?_ | refine wCondFd h115 rfl ?_ | refine wCondFb h115 rfl ?_
    refine wSkip (thn_n (wSeq (wRegion' (oAssign rfl (oNil (thn_n (wBlock (wLoop (ι := Nat) (fun j => [(5, .slice A31 (bindP l mainS).fFuns.length c31), (6, .slice A33 (bindP l mainS).fFuns.length c33), (7, .slice A35 (bindP l mainS).fFuns.length c35), (8, .slice A37 (bindP l mainS).fFuns.length c37), (9, .int .i64 ((bindP l mainS).fFuns.length : Int)), (10, .int .i64 (i : Int)), (11, .int .i64 (j : Int))]) (fun j => []) (fun j => j ≤ g.length) (fun j => g.length - j) 0 ?_ cv Lh ?_))))))))
    ·
     exact Nat.zero_le _
    rintro j hj
    try dsimp only
    refine wSeq (wSeq (wRegion' (oMove rfl (oMove rfl (oMove rfl (oIdxE rfl rfl (hE4) (by omega) rfl rfl ?_))))))
    have hc119 := (hE4).cell
    first | refine oLdX rfl hc119 rfl rfl ?_ | refine oLdXA rfl hc119 rfl (by repeat constructor) ?_ | (refine oLdR1 rfl (by repeat constructor) (by omega) rfl (fun u120 hu120 => ?_))
    refine oLenS rfl rfl (oLss rfl rfl (oNil (thn_n (wC (fun h122 => ?_) (fun h122 => ?_)))))
    ·
     obtain ⟨x, hx⟩ : ∃ x, g[j]? = some x := ⟨_, List.getElem?_eq_getElem (by omega)⟩
     obtain ⟨e5, cs5, hE5⟩ := hX1.elm hx
     obtain rfl := (show cs5 = [Value.int .i64 x] from hE5.K)
     have hxm := List.mem_of_getElem? hx
     have hxb := hgb x hxm
     obtain ⟨k, rfl⟩ := Int.eq_ofNat_of_zero_le hxb.1
     have hkl : k < (bindP l mainS).fFuns.length := by omega
     obtain ⟨cx, hcx⟩ : ∃ u, (calledL (bindP l mainS))[k]? = some u := ⟨_, List.getElem?_eq_getElem (by omega)⟩
     have hCx : cc = true → cx = true := fun h => Option.some.inj (hcx.symm.trans (hgc k hxm (by rw [hcc, h])))
     obtain ⟨e6, cs6, hE6⟩ := hcL.elm (hgx k hxm).2
     obtain rfl := (show cs6 = [Value.bool true] from hE6.K)
     obtain ⟨e7, cs7, hE7⟩ := hcC.elm hcx
     obtain rfl := (show cs7 = [Value.bool cx] from hE7.K)
     refine wSkip (thn_n (wSeq (wBlock (wSeq (wRegion' (oMove rfl (oMove rfl (oIdxE rfl rfl (hE4) (by omega) rfl rfl ?_))))))))
     have hc127 := (hE4).cell
     first | refine oLdX rfl hc127 rfl rfl ?_ | refine oLdXA rfl hc127 rfl (by repeat constructor) ?_ | (refine oLdR1 rfl (by repeat constructor) (by omega) rfl (fun u128 hu128 => ?_))
     refine oMove rfl (oIdxE rfl rfl (hE5) (by omega) rfl rfl ?_)
     have hc130 := (hE5).cell
     first | refine oLdX rfl hc130 rfl rfl ?_ | refine oLdXA rfl hc130 rfl (by repeat constructor) ?_ | (refine oLdR1 rfl (by repeat constructor) (by omega) rfl (fun u131 hu131 => ?_))
     refine oLss rfl rfl (oSet (t := 132) (v' := .bool false) rfl (by rw [decide_eq_false (by omega)]) ?_)
     refine oMove rfl (oWant rfl rfl (oMove rfl (oWant rfl rfl (oMove rfl (oWant rfl rfl (oIdxE rfl rfl (hE4) (by omega) rfl rfl ?_))))))
     have hc136 := (hE4).cell
     refine oWant rfl rfl ?_
     first | refine oLdX rfl hc136 rfl rfl ?_ | refine oLdXA rfl hc136 rfl (by repeat constructor) ?_ | (refine oLdR1 rfl (by repeat constructor) (by omega) rfl (fun u137 hu137 => ?_))
     refine oWant rfl rfl (oMove rfl (oWant rfl rfl (oIdxE rfl rfl (hE5) (by omega) rfl rfl ?_)))
     have hc139 := (hE5).cell
     refine oWant rfl rfl ?_
     first | refine oLdX rfl hc139 rfl rfl ?_ | refine oLdXA rfl hc139 rfl (by repeat constructor) ?_ | (refine oLdR1 rfl (by repeat constructor) (by omega) rfl (fun u140 hu140 => ?_))
     refine oWant rfl rfl (oMove rfl (oWant rfl rfl (oGeq rfl rfl (oSet (t := 142) (v' := .bool false) rfl (by rw [decide_eq_false (by omega)]) ?_))))
     refine oPickF rfl rfl (oMove rfl (oWant rfl rfl (oMove rfl (oWant rfl rfl (oMove rfl (oWant rfl rfl (oMove rfl (oWant rfl rfl (oIdxE rfl rfl (hE4) (by omega) rfl rfl ?_)))))))))
     have hc148 := (hE4).cell
     refine oWant rfl rfl ?_
     first | refine oLdX rfl hc148 rfl rfl ?_ | refine oLdXA rfl hc148 rfl (by repeat constructor) ?_ | (refine oLdR1 rfl (by repeat constructor) (by omega) rfl (fun u149 hu149 => ?_))
     refine oWant rfl rfl (oMove rfl (oWant rfl rfl (oIdxE rfl rfl (hE5) (by omega) rfl rfl ?_)))
     have hc151 := (hE5).cell
     refine oWant rfl rfl ?_
     first | refine oLdX rfl hc151 rfl rfl ?_ | refine oLdXA rfl hc151 rfl (by repeat constructor) ?_ | (refine oLdR1 rfl (by repeat constructor) (by omega) rfl (fun u152 hu152 => ?_))
     refine oWant rfl rfl (oIdxE rfl rfl (hE6) (by omega) rfl rfl ?_)
     have hc153 := (hE6).cell
     refine oWant rfl rfl ?_
     first | refine oLdX rfl hc153 rfl rfl ?_ | refine oLdXA rfl hc153 rfl (by repeat constructor) ?_ | (refine oLdR1 rfl (by repeat constructor) (by omega) rfl (fun u154 hu154 => ?_))
     refine oWant rfl rfl (oNotT rfl (oPickF rfl rfl (oMove rfl (oWant rfl rfl (oMove rfl (oWant rfl rfl (oMove rfl (oWant rfl rfl (oIdxE rfl rfl (hE3) (by omega) rfl rfl ?_)))))))))
     have hc160 := (hE3).cell
     refine oWant rfl rfl ?_
     first | refine oLdX rfl hc160 rfl rfl ?_ | refine oLdXA rfl hc160 rfl (by repeat constructor) ?_ | (refine oLdR1 rfl (by repeat constructor) (by omega) rfl (fun u161 hu161 => ?_))
     refine oWant rfl rfl (oMove rfl ?_)
     first | refine oSplit (t := 162) rfl (fun h162 => ?_) (fun h162 => ?_) | refine oSplitB (t := 162) rfl (fun h162 => ?_) (fun h162 => ?_)
     ·
      refine oWant rfl rfl (oMove rfl (oWant rfl rfl (oMove rfl (oWant rfl rfl (oMove rfl (oWant rfl rfl (oIdxE rfl rfl (hE4) (by omega) rfl rfl ?_)))))))
      have hc166 := (hE4).cell
      refine oWant rfl rfl ?_
      first | refine oLdX rfl hc166 rfl rfl ?_ | refine oLdXA rfl hc166 rfl (by repeat constructor) ?_ | (refine oLdR1 rfl (by repeat constructor) (by omega) rfl (fun u167 hu167 => ?_))
      refine oWant rfl rfl (oMove rfl (oWant rfl rfl (oIdxE rfl rfl (hE5) (by omega) rfl rfl ?_)))
      have hc169 := (hE5).cell
      refine oWant rfl rfl ?_
      first | refine oLdX rfl hc169 rfl rfl ?_ | refine oLdXA rfl hc169 rfl (by repeat constructor) ?_ | (refine oLdR1 rfl (by repeat constructor) (by omega) rfl (fun u170 hu170 => ?_))
      refine oWant rfl rfl (oIdxE rfl rfl (hE7) (by omega) rfl rfl ?_)
      have hc171 := (hE7).cell
      refine oWant rfl rfl ?_
      first | refine oLdX rfl hc171 rfl rfl ?_ | refine oLdXA rfl hc171 rfl (by repeat constructor) ?_ | (refine oLdR1 rfl (by repeat constructor) (by omega) rfl (fun u172 hu172 => ?_))
      refine oSet (t := 172) (v' := .bool true) rfl (by rw [hCx h162]) ?_
      refine oWant rfl rfl (oNotT rfl (oWant rfl rfl (oPickT rfl rfl (oPickF rfl rfl (oNil (thn_n ?_))))))
      first | refine wCondF rfl ?_ | refine wCondFd h175 rfl ?_ | refine wCondFb h175 rfl ?_
      refine wSkip (blk_n (thn_n (wRegion' (oMove rfl (oSucc rfl rfl (by omega) ?_)))))
      refine oAssign rfl (oNil (thn_n ?_))
      exact ⟨rfl, j + 1, by omega, by omega, cv, Lh⟩
     refine oSkip rfl rfl rfl rfl (oSkip rfl rfl rfl rfl (oSkip rfl rfl rfl rfl (oSkip rfl rfl rfl rfl (oSkip rfl rfl rfl rfl (oSkip rfl rfl rfl rfl (oSkip rfl rfl rfl rfl (oSkip rfl rfl rfl rfl (oSkip rfl rfl rfl rfl (oSkip rfl rfl rfl rfl (oSkip rfl rfl rfl rfl (oWant rfl rfl ?_)))))))))))
     refine oPickF rfl rfl (oPickF rfl rfl (oNil (thn_n ?_)))
     first | refine wCondF rfl ?_ | refine wCondFd h175 rfl ?_ | refine wCondFb h175 rfl ?_
     refine wSkip (blk_n (thn_n (wRegion' (oMove rfl (oSucc rfl rfl (by omega) ?_)))))
     refine oAssign rfl (oNil (thn_n ?_))
     exact ⟨rfl, j + 1, by omega, by omega, cv, Lh⟩
    refine wExit (thn_x (thn_x (blk_x (blk_n (thn_n (wRegion' (oMove rfl (oSucc rfl rfl (by omega) ?_))))))))
    refine oAssign rfl (oNil (thn_n ?_))
    exact ⟨rfl, i + 1, by omega, by omega, cv, Lh⟩
   refine oWant rfl rfl (oMove rfl (oWant rfl rfl (oMove rfl (oWant rfl rfl (oIdxE rfl rfl (hE3) (by omega) rfl rfl ?_)))))
   have hc91 := (hE3).cell
   refine oWant rfl rfl ?_
   first | refine oLdX rfl hc91 rfl rfl ?_ | refine oLdXA rfl hc91 rfl (by repeat constructor) ?_ | (refine oLdR1 rfl (by repeat constructor) (by omega) rfl (fun u92 hu92 => ?_))
   refine oPickF rfl rfl (oMove rfl ?_)
   first | refine oSplit (t := 94) rfl (fun h94 => ?_) (fun h94 => ?_) | refine oSplitB (t := 94) rfl (fun h94 => ?_) (fun h94 => ?_)
   ·
    refine oWant rfl rfl (oMove rfl (oWant rfl rfl (oMove rfl (oWant rfl rfl (oIdxE rfl rfl (hE1) (by omega) rfl rfl ?_)))))
    have hc97 := (hE1).cell
    refine oWant rfl rfl ?_
    first | refine oLdX rfl hc97 rfl rfl ?_ | refine oLdXA rfl hc97 rfl (by repeat constructor) ?_ | (refine oLdR1 rfl (by repeat constructor) (by omega) rfl (fun u98 hu98 => ?_))
    refine oSet (t := 98) (v' := .bool true) rfl (by rw [hCL h94]) ?_
    refine oWant rfl rfl (oNotT rfl (oPickT rfl rfl (oMove rfl (oWant rfl rfl (oMove rfl (oWant rfl rfl (oMove rfl (oWant rfl rfl (oIdxE rfl rfl (hE4) (by omega) rfl rfl ?_)))))))))
    have hc104 := (hE4).cell
    refine oWant rfl rfl ?_
    first | refine oLdX rfl hc104 rfl rfl ?_ | refine oLdXA rfl hc104 rfl (by repeat constructor) ?_ | (refine oLdR1 rfl (by repeat constructor) (by omega) rfl (fun u105 hu105 => ?_))
    refine oWant rfl rfl (oLenS rfl rfl (oWant rfl rfl (oGtr rfl rfl (oWant rfl rfl (oMove rfl ?_)))))
    first | refine oSplit (t := 108) rfl (fun h108 => ?_) (fun h108 => ?_) | refine oSplitB (t := 108) rfl (fun h108 => ?_) (fun h108 => ?_)
    ·
     refine oWant rfl rfl (oMove rfl (oWant rfl rfl (oMove rfl (oWant rfl rfl (oIdxE rfl rfl (hE1) (by omega) rfl rfl ?_)))))
     have hc111 := (hE1).cell
     refine oWant rfl rfl ?_
     first | refine oLdX rfl hc111 rfl rfl ?_ | refine oLdXA rfl hc111 rfl (by repeat constructor) ?_ | (refine oLdR1 rfl (by repeat constructor) (by omega) rfl (fun u112 hu112 => ?_))
     refine oSet (t := 112) (v' := .bool true) rfl (by rw [hGL (by simpa using h108)]) ?_
     refine oWant rfl rfl (oNotT rfl (oWant rfl rfl (oPickT rfl rfl (oPickF rfl rfl (oNil (thn_n ?_))))))
     first | refine wCondF rfl ?_ | refine wCondFd h115 rfl ?_ | refine wCondFb h115 rfl ?_
     refine wSkip (thn_n (wSeq (wRegion' (oAssign rfl (oNil (thn_n (wBlock (wLoop (ι := Nat) (fun j => [(5, .slice A31 (bindP l mainS).fFuns.length c31), (6, .slice A33 (bindP l mainS).fFuns.length c33), (7, .slice A35 (bindP l mainS).fFuns.length c35), (8, .slice A37 (bindP l mainS).fFuns.length c37), (9, .int .i64 ((bindP l mainS).fFuns.length : Int)), (10, .int .i64 (i : Int)), (11, .int .i64 (j : Int))]) (fun j => []) (fun j => j ≤ g.length) (fun j => g.length - j) 0 ?_ cv Lh ?_))))))))
     ·
      exact Nat.zero_le _
     rintro j hj
     try dsimp only
     refine wSeq (wSeq (wRegion' (oMove rfl (oMove rfl (oMove rfl (oIdxE rfl rfl (hE4) (by omega) rfl rfl ?_))))))
     have hc119 := (hE4).cell
     first | refine oLdX rfl hc119 rfl rfl ?_ | refine oLdXA rfl hc119 rfl (by repeat constructor) ?_ | (refine oLdR1 rfl (by repeat constructor) (by omega) rfl (fun u120 hu120 => ?_))
     refine oLenS rfl rfl (oLss rfl rfl (oNil (thn_n (wC (fun h122 => ?_) (fun h122 => ?_)))))
     ·
      obtain ⟨x, hx⟩ : ∃ x, g[j]? = some x := ⟨_, List.getElem?_eq_getElem (by omega)⟩
      obtain ⟨e5, cs5, hE5⟩ := hX1.elm hx
      obtain rfl := (show cs5 = [Value.int .i64 x] from hE5.K)
      have hxm := List.mem_of_getElem? hx
      have hxb := hgb x hxm
      obtain ⟨k, rfl⟩ := Int.eq_ofNat_of_zero_le hxb.1
      have hkl : k < (bindP l mainS).fFuns.length := by omega
      obtain ⟨cx, hcx⟩ : ∃ u, (calledL (bindP l mainS))[k]? = some u := ⟨_, List.getElem?_eq_getElem (by omega)⟩
      have hCx : cc = true → cx = true := fun h => Option.some.inj (hcx.symm.trans (hgc k hxm (by rw [hcc, h])))
      obtain ⟨e6, cs6, hE6⟩ := hcL.elm (hgx k hxm).2
      obtain rfl := (show cs6 = [Value.bool true] from hE6.K)
      obtain ⟨e7, cs7, hE7⟩ := hcC.elm hcx
      obtain rfl := (show cs7 = [Value.bool cx] from hE7.K)
      refine wSkip (thn_n (wSeq (wBlock (wSeq (wRegion' (oMove rfl (oMove rfl (oIdxE rfl rfl (hE4) (by omega) rfl rfl ?_))))))))
      have hc127 := (hE4).cell
      first | refine oLdX rfl hc127 rfl rfl ?_ | refine oLdXA rfl hc127 rfl (by repeat constructor) ?_ | (refine oLdR1 rfl (by repeat constructor) (by omega) rfl (fun u128 hu128 => ?_))
      refine oMove rfl (oIdxE rfl rfl (hE5) (by omega) rfl rfl ?_)
      have hc130 := (hE5).cell
      first | refine oLdX rfl hc130 rfl rfl ?_ | refine oLdXA rfl hc130 rfl (by repeat constructor) ?_ | (refine oLdR1 rfl (by repeat constructor) (by omega) rfl (fun u131 hu131 => ?_))
      refine oLss rfl rfl (oSet (t := 132) (v' := .bool false) rfl (by rw [decide_eq_false (by omega)]) ?_)
      refine oMove rfl (oWant rfl rfl (oMove rfl (oWant rfl rfl (oMove rfl (oWant rfl rfl (oIdxE rfl rfl (hE4) (by omega) rfl rfl ?_))))))
      have hc136 := (hE4).cell
      refine oWant rfl rfl ?_
      first | refine oLdX rfl hc136 rfl rfl ?_ | refine oLdXA rfl hc136 rfl (by repeat constructor) ?_ | (refine oLdR1 rfl (by repeat constructor) (by omega) rfl (fun u137 hu137 => ?_))
      refine oWant rfl rfl (oMove rfl (oWant rfl rfl (oIdxE rfl rfl (hE5) (by omega) rfl rfl ?_)))
      have hc139 := (hE5).cell
      refine oWant rfl rfl ?_
      first | refine oLdX rfl hc139 rfl rfl ?_ | refine oLdXA rfl hc139 rfl (by repeat constructor) ?_ | (refine oLdR1 rfl (by repeat constructor) (by omega) rfl (fun u140 hu140 => ?_))
      refine oWant rfl rfl (oMove rfl (oWant rfl rfl (oGeq rfl rfl (oSet (t := 142) (v' := .bool false) rfl (by rw [decide_eq_false (by omega)]) ?_))))
      refine oPickF rfl rfl (oMove rfl (oWant rfl rfl (oMove rfl (oWant rfl rfl (oMove rfl (oWant rfl rfl (oMove rfl (oWant rfl rfl (oIdxE rfl rfl (hE4) (by omega) rfl rfl ?_)))))))))
      have hc148 := (hE4).cell
      refine oWant rfl rfl ?_
      first | refine oLdX rfl hc148 rfl rfl ?_ | refine oLdXA rfl hc148 rfl (by repeat constructor) ?_ | (refine oLdR1 rfl (by repeat constructor) (by omega) rfl (fun u149 hu149 => ?_))
      refine oWant rfl rfl (oMove rfl (oWant rfl rfl (oIdxE rfl rfl (hE5) (by omega) rfl rfl ?_)))
      have hc151 := (hE5).cell
      refine oWant rfl rfl ?_
      first | refine oLdX rfl hc151 rfl rfl ?_ | refine oLdXA rfl hc151 rfl (by repeat constructor) ?_ | (refine oLdR1 rfl (by repeat constructor) (by omega) rfl (fun u152 hu152 => ?_))
      refine oWant rfl rfl (oIdxE rfl rfl (hE6) (by omega) rfl rfl ?_)
      have hc153 := (hE6).cell
      refine oWant rfl rfl ?_
      first | refine oLdX rfl hc153 rfl rfl ?_ | refine oLdXA rfl hc153 rfl (by repeat constructor) ?_ | (refine oLdR1 rfl (by repeat constructor) (by omega) rfl (fun u154 hu154 => ?_))
      refine oWant rfl rfl (oNotT rfl (oPickF rfl rfl (oMove rfl (oWant rfl rfl (oMove rfl (oWant rfl rfl (oMove rfl (oWant rfl rfl (oIdxE rfl rfl (hE3) (by omega) rfl rfl ?_)))))))))
      have hc160 := (hE3).cell
      refine oWant rfl rfl ?_
      first | refine oLdX rfl hc160 rfl rfl ?_ | refine oLdXA rfl hc160 rfl (by repeat constructor) ?_ | (refine oLdR1 rfl (by repeat constructor) (by omega) rfl (fun u161 hu161 => ?_))
      refine oWant rfl rfl (oMove rfl ?_)
      first | refine oSplit (t := 162) rfl (fun h162 => ?_) (fun h162 => ?_) | refine oSplitB (t := 162) rfl (fun h162 => ?_) (fun h162 => ?_)
      ·
       refine oWant rfl rfl (oMove rfl (oWant rfl rfl (oMove rfl (oWant rfl rfl (oMove rfl (oWant rfl rfl (oIdxE rfl rfl (hE4) (by omega) rfl rfl ?_)))))))
       have hc166 := (hE4).cell
       refine oWant rfl rfl ?_
       first | refine oLdX rfl hc166 rfl rfl ?_ | refine oLdXA rfl hc166 rfl (by repeat constructor) ?_ | (refine oLdR1 rfl (by repeat constructor) (by omega) rfl (fun u167 hu167 => ?_))
       refine oWant rfl rfl (oMove rfl (oWant rfl rfl (oIdxE rfl rfl (hE5) (by omega) rfl rfl ?_)))
       have hc169 := (hE5).cell
       refine oWant rfl rfl ?_
       first | refine oLdX rfl hc169 rfl rfl ?_ | refine oLdXA rfl hc169 rfl (by repeat constructor) ?_ | (refine oLdR1 rfl (by repeat constructor) (by omega) rfl (fun u170 hu170 => ?_))
       refine oWant rfl rfl (oIdxE rfl rfl (hE7) (by omega) rfl rfl ?_)
       have hc171 := (hE7).cell
       refine oWant rfl rfl ?_
       first | refine oLdX rfl hc171 rfl rfl ?_ | refine oLdXA rfl hc171 rfl (by repeat constructor) ?_ | (refine oLdR1 rfl (by repeat constructor) (by omega) rfl (fun u172 hu172 => ?_))
       refine oSet (t := 172) (v' := .bool true) rfl (by rw [hCx h162]) ?_
       refine oWant rfl rfl (oNotT rfl (oWant rfl rfl (oPickT rfl rfl (oPickF rfl rfl (oNil (thn_n ?_))))))
       first | refine wCondF rfl ?_ | refine wCondFd h175 rfl ?_ | refine wCondFb h175 rfl ?_
       refine wSkip (blk_n (thn_n (wRegion' (oMove rfl (oSucc rfl rfl (by omega) ?_)))))
       refine oAssign rfl (oNil (thn_n ?_))
       exact ⟨rfl, j + 1, by omega, by omega, cv, Lh⟩
      refine oSkip rfl rfl rfl rfl (oSkip rfl rfl rfl rfl (oSkip rfl rfl rfl rfl (oSkip rfl rfl rfl rfl (oSkip rfl rfl rfl rfl (oSkip rfl rfl rfl rfl (oSkip rfl rfl rfl rfl (oSkip rfl rfl rfl rfl (oSkip rfl rfl rfl rfl (oSkip rfl rfl rfl rfl (oSkip rfl rfl rfl rfl (oWant rfl rfl ?_)))))))))))
      refine oPickF rfl rfl (oPickF rfl rfl (oNil (thn_n ?_)))
      first | refine wCondF rfl ?_ | refine wCondFd h175 rfl ?_ | refine wCondFb h175 rfl ?_
      refine wSkip (blk_n (thn_n (wRegion' (oMove rfl (oSucc rfl rfl (by omega) ?_)))))
      refine oAssign rfl (oNil (thn_n ?_))
      exact ⟨rfl, j + 1, by omega, by omega, cv, Lh⟩
     refine wExit (thn_x (thn_x (blk_x (blk_n (thn_n (wRegion' (oMove rfl (oSucc rfl rfl (by omega) ?_))))))))
     refine oAssign rfl (oNil (thn_n ?_))
     exact ⟨rfl, i + 1, by omega, by omega, cv, Lh⟩
    refine oSkip rfl rfl rfl rfl (oSkip rfl rfl rfl rfl (oSkip rfl rfl rfl rfl (oSkip rfl rfl rfl rfl (oSkip rfl rfl rfl rfl (oWant rfl rfl (oPickF rfl rfl (oPickF rfl rfl (oNil (thn_n ?_)))))))))
    first | refine wCondF rfl ?_ | refine wCondFd h115 rfl ?_ | refine wCondFb h115 rfl ?_
    refine wSkip (thn_n (wSeq (wRegion' (oAssign rfl (oNil (thn_n (wBlock (wLoop (ι := Nat) (fun j => [(5, .slice A31 (bindP l mainS).fFuns.length c31), (6, .slice A33 (bindP l mainS).fFuns.length c33), (7, .slice A35 (bindP l mainS).fFuns.length c35), (8, .slice A37 (bindP l mainS).fFuns.length c37), (9, .int .i64 ((bindP l mainS).fFuns.length : Int)), (10, .int .i64 (i : Int)), (11, .int .i64 (j : Int))]) (fun j => []) (fun j => j ≤ g.length) (fun j => g.length - j) 0 ?_ cv Lh ?_))))))))
    ·
     exact Nat.zero_le _
    rintro j hj
    try dsimp only
    refine wSeq (wSeq (wRegion' (oMove rfl (oMove rfl (oMove rfl (oIdxE rfl rfl (hE4) (by omega) rfl rfl ?_))))))
    have hc119 := (hE4).cell
    first | refine oLdX rfl hc119 rfl rfl ?_ | refine oLdXA rfl hc119 rfl (by repeat constructor) ?_ | (refine oLdR1 rfl (by repeat constructor) (by omega) rfl (fun u120 hu120 => ?_))
    refine oLenS rfl rfl (oLss rfl rfl (oNil (thn_n (wC (fun h122 => ?_) (fun h122 => ?_)))))
    ·
     obtain ⟨x, hx⟩ : ∃ x, g[j]? = some x := ⟨_, List.getElem?_eq_getElem (by omega)⟩
     obtain ⟨e5, cs5, hE5⟩ := hX1.elm hx
     obtain rfl := (show cs5 = [Value.int .i64 x] from hE5.K)
     have hxm := List.mem_of_getElem? hx
     have hxb := hgb x hxm
     obtain ⟨k, rfl⟩ := Int.eq_ofNat_of_zero_le hxb.1
     have hkl : k < (bindP l mainS).fFuns.length := by omega
     obtain ⟨cx, hcx⟩ : ∃ u, (calledL (bindP l mainS))[k]? = some u := ⟨_, List.getElem?_eq_getElem (by omega)⟩
     have hCx : cc = true → cx = true := fun h => Option.some.inj (hcx.symm.trans (hgc k hxm (by rw [hcc, h])))
     obtain ⟨e6, cs6, hE6⟩ := hcL.elm (hgx k hxm).2
     obtain rfl := (show cs6 = [Value.bool true] from hE6.K)
     obtain ⟨e7, cs7, hE7⟩ := hcC.elm hcx
     obtain rfl := (show cs7 = [Value.bool cx] from hE7.K)
     refine wSkip (thn_n (wSeq (wBlock (wSeq (wRegion' (oMove rfl (oMove rfl (oIdxE rfl rfl (hE4) (by omega) rfl rfl ?_))))))))
     have hc127 := (hE4).cell
     first | refine oLdX rfl hc127 rfl rfl ?_ | refine oLdXA rfl hc127 rfl (by repeat constructor) ?_ | (refine oLdR1 rfl (by repeat constructor) (by omega) rfl (fun u128 hu128 => ?_))
     refine oMove rfl (oIdxE rfl rfl (hE5) (by omega) rfl rfl ?_)
     have hc130 := (hE5).cell
     first | refine oLdX rfl hc130 rfl rfl ?_ | refine oLdXA rfl hc130 rfl (by repeat constructor) ?_ | (refine oLdR1 rfl (by repeat constructor) (by omega) rfl (fun u131 hu131 => ?_))
     refine oLss rfl rfl (oSet (t := 132) (v' := .bool false) rfl (by rw [decide_eq_false (by omega)]) ?_)
     refine oMove rfl (oWant rfl rfl (oMove rfl (oWant rfl rfl (oMove rfl (oWant rfl rfl (oIdxE rfl rfl (hE4) (by omega) rfl rfl ?_))))))
     have hc136 := (hE4).cell
     refine oWant rfl rfl ?_
     first | refine oLdX rfl hc136 rfl rfl ?_ | refine oLdXA rfl hc136 rfl (by repeat constructor) ?_ | (refine oLdR1 rfl (by repeat constructor) (by omega) rfl (fun u137 hu137 => ?_))
     refine oWant rfl rfl (oMove rfl (oWant rfl rfl (oIdxE rfl rfl (hE5) (by omega) rfl rfl ?_)))
     have hc139 := (hE5).cell
     refine oWant rfl rfl ?_
     first | refine oLdX rfl hc139 rfl rfl ?_ | refine oLdXA rfl hc139 rfl (by repeat constructor) ?_ | (refine oLdR1 rfl (by repeat constructor) (by omega) rfl (fun u140 hu140 => ?_))
     refine oWant rfl rfl (oMove rfl (oWant rfl rfl (oGeq rfl rfl (oSet (t := 142) (v' := .bool false) rfl (by rw [decide_eq_false (by omega)]) ?_))))
     refine oPickF rfl rfl (oMove rfl (oWant rfl rfl (oMove rfl (oWant rfl rfl (oMove rfl (oWant rfl rfl (oMove rfl (oWant rfl rfl (oIdxE rfl rfl (hE4) (by omega) rfl rfl ?_)))))))))
     have hc148 := (hE4).cell
     refine oWant rfl rfl ?_
     first | refine oLdX rfl hc148 rfl rfl ?_ | refine oLdXA rfl hc148 rfl (by repeat constructor) ?_ | (refine oLdR1 rfl (by repeat constructor) (by omega) rfl (fun u149 hu149 => ?_))
     refine oWant rfl rfl (oMove rfl (oWant rfl rfl (oIdxE rfl rfl (hE5) (by omega) rfl rfl ?_)))
     have hc151 := (hE5).cell
     refine oWant rfl rfl ?_
     first | refine oLdX rfl hc151 rfl rfl ?_ | refine oLdXA rfl hc151 rfl (by repeat constructor) ?_ | (refine oLdR1 rfl (by repeat constructor) (by omega) rfl (fun u152 hu152 => ?_))
     refine oWant rfl rfl (oIdxE rfl rfl (hE6) (by omega) rfl rfl ?_)
     have hc153 := (hE6).cell
     refine oWant rfl rfl ?_
     first | refine oLdX rfl hc153 rfl rfl ?_ | refine oLdXA rfl hc153 rfl (by repeat constructor) ?_ | (refine oLdR1 rfl (by repeat constructor) (by omega) rfl (fun u154 hu154 => ?_))
     refine oWant rfl rfl (oNotT rfl (oPickF rfl rfl (oMove rfl (oWant rfl rfl (oMove rfl (oWant rfl rfl (oMove rfl (oWant rfl rfl (oIdxE rfl rfl (hE3) (by omega) rfl rfl ?_)))))))))
     have hc160 := (hE3).cell
     refine oWant rfl rfl ?_
     first | refine oLdX rfl hc160 rfl rfl ?_ | refine oLdXA rfl hc160 rfl (by repeat constructor) ?_ | (refine oLdR1 rfl (by repeat constructor) (by omega) rfl (fun u161 hu161 => ?_))
     refine oWant rfl rfl (oMove rfl ?_)
     first | refine oSplit (t := 162) rfl (fun h162 => ?_) (fun h162 => ?_) | refine oSplitB (t := 162) rfl (fun h162 => ?_) (fun h162 => ?_)
     ·
      refine oWant rfl rfl (oMove rfl (oWant rfl rfl (oMove rfl (oWant rfl rfl (oMove rfl (oWant rfl rfl (oIdxE rfl rfl (hE4) (by omega) rfl rfl ?_)))))))
      have hc166 := (hE4).cell
      refine oWant rfl rfl ?_
      first | refine oLdX rfl hc166 rfl rfl ?_ | refine oLdXA rfl hc166 rfl (by repeat constructor) ?_ | (refine oLdR1 rfl (by repeat constructor) (by omega) rfl (fun u167 hu167 => ?_))
      refine oWant rfl rfl (oMove rfl (oWant rfl rfl (oIdxE rfl rfl (hE5) (by omega) rfl rfl ?_)))
      have hc169 := (hE5).cell
      refine oWant rfl rfl ?_
      first | refine oLdX rfl hc169 rfl rfl ?_ | refine oLdXA rfl hc169 rfl (by repeat constructor) ?_ | (refine oLdR1 rfl (by repeat constructor) (by omega) rfl (fun u170 hu170 => ?_))
      refine oWant rfl rfl (oIdxE rfl rfl (hE7) (by omega) rfl rfl ?_)
      have hc171 := (hE7).cell
      refine oWant rfl rfl ?_
      first | refine oLdX rfl hc171 rfl rfl ?_ | refine oLdXA rfl hc171 rfl (by repeat constructor) ?_ | (refine oLdR1 rfl (by repeat constructor) (by omega) rfl (fun u172 hu172 => ?_))
      refine oSet (t := 172) (v' := .bool true) rfl (by rw [hCx h162]) ?_
      refine oWant rfl rfl (oNotT rfl (oWant rfl rfl (oPickT rfl rfl (oPickF rfl rfl (oNil (thn_n ?_))))))
      first | refine wCondF rfl ?_ | refine wCondFd h175 rfl ?_ | refine wCondFb h175 rfl ?_
      refine wSkip (blk_n (thn_n (wRegion' (oMove rfl (oSucc rfl rfl (by omega) ?_)))))
      refine oAssign rfl (oNil (thn_n ?_))
      exact ⟨rfl, j + 1, by omega, by omega, cv, Lh⟩
     refine oSkip rfl rfl rfl rfl (oSkip rfl rfl rfl rfl (oSkip rfl rfl rfl rfl (oSkip rfl rfl rfl rfl (oSkip rfl rfl rfl rfl (oSkip rfl rfl rfl rfl (oSkip rfl rfl rfl rfl (oSkip rfl rfl rfl rfl (oSkip rfl rfl rfl rfl (oSkip rfl rfl rfl rfl (oSkip rfl rfl rfl rfl (oWant rfl rfl ?_)))))))))))
     refine oPickF rfl rfl (oPickF rfl rfl (oNil (thn_n ?_)))
     first | refine wCondF rfl ?_ | refine wCondFd h175 rfl ?_ | refine wCondFb h175 rfl ?_
     refine wSkip (blk_n (thn_n (wRegion' (oMove rfl (oSucc rfl rfl (by omega) ?_)))))
     refine oAssign rfl (oNil (thn_n ?_))
     exact ⟨rfl, j + 1, by omega, by omega, cv, Lh⟩
    refine wExit (thn_x (thn_x (blk_x (blk_n (thn_n (wRegion' (oMove rfl (oSucc rfl rfl (by omega) ?_))))))))
    refine oAssign rfl (oNil (thn_n ?_))
    exact ⟨rfl, i + 1, by omega, by omega, cv, Lh⟩
   refine oSkip rfl rfl rfl rfl (oSkip rfl rfl rfl rfl (oSkip rfl rfl rfl rfl (oSkip rfl rfl rfl rfl (oSkip rfl rfl rfl rfl (oPickF rfl rfl (oMove rfl (oWant rfl rfl (oMove rfl (oWant rfl rfl (oMove rfl (oWant rfl rfl ?_)))))))))))
   refine oIdxE rfl rfl (hE4) (by omega) rfl rfl ?_
   have hc104 := (hE4).cell
   refine oWant rfl rfl ?_
   first | refine oLdX rfl hc104 rfl rfl ?_ | refine oLdXA rfl hc104 rfl (by repeat constructor) ?_ | (refine oLdR1 rfl (by repeat constructor) (by omega) rfl (fun u105 hu105 => ?_))
   refine oWant rfl rfl (oLenS rfl rfl (oWant rfl rfl (oGtr rfl rfl (oWant rfl rfl (oMove rfl ?_)))))
   first | refine oSplit (t := 108) rfl (fun h108 => ?_) (fun h108 => ?_) | refine oSplitB (t := 108) rfl (fun h108 => ?_) (fun h108 => ?_)
   ·
    refine oWant rfl rfl (oMove rfl (oWant rfl rfl (oMove rfl (oWant rfl rfl (oIdxE rfl rfl (hE1) (by omega) rfl rfl ?_)))))
    have hc111 := (hE1).cell
    refine oWant rfl rfl ?_
    first | refine oLdX rfl hc111 rfl rfl ?_ | refine oLdXA rfl hc111 rfl (by repeat constructor) ?_ | (refine oLdR1 rfl (by repeat constructor) (by omega) rfl (fun u112 hu112 => ?_))
    refine oSet (t := 112) (v' := .bool true) rfl (by rw [hGL (by simpa using h108)]) ?_
    refine oWant rfl rfl (oNotT rfl (oWant rfl rfl (oPickT rfl rfl (oPickF rfl rfl (oNil (thn_n ?_))))))
    first | refine wCondF rfl ?_ | refine wCondFd h115 rfl ?_ | refine wCondFb h115 rfl ?_
    refine wSkip (thn_n (wSeq (wRegion' (oAssign rfl (oNil (thn_n (wBlock (wLoop (ι := Nat) (fun j => [(5, .slice A31 (bindP l mainS).fFuns.length c31), (6, .slice A33 (bindP l mainS).fFuns.length c33), (7, .slice A35 (bindP l mainS).fFuns.length c35), (8, .slice A37 (bindP l mainS).fFuns.length c37), (9, .int .i64 ((bindP l mainS).fFuns.length : Int)), (10, .int .i64 (i : Int)), (11, .int .i64 (j : Int))]) (fun j => []) (fun j => j ≤ g.length) (fun j => g.length - j) 0 ?_ cv Lh ?_))))))))
    ·
     exact Nat.zero_le _
    rintro j hj
    try dsimp only
    refine wSeq (wSeq (wRegion' (oMove rfl (oMove rfl (oMove rfl (oIdxE rfl rfl (hE4) (by omega) rfl rfl ?_))))))
    have hc119 := (hE4).cell
    first | refine oLdX rfl hc119 rfl rfl ?_ | refine oLdXA rfl hc119 rfl (by repeat constructor) ?_ | (refine oLdR1 rfl (by repeat constructor) (by omega) rfl (fun u120 hu120 => ?_))
    refine oLenS rfl rfl (oLss rfl rfl (oNil (thn_n (wC (fun h122 => ?_) (fun h122 => ?_)))))
    ·
     obtain ⟨x, hx⟩ : ∃ x, g[j]? = some x := ⟨_, List.getElem?_eq_getElem (by omega)⟩
     obtain ⟨e5, cs5, hE5⟩ := hX1.elm hx
     obtain rfl := (show cs5 = [Value.int .i64 x] from hE5.K)
     have hxm := List.mem_of_getElem? hx
     have hxb := hgb x hxm
     obtain ⟨k, rfl⟩ := Int.eq_ofNat_of_zero_le hxb.1
     have hkl : k < (bindP l mainS).fFuns.length := by omega
     obtain ⟨cx, hcx⟩ : ∃ u, (calledL (bindP l mainS))[k]? = some u := ⟨_, List.getElem?_eq_getElem (by omega)⟩
     have hCx : cc = true → cx = true := fun h => Option.some.inj (hcx.symm.trans (hgc k hxm (by rw [hcc, h])))
     obtain ⟨e6, cs6, hE6⟩ := hcL.elm (hgx k hxm).2
     obtain rfl := (show cs6 = [Value.bool true] from hE6.K)
     obtain ⟨e7, cs7, hE7⟩ := hcC.elm hcx
     obtain rfl := (show cs7 = [Value.bool cx] from hE7.K)
     refine wSkip (thn_n (wSeq (wBlock (wSeq (wRegion' (oMove rfl (oMove rfl (oIdxE rfl rfl (hE4) (by omega) rfl rfl ?_))))))))
     have hc127 := (hE4).cell
     first | refine oLdX rfl hc127 rfl rfl ?_ | refine oLdXA rfl hc127 rfl (by repeat constructor) ?_ | (refine oLdR1 rfl (by repeat constructor) (by omega) rfl (fun u128 hu128 => ?_))
     refine oMove rfl (oIdxE rfl rfl (hE5) (by omega) rfl rfl ?_)
     have hc130 := (hE5).cell
     first | refine oLdX rfl hc130 rfl rfl ?_ | refine oLdXA rfl hc130 rfl (by repeat constructor) ?_ | (refine oLdR1 rfl (by repeat constructor) (by omega) rfl (fun u131 hu131 => ?_))
     refine oLss rfl rfl (oSet (t := 132) (v' := .bool false) rfl (by rw [decide_eq_false (by omega)]) ?_)
     refine oMove rfl (oWant rfl rfl (oMove rfl (oWant rfl rfl (oMove rfl (oWant rfl rfl (oIdxE rfl rfl (hE4) (by omega) rfl rfl ?_))))))
     have hc136 := (hE4).cell
     refine oWant rfl rfl ?_
     first | refine oLdX rfl hc136 rfl rfl ?_ | refine oLdXA rfl hc136 rfl (by repeat constructor) ?_ | (refine oLdR1 rfl (by repeat constructor) (by omega) rfl (fun u137 hu137 => ?_))
     refine oWant rfl rfl (oMove rfl (oWant rfl rfl (oIdxE rfl rfl (hE5) (by omega) rfl rfl ?_)))
     have hc139 := (hE5).cell
     refine oWant rfl rfl ?_
     first | refine oLdX rfl hc139 rfl rfl ?_ | refine oLdXA rfl hc139 rfl (by repeat constructor) ?_ | (refine oLdR1 rfl (by repeat constructor) (by omega) rfl (fun u140 hu140 => ?_))
     refine oWant rfl rfl (oMove rfl (oWant rfl rfl (oGeq rfl rfl (oSet (t := 142) (v' := .bool false) rfl (by rw [decide_eq_false (by omega)]) ?_))))
     refine oPickF rfl rfl (oMove rfl (oWant rfl rfl (oMove rfl (oWant rfl rfl (oMove rfl (oWant rfl rfl (oMove rfl (oWant rfl rfl (oIdxE rfl rfl (hE4) (by omega) rfl rfl ?_)))))))))
     have hc148 := (hE4).cell
     refine oWant rfl rfl ?_
     first | refine oLdX rfl hc148 rfl rfl ?_ | refine oLdXA rfl hc148 rfl (by repeat constructor) ?_ | (refine oLdR1 rfl (by repeat constructor) (by omega) rfl (fun u149 hu149 => ?_))
     refine oWant rfl rfl (oMove rfl (oWant rfl rfl (oIdxE rfl rfl (hE5) (by omega) rfl rfl ?_)))
     have hc151 := (hE5).cell
     refine oWant rfl rfl ?_
     first | refine oLdX rfl hc151 rfl rfl ?_ | refine oLdXA rfl hc151 rfl (by repeat constructor) ?_ | (refine oLdR1 rfl (by repeat constructor) (by omega) rfl (fun u152 hu152 => ?_))
     refine oWant rfl rfl (oIdxE rfl rfl (hE6) (by omega) rfl rfl ?_)
     have hc153 := (hE6).cell
     refine oWant rfl rfl ?_
     first | refine oLdX rfl hc153 rfl rfl ?_ | refine oLdXA rfl hc153 rfl (by repeat constructor) ?_ | (refine oLdR1 rfl (by repeat constructor) (by omega) rfl (fun u154 hu154 => ?_))
     refine oWant rfl rfl (oNotT rfl (oPickF rfl rfl (oMove rfl (oWant rfl rfl (oMove rfl (oWant rfl rfl (oMove rfl (oWant rfl rfl (oIdxE rfl rfl (hE3) (by omega) rfl rfl ?_)))))))))
     have hc160 := (hE3).cell
     refine oWant rfl rfl ?_
     first | refine oLdX rfl hc160 rfl rfl ?_ | refine oLdXA rfl hc160 rfl (by repeat constructor) ?_ | (refine oLdR1 rfl (by repeat constructor) (by omega) rfl (fun u161 hu161 => ?_))
     refine oWant rfl rfl (oMove rfl ?_)
     first | refine oSplit (t := 162) rfl (fun h162 => ?_) (fun h162 => ?_) | refine oSplitB (t := 162) rfl (fun h162 => ?_) (fun h162 => ?_)
     ·
      refine oWant rfl rfl (oMove rfl (oWant rfl rfl (oMove rfl (oWant rfl rfl (oMove rfl (oWant rfl rfl (oIdxE rfl rfl (hE4) (by omega) rfl rfl ?_)))))))
      have hc166 := (hE4).cell
      refine oWant rfl rfl ?_
      first | refine oLdX rfl hc166 rfl rfl ?_ | refine oLdXA rfl hc166 rfl (by repeat constructor) ?_ | (refine oLdR1 rfl (by repeat constructor) (by omega) rfl (fun u167 hu167 => ?_))
      refine oWant rfl rfl (oMove rfl (oWant rfl rfl (oIdxE rfl rfl (hE5) (by omega) rfl rfl ?_)))
      have hc169 := (hE5).cell
      refine oWant rfl rfl ?_
      first | refine oLdX rfl hc169 rfl rfl ?_ | refine oLdXA rfl hc169 rfl (by repeat constructor) ?_ | (refine oLdR1 rfl (by repeat constructor) (by omega) rfl (fun u170 hu170 => ?_))
      refine oWant rfl rfl (oIdxE rfl rfl (hE7) (by omega) rfl rfl ?_)
      have hc171 := (hE7).cell
      refine oWant rfl rfl ?_
      first | refine oLdX rfl hc171 rfl rfl ?_ | refine oLdXA rfl hc171 rfl (by repeat constructor) ?_ | (refine oLdR1 rfl (by repeat constructor) (by omega) rfl (fun u172 hu172 => ?_))
      refine oSet (t := 172) (v' := .bool true) rfl (by rw [hCx h162]) ?_
      refine oWant rfl rfl (oNotT rfl (oWant rfl rfl (oPickT rfl rfl (oPickF rfl rfl (oNil (thn_n ?_))))))
      first | refine wCondF rfl ?_ | refine wCondFd h175 rfl ?_ | refine wCondFb h175 rfl ?_
      refine wSkip (blk_n (thn_n (wRegion' (oMove rfl (oSucc rfl rfl (by omega) ?_)))))
      refine oAssign rfl (oNil (thn_n ?_))
      exact ⟨rfl, j + 1, by omega, by omega, cv, Lh⟩
     refine oSkip rfl rfl rfl rfl (oSkip rfl rfl rfl rfl (oSkip rfl rfl rfl rfl (oSkip rfl rfl rfl rfl (oSkip rfl rfl rfl rfl (oSkip rfl rfl rfl rfl (oSkip rfl rfl rfl rfl (oSkip rfl rfl rfl rfl (oSkip rfl rfl rfl rfl (oSkip rfl rfl rfl rfl (oSkip rfl rfl rfl rfl (oWant rfl rfl ?_)))))))))))
     refine oPickF rfl rfl (oPickF rfl rfl (oNil (thn_n ?_)))
     first | refine wCondF rfl ?_ | refine wCondFd h175 rfl ?_ | refine wCondFb h175 rfl ?_
     refine wSkip (blk_n (thn_n (wRegion' (oMove rfl (oSucc rfl rfl (by omega) ?_)))))
     refine oAssign rfl (oNil (thn_n ?_))
     exact ⟨rfl, j + 1, by omega, by omega, cv, Lh⟩
    refine wExit (thn_x (thn_x (blk_x (blk_n (thn_n (wRegion' (oMove rfl (oSucc rfl rfl (by omega) ?_))))))))
    refine oAssign rfl (oNil (thn_n ?_))
    exact ⟨rfl, i + 1, by omega, by omega, cv, Lh⟩
   refine oSkip rfl rfl rfl rfl (oSkip rfl rfl rfl rfl (oSkip rfl rfl rfl rfl (oSkip rfl rfl rfl rfl (oSkip rfl rfl rfl rfl (oWant rfl rfl (oPickF rfl rfl (oPickF rfl rfl (oNil (thn_n ?_)))))))))
   first | refine wCondF rfl ?_ | refine wCondFd h115 rfl ?_ | refine wCondFb h115 rfl ?_
   refine wSkip (thn_n (wSeq (wRegion' (oAssign rfl (oNil (thn_n (wBlock (wLoop (ι := Nat) (fun j => [(5, .slice A31 (bindP l mainS).fFuns.length c31), (6, .slice A33 (bindP l mainS).fFuns.length c33), (7, .slice A35 (bindP l mainS).fFuns.length c35), (8, .slice A37 (bindP l mainS).fFuns.length c37), (9, .int .i64 ((bindP l mainS).fFuns.length : Int)), (10, .int .i64 (i : Int)), (11, .int .i64 (j : Int))]) (fun j => []) (fun j => j ≤ g.length) (fun j => g.length - j) 0 ?_ cv Lh ?_))))))))
   ·
    exact Nat.zero_le _
   rintro j hj
   try dsimp only
   refine wSeq (wSeq (wRegion' (oMove rfl (oMove rfl (oMove rfl (oIdxE rfl rfl (hE4) (by omega) rfl rfl ?_))))))
   have hc119 := (hE4).cell
   first | refine oLdX rfl hc119 rfl rfl ?_ | refine oLdXA rfl hc119 rfl (by repeat constructor) ?_ | (refine oLdR1 rfl (by repeat constructor) (by omega) rfl (fun u120 hu120 => ?_))
   refine oLenS rfl rfl (oLss rfl rfl (oNil (thn_n (wC (fun h122 => ?_) (fun h122 => ?_)))))
   ·
    obtain ⟨x, hx⟩ : ∃ x, g[j]? = some x := ⟨_, List.getElem?_eq_getElem (by omega)⟩
    obtain ⟨e5, cs5, hE5⟩ := hX1.elm hx
    obtain rfl := (show cs5 = [Value.int .i64 x] from hE5.K)
    have hxm := List.mem_of_getElem? hx
    have hxb := hgb x hxm
    obtain ⟨k, rfl⟩ := Int.eq_ofNat_of_zero_le hxb.1
    have hkl : k < (bindP l mainS).fFuns.length := by omega
    obtain ⟨cx, hcx⟩ : ∃ u, (calledL (bindP l mainS))[k]? = some u := ⟨_, List.getElem?_eq_getElem (by omega)⟩
    have hCx : cc = true → cx = true := fun h => Option.some.inj (hcx.symm.trans (hgc k hxm (by rw [hcc, h])))
    obtain ⟨e6, cs6, hE6⟩ := hcL.elm (hgx k hxm).2
    obtain rfl := (show cs6 = [Value.bool true] from hE6.K)
    obtain ⟨e7, cs7, hE7⟩ := hcC.elm hcx
    obtain rfl := (show cs7 = [Value.bool cx] from hE7.K)
    refine wSkip (thn_n (wSeq (wBlock (wSeq (wRegion' (oMove rfl (oMove rfl (oIdxE rfl rfl (hE4) (by omega) rfl rfl ?_))))))))
    have hc127 := (hE4).cell
    first | refine oLdX rfl hc127 rfl rfl ?_ | refine oLdXA rfl hc127 rfl (by repeat constructor) ?_ | (refine oLdR1 rfl (by repeat constructor) (by omega) rfl (fun u128 hu128 => ?_))
    refine oMove rfl (oIdxE rfl rfl (hE5) (by omega) rfl rfl ?_)
    have hc130 := (hE5).cell
    first | refine oLdX rfl hc130 rfl rfl ?_ | refine oLdXA rfl hc130 rfl (by repeat constructor) ?_ | (refine oLdR1 rfl (by repeat constructor) (by omega) rfl (fun u131 hu131 => ?_))
    refine oLss rfl rfl (oSet (t := 132) (v' := .bool false) rfl (by rw [decide_eq_false (by omega)]) ?_)
    refine oMove rfl (oWant rfl rfl (oMove rfl (oWant rfl rfl (oMove rfl (oWant rfl rfl (oIdxE rfl rfl (hE4) (by omega) rfl rfl ?_))))))
    have hc136 := (hE4).cell
    refine oWant rfl rfl ?_
    first | refine oLdX rfl hc136 rfl rfl ?_ | refine oLdXA rfl hc136 rfl (by repeat constructor) ?_ | (refine oLdR1 rfl (by repeat constructor) (by omega) rfl (fun u137 hu137 => ?_))
    refine oWant rfl rfl (oMove rfl (oWant rfl rfl (oIdxE rfl rfl (hE5) (by omega) rfl rfl ?_)))
    have hc139 := (hE5).cell
    refine oWant rfl rfl ?_
    first | refine oLdX rfl hc139 rfl rfl ?_ | refine oLdXA rfl hc139 rfl (by repeat constructor) ?_ | (refine oLdR1 rfl (by repeat constructor) (by omega) rfl (fun u140 hu140 => ?_))
    refine oWant rfl rfl (oMove rfl (oWant rfl rfl (oGeq rfl rfl (oSet (t := 142) (v' := .bool false) rfl (by rw [decide_eq_false (by omega)]) ?_))))
    refine oPickF rfl rfl (oMove rfl (oWant rfl rfl (oMove rfl (oWant rfl rfl (oMove rfl (oWant rfl rfl (oMove rfl (oWant rfl rfl (oIdxE rfl rfl (hE4) (by omega) rfl rfl ?_)))))))))
    have hc148 := (hE4).cell
    refine oWant rfl rfl ?_
    first | refine oLdX rfl hc148 rfl rfl ?_ | refine oLdXA rfl hc148 rfl (by repeat constructor) ?_ | (refine oLdR1 rfl (by repeat constructor) (by omega) rfl (fun u149 hu149 => ?_))
    refine oWant rfl rfl (oMove rfl (oWant rfl rfl (oIdxE rfl rfl (hE5) (by omega) rfl rfl ?_)))
    have hc151 := (hE5).cell
    refine oWant rfl rfl ?_
    first | refine oLdX rfl hc151 rfl rfl ?_ | refine oLdXA rfl hc151 rfl (by repeat constructor) ?_ | (refine oLdR1 rfl (by repeat constructor) (by omega) rfl (fun u152 hu152 => ?_))
    refine oWant rfl rfl (oIdxE rfl rfl (hE6) (by omega) rfl rfl ?_)
    have hc153 := (hE6).cell
    refine oWant rfl rfl ?_
    first | refine oLdX rfl hc153 rfl rfl ?_ | refine oLdXA rfl hc153 rfl (by repeat constructor) ?_ | (refine oLdR1 rfl (by repeat constructor) (by omega) rfl (fun u154 hu154 => ?_))
    refine oWant rfl rfl (oNotT rfl (oPickF rfl rfl (oMove rfl (oWant rfl rfl (oMove rfl (oWant rfl rfl (oMove rfl (oWant rfl rfl (oIdxE rfl rfl (hE3) (by omega) rfl rfl ?_)))))))))
    have hc160 := (hE3).cell
    refine oWant rfl rfl ?_
    first | refine oLdX rfl hc160 rfl rfl ?_ | refine oLdXA rfl hc160 rfl (by repeat constructor) ?_ | (refine oLdR1 rfl (by repeat constructor) (by omega) rfl (fun u161 hu161 => ?_))
    refine oWant rfl rfl (oMove rfl ?_)
    first | refine oSplit (t := 162) rfl (fun h162 => ?_) (fun h162 => ?_) | refine oSplitB (t := 162) rfl (fun h162 => ?_) (fun h162 => ?_)
    ·
     refine oWant rfl rfl (oMove rfl (oWant rfl rfl (oMove rfl (oWant rfl rfl (oMove rfl (oWant rfl rfl (oIdxE rfl rfl (hE4) (by omega) rfl rfl ?_)))))))
     have hc166 := (hE4).cell
     refine oWant rfl rfl ?_
     first | refine oLdX rfl hc166 rfl rfl ?_ | refine oLdXA rfl hc166 rfl (by repeat constructor) ?_ | (refine oLdR1 rfl (by repeat constructor) (by omega) rfl (fun u167 hu167 => ?_))
     refine oWant rfl rfl (oMove rfl (oWant rfl rfl (oIdxE rfl rfl (hE5) (by omega) rfl rfl ?_)))
     have hc169 := (hE5).cell
     refine oWant rfl rfl ?_
     first | refine oLdX rfl hc169 rfl rfl ?_ | refine oLdXA rfl hc169 rfl (by repeat constructor) ?_ | (refine oLdR1 rfl (by repeat constructor) (by omega) rfl (fun u170 hu170 => ?_))
     refine oWant rfl rfl (oIdxE rfl rfl (hE7) (by omega) rfl rfl ?_)
     have hc171 := (hE7).cell
     refine oWant rfl rfl ?_
     first | refine oLdX rfl hc171 rfl rfl ?_ | refine oLdXA rfl hc171 rfl (by repeat constructor) ?_ | (refine oLdR1 rfl (by repeat constructor) (by omega) rfl (fun u172 hu172 => ?_))
     refine oSet (t := 172) (v' := .bool true) rfl (by rw [hCx h162]) ?_
     refine oWant rfl rfl (oNotT rfl (oWant rfl rfl (oPickT rfl rfl (oPickF rfl rfl (oNil (thn_n ?_))))))
     first | refine wCondF rfl ?_ | refine wCondFd h175 rfl ?_ | refine wCondFb h175 rfl ?_
     refine wSkip (blk_n (thn_n (wRegion' (oMove rfl (oSucc rfl rfl (by omega) ?_)))))
     refine oAssign rfl (oNil (thn_n ?_))
     exact ⟨rfl, j + 1, by omega, by omega, cv, Lh⟩
    refine oSkip rfl rfl rfl rfl (oSkip rfl rfl rfl rfl (oSkip rfl rfl rfl rfl (oSkip rfl rfl rfl rfl (oSkip rfl rfl rfl rfl (oSkip rfl rfl rfl rfl (oSkip rfl rfl rfl rfl (oSkip rfl rfl rfl rfl (oSkip rfl rfl rfl rfl (oSkip rfl rfl rfl rfl (oSkip rfl rfl rfl rfl (oWant rfl rfl ?_)))))))))))
    refine oPickF rfl rfl (oPickF rfl rfl (oNil (thn_n ?_)))
    first | refine wCondF rfl ?_ | refine wCondFd h175 rfl ?_ | refine wCondFb h175 rfl ?_
    refine wSkip (blk_n (thn_n (wRegion' (oMove rfl (oSucc rfl rfl (by omega) ?_)))))
    refine oAssign rfl (oNil (thn_n ?_))
    exact ⟨rfl, j + 1, by omega, by omega, cv, Lh⟩
   refine wExit (thn_x (thn_x (blk_x (blk_n (thn_n (wRegion' (oMove rfl (oSucc rfl rfl (by omega) ?_))))))))
   refine oAssign rfl (oNil (thn_n ?_))
   exact ⟨rfl, i + 1, by omega, by omega, cv, Lh⟩
  refine wExit (thn_x (thn_x (blk_x (thn_n (wSeq (wRegion' ?_))))))
  (refine oCall rfl (by kernel_rfl) (fun w hS => frame hS (by repeat' constructor) (fun B' hB hS' => known26 hS')) ?_; rintro ⟨⟩ -)
  refine oAssign rfl (oNil (thn_n (wRet (fin_r (fi1 rfl ?_)))))
  exact ⟨(), trivial, rfl, Lh⟩
end Go.Proofs.YtogaiijhicfoaaaGreatU
