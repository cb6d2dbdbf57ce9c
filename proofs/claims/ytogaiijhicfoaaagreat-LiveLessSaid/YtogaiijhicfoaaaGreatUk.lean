import Derived.Test.YtogaiijhicfoaaaGreatUj

/-
  The call graph: program and reference; what is called.
-/
namespace Go.Proofs.YtogaiijhicfoaaaGreatU
set_option linter.unusedVariables false
set_option linter.unusedSimpArgs false
open Go.RowKit Go.Proofs.YtogaiijhicfoaaaGreatK Go.Proofs.YtogaiijhicfoaaaGreatT Go.Proofs.YtogaiijhicfoaaaGreatL Go.Proofs.YtogaiijhicfoaaaGreatV Go.Proofs.YtogaiijhicfoaaaGreatG

theorem grTo_dead {p : ApiProgram} {i : Nat} (h : i < p.fFuns.length) (hr : rowF p i = []) : grTo p (i + 1) = grTo p i := by
  rw [← grTo_succ h hr, set_id (grTo_at h)]
theorem gr_small {p : ApiProgram} (hsm : SmallP p) (i : Nat) : SmallG (grTo p i) := by
  have := hsm.funs
  refine ⟨by rw [grTo_len]; omega, fun l hl => ?_⟩
  obtain ⟨k, _, rfl⟩ := List.mem_map.1 hl
  split
  · unfold rowF
    split
    · exact Nat.le_trans (partF_len hsm _ _) (by decide)
    · simp
  · simp
noncomputable def graphF (p : ApiProgram) : List (List Int) := (List.range p.fFuns.length).map fun i => ris (rowF p i) p.fFuns.length
theorem graphF_len (p : ApiProgram) : (graphF p).length = p.fFuns.length := by unfold graphF; simp
theorem grG_small {p : ApiProgram} (hsm : SmallP p) : SmallG (graphF p) := by
  have := hsm.funs
  refine ⟨by rw [graphF_len]; omega, fun l hl => ?_⟩
  obtain ⟨k, _, rfl⟩ := List.mem_map.1 hl
  exact Nat.le_trans (ris_len _ _) (by omega)
theorem grTo_get {p : ApiProgram} {a : Nat} (h : a < p.fFuns.length) : (grTo p p.fFuns.length).getD a [] = rowF p a := by
  refine getD_at ?_
  unfold grTo
  rw [List.getElem?_map, List.getElem?_range h]
  simp [h]
theorem clean_gr (p : ApiProgram) : cleanG (grTo p p.fFuns.length) = graphF p := by
  unfold cleanG graphF
  rw [grTo_len]
  refine List.map_congr_left (fun a ha => ?_)
  have ha := List.mem_range.1 ha
  unfold cl endsOf
  rw [grTo_get ha, ← ris_eq]
  unfold leftL
  congr 2
  refine List.filter_congr (fun x _ => ?_)
  unfold inG badM
  rw [grTo_len, Bool.eq_iff_iff]
  simp only [Bool.and_eq_true, decide_eq_true_eq, Bool.not_eq_true', Bool.or_eq_false_iff, decide_eq_false_iff_not]
  omega
set_option maxRecDepth 100000 in
set_option maxHeartbeats 4000000 in
theorem prog_Graph {B : Base} {w : World} (hS : St B [] w) (p : ApiProgram) (pc : List Value) (hp : kApiProgram.K B.e p pc) (hsm : SmallP p) (W0 : World) :
    CallsIn Fence.wide 0 Tryz.prog 35 #[.agg pc.toArray] w (Ret B (fun z : Option Addr × Nat × List Hdr => z.2.2.length = p.fFuns.length) (fun z => .slice z.1 p.fFuns.length z.2.1) (fun z => [row kHdr W0 42 (.slice z.1 p.fFuns.length z.2.1) z.2.2, bun (rws (Kd.int .i64) W0 3 z.2.2 (graphF p))])) := by
  obtain ⟨A0, c0, A1, c1, rfl, l0, g0, l1, g1⟩ := kApiProgram_open hp
  have hn := hsm.funs
  have hll := liveL_len p
  (refine enterM Tryz.func35 rfl rfl hS ?_; simp only [List.zipIdx_cons, List.zipIdx_nil, List.map_cons, List.map_nil, Nat.reduceAdd, Nat.zero_add])
  refine wSeq (wRegion' (oBox rfl (by repeat constructor) (fun b1 => ?_)))
  refine oAssign rfl (oNil (thn_n (wSeq (wRegion' (oFld (n := 0) (m := 0) rfl rfl rfl (oLd rfl (by repeat constructor) rfl rfl ?_))))))
  refine oLenS rfl rfl (oMake (kd := kHdr) (W := B.e) ((none, 0, 0) : Hdr) rfl rfl rfl rfl rfl rfl (by omega) rfl (fun g15 => ?_))
  refine oConv (rws_new (kd := Kd.int .i64) (W := B.e) (ei := 3) p.fFuns.length) (oAlloc rfl (by repeat constructor) (fun b3 => ?_))
  refine oSt rfl rfl rfl rfl rfl (by repeat constructor) (by repeat constructor) ?_
  refine oNil (thn_n (wSeq (wDrawG rfl [0, 2, 4] [(1, [2, 4], []), (3, [4], []), (5, [], [])] [6, 7, 8] 24 (by kernel_rfl) rfl rfl (fun w0 => ?_))))
  refine oLdA rfl (by repeat constructor) rfl (by repeat constructor) ?_
  refine oLdA rfl (by repeat constructor) rfl (by repeat constructor) ?_
  refine oLdA rfl (by repeat constructor) rfl (by repeat constructor) ?_
  refine oLkSegG (oSegG rfl ?_)
  (refine oCall rfl (by kernel_rfl) (fun w hS => frame hS (by repeat' constructor) (fun B' hB hS' => prog_Direct hS' p _ (kApiProgram.K_grow hB hp) hsm B.e)) ?_; rintro ⟨A17, c17, hs17⟩ hl17)
  refine oAgainG ?_ rfl (fun w0 => ?_)
  ·
   refine AgainG.cons rfl rfl rfl rfl (fun w0 => ?_) ?_
   ·
    refine oLdA rfl (by repeat constructor) rfl (by repeat constructor) ?_
    exact oLkHas rfl
   refine AgainG.cons rfl rfl rfl rfl (fun w0 => ?_) ?_
   ·
    refine oLdA rfl (by repeat constructor) rfl (by repeat constructor) ?_
    exact oLkHas rfl
   exact AgainG.nil
  refine oLkSegG (oSegG rfl ?_)
  (refine oCall rfl (by kernel_rfl) (fun w hS => frame hS (by repeat' constructor) (fun B' hB hS' => prog_Vias hS' p _ (kApiProgram.K_grow hB hp) hsm B.e)) ?_; rintro ⟨A19, c19, hs19⟩ hl19)
  refine oAgainG ?_ rfl (fun w0 => ?_)
  ·
   refine AgainG.cons rfl rfl rfl rfl (fun w0 => ?_) ?_
   ·
    refine oLdA rfl (by repeat constructor) rfl (by repeat constructor) ?_
    exact oLkHas rfl
   exact AgainG.nil
  refine oLkSegG (oSegG rfl ?_)
  (refine oCall rfl (by kernel_rfl) (fun w hS => frame hS (by repeat' constructor) (fun B' hB hS' => prog_Taken hS' p _ (kApiProgram.K_grow hB hp) hsm B.e)) ?_; rintro ⟨A21, c21⟩ -)
  refine oAgainG ?_ rfl (fun w0 => ?_)
  ·
   exact AgainG.nil
  refine oTailG (oAssign rfl (oAssign rfl (oAssign rfl (oNil (thn_n (wFreeze [row kHdr B.e 42 (.slice A19 p.fFuns.length c19) hs19, bun (rws (Kd.int .i64) B.e 3 hs19 (p.fFuns.map viasF)), row Kd.bool B.e 4 (.slice A21 p.fFuns.length c21) (takenL p)] (by repeat' constructor) (fun B1 hB1 hq1 => ?_)))))))
  have hVi : (Kd.slice (Kd.int .i64)).C B1.e A19 (p.fFuns.map viasF) := grid_C (kd := Kd.int .i64) (W := B.e) (W0 := B.e) (n := p.fFuns.length) (cp := c19) (hq1 _ _ (by repeat constructor)) (hq1 _ _ (by repeat constructor)) (by rw [hl19, List.length_map]) hB1
  have hT : Kd.bool.C B1.e A21 (takenL p) := row_Cs (W := B.e) (e := 4) (n := p.fFuns.length) (cp := c21) (hq1 _ _ (by repeat constructor))
  have hp1 := kApiProgram.K_grow hB1 hp
  refine wSeq (wSeq (wRegion' (oLdA rfl (by repeat constructor) rfl (by repeat constructor) ?_)))
  (refine oCall rfl (by kernel_rfl) (fun w hS => frame hS (by repeat' constructor) (fun B' hB hS' => prog_Live hS' p _ (kApiProgram.K_grow hB hp1) hsm B1.e)) ?_; rintro ⟨A23, c23⟩ -)
  refine oLenS rfl rfl (oMove rfl (oNil (thn_n (wBlock ?_))))
  refine wLoopM (ι := Nat × List Hdr) (fun z => [(1, .pointer (some ⟨b1, 0, none⟩)), (3, .pointer (some ⟨b3, 0, none⟩)), (4, .slice A17 p.fFuns.length c17), (5, .slice A19 p.fFuns.length c19), (6, .slice A21 p.fFuns.length c21), (23, .slice A23 p.fFuns.length c23), (24, .int .i64 (p.fFuns.length : Int)), (25, .int .i64 (z.1 : Int))]) (fun z => [blk b1 29 [.slice A0 p.fFuns.length c0, .slice A1 p.fDats.length c1, .int .i64 p.fEntry], blk b3 38 [.slice (some ⟨g15, 0, none⟩) p.fFuns.length p.fFuns.length], row kHdr B.e 42 (.slice (some ⟨g15, 0, none⟩) p.fFuns.length p.fFuns.length) z.2, bun (rws (Kd.int .i64) B.e 3 z.2 (grTo p z.1)), row kHdr B.e 42 (.slice A17 p.fFuns.length c17) hs17, bun ((rws (Kd.int .i64) B.e 3 hs17 (p.fFuns.map (directF p))).drop z.1), row Kd.bool B1.e 4 (.slice A23 p.fFuns.length c23) (liveL p)]) (fun z => z.1 ≤ p.fFuns.length ∧ z.2.length = p.fFuns.length) (fun z => p.fFuns.length - z.1) (0, List.replicate p.fFuns.length (none, 0, 0)) ?_ cv [] rfl (marks_nil.trans (by dsimp only; rw [grTo_zero, List.drop_zero]; exact Lh)) ?_
  ·
   exact ⟨Nat.zero_le _, by simp⟩
  rintro ⟨i, hsO⟩ Ms ⟨hi, hlO⟩
  dsimp only at hi hlO
  try dsimp only
  refine wSeq (wRegion' (oLss rfl rfl (oNil (thn_n (wSeq (wC (fun h26 => ?_) (fun h26 => ?_)))))))
  ·
   obtain ⟨f, hf⟩ : ∃ f, p.fFuns[i]? = some f := ⟨_, List.getElem?_eq_getElem (by omega)⟩
   have hil : i < p.fFuns.length := by omega
   have hs17l : hs17.length = p.fFuns.length := hl17
   obtain ⟨u17, hu17⟩ : ∃ u, hs17[i]? = some u := ⟨_, List.getElem?_eq_getElem (by rw [hl17]; omega)⟩
   have hfd : (p.fFuns.map (directF p))[i]? = some (directF p f) := by rw [List.getElem?_map, hf]; rfl
   rw [rws_drop hu17 hfd]
   obtain ⟨e1, cs1, hE⟩ := hVi.elm (i := i) (u := viasF f) (by rw [List.getElem?_map, hf]; rfl)
   obtain ⟨X1, n1, rfl, hn1, hX1⟩ := hE.K
   have hvl : (viasF f).length ≤ 8 := ris_len _ _
   refine wSkip (thn_n (wSeq (wBlock (wSeq (wRegion' (oMove rfl (oIdxR rfl rfl (by repeat constructor) (by omega) rfl rfl (fun g28 hg28 => ?_))))))))
   first | subst hg28 | (injection hg28 with hg28; injection hg28 with hg28; subst hg28)
   first | refine oLdX rfl hc28 rfl rfl ?_ | refine oLdXA rfl hc28 rfl (by repeat constructor) ?_ | (refine oLdR1 rfl (by repeat constructor) (by omega) rfl (fun u29 hu29 => ?_))
   have hlv : (liveL p).getD i false = u29 := getD_at hu29
   refine oAlloc rfl (by repeat constructor) (fun b7 => ?_)
   refine oSt rfl rfl rfl rfl rfl (by repeat constructor) (by repeat constructor) ?_
   refine oAssign rfl (oNil (thn_n (wSeq (wSeq (wRegion' (oMove rfl ?_))))))
   first | refine oNot rfl ?_ | refine oNotB rfl ?_
   refine oNil (thn_n (wC (fun h31 => ?_) (fun h31 => ?_)))
   ·
    have hrow : rowF p i = [] := by unfold rowF; rw [if_neg (by rw [hlv]; simpa using h31)]
    refine wExit (thn_x (blk_x (thn_n (wRegion' (oSucc rfl rfl (by omega) ?_)))))
    refine oMove rfl (oNil (thn_n ?_))
    exact ⟨Ms, rfl, (i + 1, hsO), ⟨by show i + 1 ≤ _; omega, hlO⟩, by show p.fFuns.length - (i + 1) < p.fFuns.length - i; omega, cv, (bun_pop (by repeat constructor)).trans (by dsimp only; rw [grTo_dead hil hrow]; exact Lh)⟩
   have hrow : rowF p i = partF p f (viasF f).length := by unfold rowF; rw [if_pos (by rw [hlv]; simpa using h31), getD_at hf]
   refine wSkip (thn_n (wSeq (wDraw2 rfl rfl [2] [0, 1, 3, 4, 5, 6] 7 (by kernel_rfl) rfl rfl rfl (fun w0 => ?_))))
   refine oLd rfl (by repeat constructor) rfl rfl ?_
   refine oLd rfl (by repeat constructor) rfl rfl ?_
   refine oLd rfl (by repeat constructor) rfl rfl ?_
   refine oIdxR rfl rfl (by repeat constructor) (by omega) rfl rfl (fun g36 hg36 => ?_)
   first | subst hg36 | (injection hg36 with hg36; injection hg36 with hg36; subst hg36)
   first | refine oLdX rfl hc36 rfl rfl ?_ | refine oLdXA rfl hc36 rfl (by repeat constructor) ?_ | (refine oLdR1 rfl (by repeat constructor) (by omega) rfl (fun u37 hu37 => ?_))
   obtain ⟨A37, n37, c37⟩ := u37
   obtain rfl := Option.some.inj (hu17.symm.trans hu37)
   refine oSet (t := 37) (v' := .slice A37 n37 c37) rfl rfl (oIdxR rfl rfl (by repeat constructor) (by omega) rfl rfl (fun g38 hg38 => ?_))
   first | subst hg38 | (injection hg38 with hg38; injection hg38 with hg38; subst hg38)
   refine oHead ?_
   obtain ⟨uO, huO⟩ : ∃ u, hsO[i]? = some u := ⟨_, List.getElem?_eq_getElem (by omega)⟩
   refine oConv (bun_pop (by repeat constructor)) ?_
   refine oFocus (i := i) (by repeat constructor) huO (grTo_at hil) ?_
   refine oBack (kd := Kd.int .i64) (W := B.e) (ei := 3) (hs := hsO) (xss := grTo p i) (i := i) (u := (A37, n37, c37)) (xs := directF p f) (by repeat constructor) (by repeat constructor) (by omega) (by rw [grTo_len]; exact hlO) ?_
   refine oStR (enc := hV) (A37, n37, c37) rfl rfl rfl rfl (by repeat constructor) (by omega) ?_
   refine oNilT (thn_n (wSeq (wRegion' (oMove rfl (oLd rfl (by repeat constructor) rfl rfl ?_)))))
   refine oIdxE rfl rfl (hE) (by omega) rfl rfl ?_
   have hc41 := (hE).cell
   first | refine oLdX rfl hc41 rfl rfl ?_ | refine oLdXA rfl hc41 rfl (by repeat constructor) ?_ | (refine oLdR1 rfl (by repeat constructor) (by omega) rfl (fun u42 hu42 => ?_))
   refine oLenS rfl rfl (oMove rfl (oNil (thn_n (wBlock ?_))))
   refine wLoopM (ι := Nat × List Hdr) (fun z => [(1, .pointer (some ⟨b1, 0, none⟩)), (3, .pointer (some ⟨b3, 0, none⟩)), (4, .slice (some ⟨g36, 0, none⟩) p.fFuns.length c17), (5, .slice A19 p.fFuns.length c19), (6, .slice A21 p.fFuns.length c21), (23, .slice (some ⟨g28, 0, none⟩) p.fFuns.length c23), (24, .int .i64 (p.fFuns.length : Int)), (25, .int .i64 (i : Int)), (7, .pointer (some ⟨b7, 0, none⟩)), (42, .slice X1 (viasF f).length n1), (43, .int .i64 ((viasF f).length : Int)), (44, .int .i64 (z.1 : Int))]) (fun z => [blk b1 29 [.slice A0 p.fFuns.length c0, .slice A1 p.fDats.length c1, .int .i64 p.fEntry], blk b3 38 [.slice (some ⟨g15, 0, none⟩) p.fFuns.length p.fFuns.length], row kHdr B.e 42 (.slice (some ⟨g15, 0, none⟩) p.fFuns.length p.fFuns.length) z.2, bun (rws (Kd.int .i64) B.e 3 z.2 ((grTo p i).set i (partF p f z.1))), row kHdr B.e 42 (.slice (some ⟨g36, 0, none⟩) p.fFuns.length c17) hs17, bun ((rws (Kd.int .i64) B.e 3 hs17 (p.fFuns.map (directF p))).drop (i + 1)), row Kd.bool B1.e 4 (.slice (some ⟨g28, 0, none⟩) p.fFuns.length c23) (liveL p), blk b7 3 [.int .i64 (i : Int)]]) (fun z => z.1 ≤ (viasF f).length ∧ z.2.length = p.fFuns.length) (fun z => (viasF f).length - z.1) (0, hsO.set i (A37, n37, c37)) ?_ cv Ms rfl (by dsimp only; rw [partF_zero]; exact Lh) ?_
   ·
    exact ⟨Nat.zero_le _, by show (hsO.set _ _).length = _; rw [List.length_set]; exact hlO⟩
   rintro ⟨q, hs2⟩ Ms ⟨hj, hl2⟩
   dsimp only at hj hl2
   try dsimp only
   refine wSeq (wRegion' (oLss rfl rfl (oNil (thn_n (wSeq (wC (fun h45 => ?_) (fun h45 => ?_)))))))
   ·
    obtain ⟨c, hc⟩ : ∃ c, (viasF f)[q]? = some c := ⟨_, List.getElem?_eq_getElem (by omega)⟩
    obtain ⟨e2, cs2, hE2⟩ := hX1.elm hc
    obtain rfl := (show cs2 = [Value.int .i64 c] from hE2.K)
    refine wSkip (thn_n (wSeq (wBlock (wSeq (wRegion' (oIdxE rfl rfl (hE2) (by omega) rfl rfl ?_))))))
    have hc46 := (hE2).cell
    first | refine oLdX rfl hc46 rfl rfl ?_ | refine oLdXA rfl hc46 rfl (by repeat constructor) ?_ | (refine oLdR1 rfl (by repeat constructor) (by omega) rfl (fun u47 hu47 => ?_))
    refine oAssign rfl (oNil (thn_n (wSeq (wRegion' (oLdA rfl (by repeat constructor) rfl (by repeat constructor) ?_)))))
    refine oMove rfl (oMove rfl ?_)
    (refine oCall rfl (by kernel_rfl) (fun w hS => frame hS (by repeat' constructor) (fun B' hB hS' => ofClass_any hS' _ A21 p.fFuns.length c21 c)) ?_; rintro ⟨x1, x2, x3⟩ -)
    refine oNil (thn_n (wBlock ?_))
    refine wRange rfl rfl (by kernel_rfl) (ofClass1 p _ hp1 (by omega) (takenL p) A21 c21 hT (takenL_len p) c x1 x2 x3) (by rintro _ h; obtain ⟨y, _, rfl⟩ := List.mem_map.1 h; rfl) rfl (ι := Nat × List Hdr) (κ := Unit) (fun j z => z.1 = j ∧ z.2.length = p.fFuns.length) (fun z => [marksR Ms, blk b1 29 [.slice A0 p.fFuns.length c0, .slice A1 p.fDats.length c1, .int .i64 p.fEntry], blk b3 38 [.slice (some ⟨g15, 0, none⟩) p.fFuns.length p.fFuns.length], row kHdr B.e 42 (.slice (some ⟨g15, 0, none⟩) p.fFuns.length p.fFuns.length) z.2, bun (rws (Kd.int .i64) B.e 3 z.2 ((grTo p i).set i (partF p f q ++ (classL p (takenL p) c).take z.1))), row kHdr B.e 42 (.slice (some ⟨g36, 0, none⟩) p.fFuns.length c17) hs17, bun ((rws (Kd.int .i64) B.e 3 hs17 (p.fFuns.map (directF p))).drop (i + 1)), row Kd.bool B1.e 4 (.slice (some ⟨g28, 0, none⟩) p.fFuns.length c23) (liveL p), blk b7 3 [.int .i64 (i : Int)]]) (fun x z => False) (fun x z => []) (0, hs2) ⟨rfl, hl2⟩ (by dsimp only; rw [List.take_zero, List.append_nil]; exact Lh) ?_ ?_ ?_
    ·
     intro lp4 B' R1 R2 j hj
     rintro ⟨k, hsk⟩ hB ⟨rfl, hlk⟩
     dsimp only at hlk ⊢
     have hj' : k < (classL p (takenL p) c).length := by simpa using hj
     have htk : (classL p (takenL p) c).take (k + 1) = (classL p (takenL p) c).take k ++ [(classL p (takenL p) c)[k]] := List.take_succ_eq_append_getElem hj'
     rw [List.getElem_map]
     generalize (classL p (takenL p) c)[k] = x at *
     have hxl : (partF p f q ++ (classL p (takenL p) c).take k).length ≤ 400 := by rw [List.length_append, List.length_take]; have h1 := partF_len hsm f q; have h2 := cls_len p (takenL p) c; omega
     have hxi : ((grTo p i).set i (partF p f q ++ (classL p (takenL p) c).take k))[i]? = some (partF p f q ++ (classL p (takenL p) c).take k) := by rw [List.getElem?_set_self (by rw [grTo_len]; exact hil)]
     dsimp only [hand, intV]
     refine wRegion' (oAssign rfl ?_)
     obtain ⟨u, hu⟩ : ∃ u, hsk[i]? = some u := ⟨_, List.getElem?_eq_getElem (by omega)⟩
     obtain ⟨A58, n58, c58⟩ := u
     refine oFocus (i := i) (by repeat constructor) hu hxi ?_
     refine oRoom (A := A58) (n := n58) (cp := c58) (xs := partF p f q ++ (classL p (takenL p) c).take k) (kd := Kd.int .i64) (W0 := B.e) (e := 3) (by repeat constructor) (fun hn58 hc58 => ?_)
     refine oNil (aq_n (by repeat constructor) ?_)
     refine wBlock (wDrawG rfl [0, 1, 2, 3, 4, 5, 6] [(7, [0, 1, 2, 3, 4, 5], []), (8, [0, 1], [])] [9, 10] 24 (by kernel_rfl) rfl rfl (fun w0 => ?_))
     refine oLd rfl (by repeat constructor) rfl rfl ?_
     refine oLd rfl (by repeat constructor) rfl rfl ?_
     refine oLd rfl (by repeat constructor) rfl rfl ?_
     refine oLd rfl (by repeat constructor) rfl rfl ?_
     refine oIdxR rfl rfl (by repeat constructor) (by omega) rfl rfl (fun g57 hg57 => ?_)
     first | subst hg57 | (injection hg57 with hg57; injection hg57 with hg57; subst hg57)
     first | refine oLdX rfl hc57 rfl rfl ?_ | refine oLdXA rfl hc57 rfl (by repeat constructor) ?_ | (refine oLdR1 rfl (by repeat constructor) (by omega) rfl (fun u58 hu58 => ?_))
     obtain rfl := Option.some.inj (hu.symm.trans hu58)
     refine oSet (t := 58) (v' := .slice A58 n58 c58) rfl rfl (oMove rfl (oLkSegG (oSegG rfl (oBuildSlice1 rfl rfl rfl rfl rfl (by repeat constructor) rfl (fun b60 => ?_)))))
     refine oAgainG ?_ rfl (fun w0 => ?_)
     ·
      refine AgainG.cons rfl rfl rfl rfl (fun w0 => ?_) ?_
      ·
       refine oLd rfl (by repeat constructor) rfl rfl ?_
       exact oLkHas rfl
      refine AgainG.cons rfl rfl rfl rfl (fun w0 => ?_) ?_
      ·
       refine oLd rfl (by repeat constructor) rfl rfl ?_
       exact oLkHas rfl
      refine AgainG.cons rfl rfl rfl rfl (fun w0 => ?_) ?_
      ·
       refine oLd rfl (by repeat constructor) rfl rfl ?_
       exact oLkHas rfl
      refine AgainG.cons rfl rfl rfl rfl (fun w0 => ?_) ?_
      ·
       refine oLd rfl (by repeat constructor) rfl rfl ?_
       exact oLkHas rfl
      refine AgainG.cons rfl rfl rfl rfl (fun w0 => ?_) ?_
      ·
       refine oIdxR rfl rfl (by repeat constructor) (by omega) rfl rfl (fun g57 hg57 => ?_)
       first | subst hg57 | (injection hg57 with hg57; injection hg57 with hg57; subst hg57)
       exact oLkHas rfl
      refine AgainG.cons rfl rfl rfl rfl (fun w0 => ?_) ?_
      ·
       first | refine oLdX rfl hc57 rfl rfl ?_ | refine oLdXA rfl hc57 rfl (by repeat constructor) ?_ | (refine oLdR1 rfl (by repeat constructor) (by omega) rfl (fun u58 hu58 => ?_))
       obtain rfl := Option.some.inj (hu.symm.trans hu58)
       refine oSet (t := 58) (v' := .slice A58 n58 c58) rfl rfl ?_
       exact oLkHas rfl
      exact AgainG.nil
     refine oLkSegG (oSegG rfl (oApp1 x rfl rfl rfl rfl (by repeat constructor) (by repeat constructor) rfl (by omega) rfl (fun g61 cp61 => ?_)))
     rw [← hn58]
     refine oBack (kd := Kd.int .i64) (W := B.e) (ei := 3) (hs := hsk) (xss := (grTo p i).set i (partF p f q ++ (classL p (takenL p) c).take k)) (i := i) (u := (some ⟨g61, 0, none⟩, n58 + 1, cp61)) (xs := partF p f q ++ (classL p (takenL p) c).take k ++ [x]) (by repeat constructor) (by repeat constructor) (by omega) (by rw [List.length_set, grTo_len]; exact hlk) ?_
     rw [List.set_set, List.append_assoc, ← htk]
     refine oAgainG ?_ rfl (fun w0 => ?_)
     ·
      refine AgainG.cons rfl rfl rfl rfl (fun w0 => ?_) ?_
      ·
       refine oLd rfl (by repeat constructor) rfl rfl ?_
       exact oLkHas rfl
      refine AgainG.cons rfl rfl rfl rfl (fun w0 => ?_) ?_
      ·
       refine oLd rfl (by repeat constructor) rfl rfl ?_
       exact oLkHas rfl
      exact AgainG.nil
     refine oTailG (oIdxR rfl rfl (by repeat constructor) (by omega) rfl rfl (fun g62 hg62 => ?_))
     first | subst hg62 | (injection hg62 with hg62; injection hg62 with hg62; subst hg62)
     refine oStR (enc := hV) (some ⟨g61, 0, none⟩, n58 + 1, cp61) rfl rfl rfl rfl (by repeat constructor) (by omega) ?_
     refine oNil (blk_n (rq_n ?_))
     exact ⟨(k + 1, hsk.set i (some ⟨g61, 0, none⟩, n58 + 1, cp61)), ⟨rfl, by show (hsk.set _ _).length = _; rw [List.length_set]; exact hlk⟩, Lh⟩
    ·
     rintro ⟨k, hs3⟩ Dm4 ⟨h, hl3⟩
     dsimp only at h hl3
     rw [List.length_map] at h
     subst h
     dsimp only
     rw [List.take_length, ← partF_succ hc]
     try dsimp only
     refine blk_n (blk_n (thn_n (wRegion' (oSucc rfl rfl (by omega) ?_))))
     refine oMove rfl (oNil (thn_n ?_))
     exact ⟨Dm4 :: Ms, rfl, (q + 1, hs3), ⟨by show q + 1 ≤ _; omega, hl3⟩, by show (viasF f).length - (q + 1) < (viasF f).length - q; omega, cv, (marks_push (by repeat constructor) (by repeat constructor)).trans Lh⟩
    rintro _ _ _ h; exact h.elim
   obtain rfl : q = (viasF f).length := by omega
   rw [← hrow, grTo_succ hil rfl]
   refine wExit (thn_x (thn_x (blk_x (blk_n (thn_n (wRegion' (oSucc rfl rfl (by omega) ?_)))))))
   refine oMove rfl (oNil (thn_n ?_))
   exact ⟨Ms, rfl, (i + 1, hs2), ⟨by show i + 1 ≤ _; omega, hl2⟩, by show p.fFuns.length - (i + 1) < p.fFuns.length - i; omega, cv, Lh⟩
  obtain rfl : i = p.fFuns.length := by omega
  refine wExit (thn_x (thn_x (blk_x (thn_n (wSeq (wRegion' (oLd rfl (by repeat constructor) rfl rfl ?_)))))))
  refine oSet (t := 65) (v' := .slice (some ⟨g15, 0, none⟩) (grTo p p.fFuns.length).length p.fFuns.length) rfl (by rw [grTo_len]) ?_
  (refine oCall rfl (by kernel_rfl) (fun w hS => frame' hS .nil (fun B' hB hR hS' => clean_any hS' (grTo p p.fFuns.length) (some ⟨g15, 0, none⟩) p.fFuns.length (grid_C (kd := Kd.int .i64) (W := B.e) (ei := 3) (eo := 42) (W0 := B.e) (n := p.fFuns.length) (cp := p.fFuns.length) (hs := hsO) (A := some ⟨g15, 0, none⟩) (xss := grTo p p.fFuns.length) (hR _ _ (by repeat constructor)) (hR _ _ (by repeat constructor)) (by rw [hlO, grTo_len]) (hB1.trans hB)) (gr_small hsm _) W0)) ?_; rintro ⟨A66, c66, hs66⟩ hl66)
  dsimp only at hl66 ⊢
  rw [clean_gr, grTo_len]
  rw [grTo_len] at hl66
  refine oAssign rfl (oNil (thn_n (wRet (finMb_r (Ds := Ms) rfl (by repeat constructor) (ResL.cons (ResR.tmp rfl) ResL.nil) ?_))))
  exact ⟨(A66, c66, hs66), hl66, rfl, Lh⟩
end Go.Proofs.YtogaiijhicfoaaaGreatU
