import Derived.Test.YtogaiijhicfoaaaGreatUb

/-
  To what functions refer: the program's package calls, whole.
-/
namespace Go.Proofs.YtogaiijhicfoaaaGreatU
set_option linter.unusedVariables false
set_option linter.unusedSimpArgs false
open Go.RowKit Go.Proofs.YtogaiijhicfoaaaGreatK Go.Proofs.YtogaiijhicfoaaaGreatT Go.Proofs.YtogaiijhicfoaaaGreatL Go.Proofs.YtogaiijhicfoaaaGreatV Go.Proofs.YtogaiijhicfoaaaGreatG

def directF (p : ApiProgram) (f : ApiFun) : List Int := ris (refsC f [1, 5]) p.fFuns.length
def tblF (p : ApiProgram) (t : Int) : List Int := (p.fDats.getD t.toNat default).fRefs
def tablesF (p : ApiProgram) (f : ApiFun) : List Int := ris (refsC f [4]) p.fDats.length
def takenTo (p : ApiProgram) (f : ApiFun) (n : Nat) : List Int := refsC f [2] ++ (((tablesF p f).take n).map (tblF p)).flatten
def takenF (p : ApiProgram) (f : ApiFun) : List Int := refsC f [2] ++ ((tablesF p f).map (tblF p)).flatten
def valuesF (p : ApiProgram) (f : ApiFun) : List Int := ris (takenF p f) p.fFuns.length
def refersF (p : ApiProgram) (f : ApiFun) : List Int := ris (directF p f ++ valuesF p f) p.fFuns.length
def viaP (x : ApiInstr) : Bool := decide (x.fOp = 20)
def viaTo (f : ApiFun) (n : Nat) : List Int := ((f.fF.fCode.take n).filter viaP).map (·.fC)
def viasF (f : ApiFun) : List Int := ris ((f.fF.fCode.filter viaP).map (·.fC)) 8
theorem flat_bound {α : Type} {c : Nat} : ∀ {ll : List (List α)}, (∀ x ∈ ll, x.length ≤ c) → ll.flatten.length ≤ c * ll.length
  | [], _ => by simp
  | x :: ll, h => by
    have h1 := h x List.mem_cons_self
    have h2 := flat_bound (ll := ll) (fun y hy => h y (List.mem_cons_of_mem _ hy))
    rw [List.flatten_cons, List.length_append, List.length_cons, Nat.mul_succ]; omega
theorem tbl_le {p : ApiProgram} (hsm : SmallP p) (t : Int) : (tblF p t).length ≤ 80 := by
  unfold tblF
  rw [List.getD_eq_getElem?_getD]
  cases h : p.fDats[t.toNat]? with
  | none => exact Nat.zero_le _
  | some d => exact (hsm.dt d (List.mem_of_getElem? h)).2.1
theorem takenTo_le {p : ApiProgram} (hsm : SmallP p) {f : ApiFun} (hf : f.fRefs.length ≤ 80) (n : Nat) : (takenTo p f n).length ≤ 2000 := by
  unfold takenTo
  have h1 := refsC_len f [2]
  have h2 := flat_bound (c := 80) (ll := ((tablesF p f).take n).map (tblF p)) (fun x hx => by obtain ⟨t, _, rfl⟩ := List.mem_map.1 hx; exact tbl_le hsm t)
  have h3 : (tablesF p f).length ≤ p.fDats.length := ris_len _ _
  have h4 := hsm.dats
  rw [List.length_map, List.length_take] at h2
  rw [List.length_append]
  have : 80 * min n (tablesF p f).length ≤ 80 * 24 := Nat.mul_le_mul_left _ (by omega)
  omega
theorem takenTo_all (p : ApiProgram) (f : ApiFun) : takenTo p f (tablesF p f).length = takenF p f := by unfold takenTo takenF; rw [List.take_length]
theorem takenTo_succ {p : ApiProgram} {f : ApiFun} {i : Nat} {t : Int} (h : (tablesF p f)[i]? = some t) : takenTo p f (i + 1) = takenTo p f i ++ tblF p t := by
  unfold takenTo
  rw [List.take_add_one, h, List.map_append, List.flatten_append, List.append_assoc]
  simp
theorem tbl_at {p : ApiProgram} {k : Nat} {d : ApiDat} (h : p.fDats[k]? = some d) : tblF p (k : Int) = d.fRefs := by unfold tblF; rw [Int.toNat_natCast, List.getD_eq_getElem?_getD, h]; rfl
set_option maxRecDepth 100000 in
set_option maxHeartbeats 1000000 in
theorem calls_direct {B : Base} {w : World} (hS : St B [] w) (p : ApiProgram) (pc : List Value) (hp : kApiProgram.K B.e p pc) (hsm : SmallP p) (f : ApiFun) (hfm : f ∈ p.fFuns) (fc : List Value) (hf : kApiFun.K B.e f fc) (W0 : World) :
    CallsIn Fence.wide 0 Tryz.prog 76 #[.agg pc.toArray, .agg fc.toArray] w (Ret B (fun _ : Option Addr × Nat => True) (fun z => .slice z.1 (directF p f).length z.2) (fun z => [row (Kd.int .i64) W0 3 (.slice z.1 (directF p f).length z.2) (directF p f)])) := by
  obtain ⟨A0, c0, A1, c1, rfl, l0, g0, l1, g1⟩ := kApiProgram_open hp
  obtain ⟨D0, d0, D1, d1, D2, d2, D3, d3, D4, d4, rfl, m0, q0, m1, q1, m2, q2, m3, q3, m4, q4⟩ := kApiFun_open hf
  have hfs := hsm.fn f hfm
  have hrl := refsC_len f [1, 5]
  (refine enter Tryz.func76 rfl rfl hS ?_; simp only [List.zipIdx_cons, List.zipIdx_nil, List.map_cons, List.map_nil, Nat.reduceAdd, Nat.zero_add])
  refine wSeq (wRegion' (oBox rfl (by repeat constructor) (fun b2 => ?_)))
  refine oBox rfl (by repeat constructor) (fun b3 => ?_)
  refine oAssign rfl (oNil (thn_n (wSeq (wDrawG rfl [0, 3, 4, 5] [(1, [0, 3, 4, 5], []), (2, [3, 4, 5], []), (6, [], [])] [7] 24 (by kernel_rfl) rfl rfl (fun w0 => ?_)))))
  refine oLdA rfl (by repeat constructor) rfl (by repeat constructor) ?_
  refine oFld (n := 0) (m := 0) rfl rfl rfl (oLd rfl (by repeat constructor) rfl rfl ?_)
  refine oLenS rfl rfl (oLkSegG (oSegG rfl ?_))
  refine oBuildSliceF (Parts.cons rfl (Parts.cons rfl Parts.nil)) rfl rfl rfl rfl rfl (Fulls.cons (by repeat constructor) rfl (Fulls.cons (by repeat constructor) rfl Fulls.nil (by repeat (first | exact AppL.nil | apply AppL.cons))) (by repeat (first | exact AppL.nil | apply AppL.cons))) (fun b6 => ?_)
  refine oConv (blk_row (enc := Value.int .i64) (h1 := fun _ => rfl) (W := B.e) (xs := ([1, 5] : List Int)) (n := 2) (by repeat constructor) rfl rfl (by decide)) ?_
  refine oAgainG ?_ rfl (fun w0 => ?_)
  ·
   refine AgainG.cons rfl rfl rfl rfl (fun w0 => ?_) ?_
   ·
    refine oLdA rfl (by repeat constructor) rfl (by repeat constructor) ?_
    exact oLkHas rfl
   refine AgainG.cons rfl rfl rfl rfl (fun w0 => ?_) ?_
   ·
    refine oFld (n := 0) (m := 0) rfl rfl rfl ?_
    exact oLkHas rfl
   refine AgainG.cons rfl rfl rfl rfl (fun w0 => ?_) ?_
   ·
    refine oLd rfl (by repeat constructor) rfl rfl ?_
    exact oLkHas rfl
   refine AgainG.cons rfl rfl rfl rfl (fun w0 => ?_) ?_
   ·
    refine oLenS rfl rfl ?_
    exact oLkHas rfl
   exact AgainG.nil
  refine oLkSegG (oSegG rfl ?_)
  (refine oCall rfl (by kernel_rfl) (fun w hS => frame' hS .nil (fun B' hB hR hS' => calls_refs hS' f _ (kApiFun.K_grow hB hf) (by omega) [1, 5] (some ⟨b6, 0, none⟩) 2 (row_Cs (W := B.e) (e := 3) (n := 2) (cp := 2) (hR _ _ (by repeat constructor))) B.e)) ?_; rintro ⟨A7, c7⟩ -)
  refine oAgainG ?_ rfl (fun w0 => ?_)
  ·
   refine AgainG.cons rfl rfl rfl rfl (fun w0 => ?_) ?_
   ·
    refine oFld (n := 0) (m := 0) rfl rfl rfl ?_
    exact oLkHas rfl
   refine AgainG.cons rfl rfl rfl rfl (fun w0 => ?_) ?_
   ·
    refine oLd rfl (by repeat constructor) rfl rfl ?_
    exact oLkHas rfl
   refine AgainG.cons rfl rfl rfl rfl (fun w0 => ?_) ?_
   ·
    refine oLenS rfl rfl ?_
    exact oLkHas rfl
   exact AgainG.nil
  refine oLkSegG (oSegG rfl ?_)
  (refine oCall rfl (by kernel_rfl) (fun w hS => frame' hS .nil (fun B' hB hR hS' => calls_rising hS' (refsC f [1, 5]) A7 c7 (row_Cs (W := B.e) (e := 3) (n := (refsC f [1, 5]).length) (cp := c7) (hR _ _ (by repeat constructor))) (by omega) p.fFuns.length W0)) ?_; rintro ⟨A11, c11⟩ -)
  refine oAgainG ?_ rfl (fun w0 => ?_)
  ·
   exact AgainG.nil
  refine oTailG (oAssign rfl (oNil (thn_n (wRet (fin_r (fi1 rfl ?_))))))
  exact ⟨(A11, c11), trivial, rfl, Lh⟩
set_option maxRecDepth 100000 in
set_option maxHeartbeats 2000000 in
theorem calls_values {B : Base} {w : World} (hS : St B [] w) (p : ApiProgram) (pc : List Value) (hp : kApiProgram.K B.e p pc) (hsm : SmallP p) (f : ApiFun) (hfm : f ∈ p.fFuns) (fc : List Value) (hf : kApiFun.K B.e f fc) (W0 : World) :
    CallsIn Fence.wide 0 Tryz.prog 83 #[.agg pc.toArray, .agg fc.toArray] w (Ret B (fun _ : Option Addr × Nat => True) (fun z => .slice z.1 (valuesF p f).length z.2) (fun z => [row (Kd.int .i64) W0 3 (.slice z.1 (valuesF p f).length z.2) (valuesF p f)])) := by
  obtain ⟨A0, c0, A1, c1, rfl, l0, g0, l1, g1⟩ := kApiProgram_open hp
  obtain ⟨D0, d0, D1, d1, D2, d2, D3, d3, D4, d4, rfl, m0, q0, m1, q1, m2, q2, m3, q3, m4, q4⟩ := kApiFun_open hf
  have hfs := hsm.fn f hfm
  have hrl2 := refsC_len f [2]
  have hrl4 := refsC_len f [4]
  have htl : (tablesF p f).length ≤ p.fDats.length := ris_len _ _
  have hdl := hsm.dats
  (refine enter Tryz.func83 rfl rfl hS ?_; simp only [List.zipIdx_cons, List.zipIdx_nil, List.map_cons, List.map_nil, Nat.reduceAdd, Nat.zero_add])
  refine wSeq (wRegion' (oBox rfl (by repeat constructor) (fun b2 => ?_)))
  refine oBox rfl (by repeat constructor) (fun b3 => ?_)
  refine oAssign rfl (oNil (thn_n (wSeq (wRegion' (oLdA rfl (by repeat constructor) rfl (by repeat constructor) ?_)))))
  refine oBuildSlice1 rfl rfl rfl rfl rfl (by repeat constructor) rfl (fun b9 => ?_)
  refine oConv (blk_row (enc := Value.int .i64) (h1 := fun _ => rfl) (W := B.e) (xs := ([2] : List Int)) (n := 1) (by repeat constructor) rfl rfl (by decide)) ?_
  (refine oCall rfl (by kernel_rfl) (fun w hS => frame' hS .nil (fun B' hB hR hS' => calls_refs hS' f _ (kApiFun.K_grow hB hf) (by omega) [2] (some ⟨b9, 0, none⟩) 1 (row_Cs (W := B.e) (e := 3) (n := 1) (cp := 1) (hR _ _ (by repeat constructor))) B.e)) ?_; rintro ⟨A10, c10⟩ -)
  refine oAssign rfl (oNil (thn_n (wSeq (wSeq (wDrawG rfl [0, 3, 4, 5, 8] [(1, [0, 3, 4, 5, 8], []), (2, [3, 4, 5, 8], []), (6, [8], [7])] [] 24 (by kernel_rfl) rfl rfl (fun w0 => ?_))))))
  refine oLdA rfl (by repeat constructor) rfl (by repeat constructor) ?_
  refine oFld (n := 1) (m := 1) rfl rfl rfl (oLd rfl (by repeat constructor) rfl rfl ?_)
  refine oLenS rfl rfl (oMove rfl (oLkSegG (oSegG rfl (oBuildSlice1 rfl rfl rfl rfl rfl (by repeat constructor) rfl (fun b12 => ?_)))))
  refine oConv (blk_row (enc := Value.int .i64) (h1 := fun _ => rfl) (W := B.e) (xs := ([4] : List Int)) (n := 1) (by repeat constructor) rfl rfl (by decide)) ?_
  refine oAgainG ?_ rfl (fun w0 => ?_)
  ·
   refine AgainG.cons rfl rfl rfl rfl (fun w0 => ?_) ?_
   ·
    refine oLdA rfl (by repeat constructor) rfl (by repeat constructor) ?_
    exact oLkHas rfl
   refine AgainG.cons rfl rfl rfl rfl (fun w0 => ?_) ?_
   ·
    refine oFld (n := 1) (m := 1) rfl rfl rfl ?_
    exact oLkHas rfl
   refine AgainG.cons rfl rfl rfl rfl (fun w0 => ?_) ?_
   ·
    refine oLd rfl (by repeat constructor) rfl rfl ?_
    exact oLkHas rfl
   refine AgainG.cons rfl rfl rfl rfl (fun w0 => ?_) ?_
   ·
    refine oLenS rfl rfl ?_
    exact oLkHas rfl
   refine AgainG.cons rfl rfl rfl rfl (fun w0 => ?_) ?_
   ·
    refine oMove rfl ?_
    exact oLkHas rfl
   exact AgainG.nil
  refine oLkSegG (oSegG rfl ?_)
  (refine oCall rfl (by kernel_rfl) (fun w hS => frame' hS .nil (fun B' hB hR hS' => calls_refs hS' f _ (kApiFun.K_grow hB hf) (by omega) [4] (some ⟨b12, 0, none⟩) 1 (row_Cs (W := B.e) (e := 3) (n := 1) (cp := 1) (hR _ _ (by repeat constructor))) B.e)) ?_; rintro ⟨A13, c13⟩ -)
  refine oAgainG ?_ rfl (fun w0 => ?_)
  ·
   refine AgainG.cons rfl rfl rfl rfl (fun w0 => ?_) ?_
   ·
    refine oFld (n := 1) (m := 1) rfl rfl rfl ?_
    exact oLkHas rfl
   refine AgainG.cons rfl rfl rfl rfl (fun w0 => ?_) ?_
   ·
    refine oLd rfl (by repeat constructor) rfl rfl ?_
    exact oLkHas rfl
   refine AgainG.cons rfl rfl rfl rfl (fun w0 => ?_) ?_
   ·
    refine oLenS rfl rfl ?_
    exact oLkHas rfl
   refine AgainG.cons rfl rfl rfl rfl (fun w0 => ?_) ?_
   ·
    refine oMove rfl ?_
    exact oLkHas rfl
   exact AgainG.nil
  refine oLkSegG (oSegG rfl ?_)
  (refine oCall rfl (by kernel_rfl) (fun w hS => frame' hS .nil (fun B' hB hR hS' => calls_rising hS' (refsC f [4]) A13 c13 (row_Cs (W := B.e) (e := 3) (n := (refsC f [4]).length) (cp := c13) (hR _ _ (by repeat constructor))) (by omega) p.fDats.length B.e)) ?_; rintro ⟨A17, c17⟩ -)
  refine oAgainG ?_ rfl (fun w0 => ?_)
  ·
   refine AgainG.cons rfl rfl rfl rfl (fun w0 => ?_) ?_
   ·
    refine oMove rfl ?_
    exact oLkHas rfl
   exact AgainG.nil
  refine oLenS rfl rfl ?_
  have htk0 : takenTo p f 0 = refsC f [2] := by unfold takenTo; simp
  refine oSet (t := 5) (v' := .slice A10 (takenTo p f 0).length c10) rfl (by rw [htk0]) ?_
  refine oTailG (oNil (thn_n (wBlock ?_)))
  refine wLoop (ι := Nat × Option Addr × Nat) (fun z => [(2, .pointer (some ⟨b2, 0, none⟩)), (5, .slice z.2.1 (takenTo p f z.1).length z.2.2), (17, .slice A17 (tablesF p f).length c17), (18, .int .i64 ((tablesF p f).length : Int)), (19, .int .i64 (z.1 : Int))]) (fun z => [blk b2 29 [.slice A0 p.fFuns.length c0, .slice A1 p.fDats.length c1, .int .i64 p.fEntry], row (Kd.int .i64) B.e 3 (.slice z.2.1 (takenTo p f z.1).length z.2.2) (takenTo p f z.1), row (Kd.int .i64) B.e 3 (.slice A17 (tablesF p f).length c17) (tablesF p f)]) (fun z => z.1 ≤ (tablesF p f).length) (fun z => (tablesF p f).length - z.1) (0, A10, c10) ?_ cv (by rw [htk0]; exact Lh) ?_
  ·
   exact Nat.zero_le _
  rintro ⟨i, A5, c5⟩ hi
  dsimp only at hi
  have hto := takenTo_le hsm hfs.2.1 i
  try dsimp only
  refine wSeq (wRegion' (oLss rfl rfl (oNil (thn_n (wSeq (wC (fun h20 => ?_) (fun h20 => ?_)))))))
  ·
   refine wSkip (thn_n (wSeq (wBlock (wSeq (wRegion' (oIdxR rfl rfl (by repeat constructor) (by omega) rfl rfl (fun g21 hg21 => ?_)))))))
   first | subst hg21 | (injection hg21 with hg21; injection hg21 with hg21; subst hg21)
   first | refine oLdX rfl hc21 rfl rfl ?_ | refine oLdXA rfl hc21 rfl (by repeat constructor) ?_ | (refine oLdR1 rfl (by repeat constructor) (by omega) rfl (fun u22 hu22 => ?_))
   obtain ⟨k, hk⟩ := Int.eq_ofNat_of_zero_le (show 0 ≤ u22 from (mem_ris.1 (List.mem_of_getElem? hu22)).2.1)
   have hkl := (mem_ris.1 (List.mem_of_getElem? hu22)).2.2
   obtain ⟨d, hd⟩ : ∃ d, p.fDats[k]? = some d := ⟨_, List.getElem?_eq_getElem (by omega)⟩
   have hts := takenTo_succ hu22
   rw [hk, tbl_at hd] at hts
   obtain ⟨e2, cs2, hE2⟩ := g1.elm hd
   obtain ⟨G0, k0, G1, k1, G2, k2, rfl, n0, r0, n1, r1, n2, r2⟩ := kApiDat_open hE2.K
   have hdr := (hsm.dt d (List.mem_of_getElem? hd)).2.1
   refine oAssign rfl (oNil (thn_n (wRegion' (oMove rfl (oFld (n := 1) (m := 1) rfl rfl rfl (oLd rfl (by repeat constructor) rfl rfl ?_))))))
   refine oMove rfl (oSet (t := 26) (v' := .int .i64 (k : Int)) rfl (by rw [hk]) ?_)
   refine oIdxE rfl rfl (hE2) (by omega) rfl rfl ?_
   have hc27 := (hE2).cell
   first | refine oFldX (n := 6) (m := 6) rfl rfl rfl ?_ | refine oFldR (n := 6) (m := 6) rfl rfl rfl ?_ | refine oFldD (n := 6) (m := 6) rfl rfl rfl ?_
   first | refine oLdX rfl hc27 rfl rfl ?_ | refine oLdXA rfl hc27 rfl (by repeat constructor) ?_ | (refine oLdR1 rfl (by repeat constructor) (by omega) rfl (fun u29 hu29 => ?_))
   refine oAppA (kd := Kd.int .i64) (W := B.e) (xs := takenTo p f i) (ys := d.fRefs) rfl rfl rfl rfl (by repeat constructor) rfl (fun w hw => src_Cs r2 (Base.grow hw.ok)) (by omega) rfl (fun A30 c30 hc30 => ?_)
   rw [show (takenTo p f i).length + d.fRefs.length = (takenTo p f (i + 1)).length by rw [hts, List.length_append], ← hts]
   refine oAssign rfl (oNil (blk_n (thn_n (wRegion' (oSucc rfl rfl (by omega) ?_)))))
   refine oMove rfl (oNil (thn_n ?_))
   exact ⟨rfl, (i + 1, A30, c30), by show i + 1 ≤ _; omega, by show (tablesF p f).length - (i + 1) < (tablesF p f).length - i; omega, cv, Lh⟩
  obtain rfl : i = (tablesF p f).length := by omega
  rw [takenTo_all] at *
  refine wExit (thn_x (thn_x (blk_x (thn_n (wSeq (wRegion' (oMove rfl (oFld (n := 0) (m := 0) rfl rfl rfl (oLd rfl (by repeat constructor) rfl rfl ?_)))))))))
  refine oLenS rfl rfl ?_
  (refine oCall rfl (by kernel_rfl) (fun w hS => frame' hS .nil (fun B' hB hR hS' => calls_rising hS' (takenF p f) A5 c5 (row_Cs (W := B.e) (e := 3) (n := (takenF p f).length) (cp := c5) (hR _ _ (by repeat constructor))) (by omega) p.fFuns.length W0)) ?_; rintro ⟨A36, c36⟩ -)
  refine oAssign rfl (oNil (thn_n (wRet (fin_r (fi1 rfl ?_)))))
  exact ⟨(A36, c36), trivial, rfl, Lh⟩
theorem viaTo_succ {f : ApiFun} {i : Nat} {x : ApiInstr} (h : f.fF.fCode[i]? = some x) : viaTo f (i + 1) = viaTo f i ++ (if x.fOp = 20 then [x.fC] else []) := by
  unfold viaTo
  rw [List.take_add_one, h, List.filter_append, List.map_append]
  congr 1
  show List.map _ (List.filter _ [x]) = _
  unfold viaP
  by_cases hn : x.fOp = 20
  · rw [if_pos hn]; simp [hn]
  · rw [if_neg hn]; simp [hn]
theorem viaTo_le (f : ApiFun) (i : Nat) : (viaTo f i).length ≤ f.fF.fCode.length := by
  unfold viaTo
  rw [List.length_map]
  refine Nat.le_trans (List.length_filter_le _ _) ?_
  rw [List.length_take]; omega
set_option maxRecDepth 100000 in
set_option maxHeartbeats 1000000 in
theorem direct1 {B : Base} {w : World} {b : Nat} (p : ApiProgram) (pc : List Value) (hS : St B [blk b 29 pc] w) (hp : kApiProgram.K B.e p pc) (hsm : SmallP p) (f : ApiFun) (hfm : f ∈ p.fFuns) (fc : List Value) (hf : kApiFun.K B.e f fc) (W0 : World) :
    CallsIn Fence.wide 0 Tryz.prog 75 #[.agg fc.toArray, .pointer (some ⟨b, 0, none⟩)] w (Ret B (fun _ : Option Addr × Nat => True) (fun z => .slice z.1 (directF p f).length z.2) (fun z => [blk b 29 pc, row (Kd.int .i64) W0 3 (.slice z.1 (directF p f).length z.2) (directF p f)])) := by
  obtain ⟨A0, c0, A1, c1, rfl, l0, g0, l1, g1⟩ := kApiProgram_open hp
  obtain ⟨D0, d0, D1, d1, D2, d2, D3, d3, D4, d4, rfl, m0, q0, m1, q1, m2, q2, m3, q3, m4, q4⟩ := kApiFun_open hf
  have hfs := hsm.fn f hfm
  (refine enter Tryz.func75 rfl rfl hS ?_; simp only [List.zipIdx_cons, List.zipIdx_nil, List.map_cons, List.map_nil, Nat.reduceAdd, Nat.zero_add])
  refine wSeq (wRegion' (oBox rfl (by repeat constructor) (fun b2 => ?_)))
  refine oAssign rfl (oNil (thn_n (wSeq (wRegion' (oLdA rfl (by repeat constructor) rfl (by repeat constructor) ?_)))))
  refine oLdA rfl (by repeat constructor) rfl (by repeat constructor) ?_
  (refine oCall rfl (by kernel_rfl) (fun w hS => frame hS (by repeat' constructor) (fun B' hB hS' => calls_direct hS' p _ (kApiProgram.K_grow hB hp) hsm f hfm _ (kApiFun.K_grow hB hf) W0)) ?_; rintro ⟨A6, c6⟩ -)
  refine oAssign rfl (oNil (thn_n (wRet (fin_r (fi1 rfl ?_)))))
  exact ⟨(A6, c6), trivial, rfl, Lh⟩
set_option maxRecDepth 100000 in
set_option maxHeartbeats 1000000 in
theorem values1 {B : Base} {w : World} {b : Nat} (p : ApiProgram) (pc : List Value) (hS : St B [blk b 29 pc] w) (hp : kApiProgram.K B.e p pc) (hsm : SmallP p) (f : ApiFun) (hfm : f ∈ p.fFuns) (fc : List Value) (hf : kApiFun.K B.e f fc) (W0 : World) :
    CallsIn Fence.wide 0 Tryz.prog 82 #[.agg fc.toArray, .pointer (some ⟨b, 0, none⟩)] w (Ret B (fun _ : Option Addr × Nat => True) (fun z => .slice z.1 (valuesF p f).length z.2) (fun z => [blk b 29 pc, row (Kd.int .i64) W0 3 (.slice z.1 (valuesF p f).length z.2) (valuesF p f)])) := by
  obtain ⟨A0, c0, A1, c1, rfl, l0, g0, l1, g1⟩ := kApiProgram_open hp
  obtain ⟨D0, d0, D1, d1, D2, d2, D3, d3, D4, d4, rfl, m0, q0, m1, q1, m2, q2, m3, q3, m4, q4⟩ := kApiFun_open hf
  have hfs := hsm.fn f hfm
  (refine enter Tryz.func82 rfl rfl hS ?_; simp only [List.zipIdx_cons, List.zipIdx_nil, List.map_cons, List.map_nil, Nat.reduceAdd, Nat.zero_add])
  refine wSeq (wRegion' (oBox rfl (by repeat constructor) (fun b2 => ?_)))
  refine oAssign rfl (oNil (thn_n (wSeq (wRegion' (oLdA rfl (by repeat constructor) rfl (by repeat constructor) ?_)))))
  refine oLdA rfl (by repeat constructor) rfl (by repeat constructor) ?_
  (refine oCall rfl (by kernel_rfl) (fun w hS => frame hS (by repeat' constructor) (fun B' hB hS' => calls_values hS' p _ (kApiProgram.K_grow hB hp) hsm f hfm _ (kApiFun.K_grow hB hf) W0)) ?_; rintro ⟨A6, c6⟩ -)
  refine oAssign rfl (oNil (thn_n (wRet (fin_r (fi1 rfl ?_)))))
  exact ⟨(A6, c6), trivial, rfl, Lh⟩
set_option maxRecDepth 100000 in
set_option maxHeartbeats 1000000 in
theorem refers1 {B : Base} {w : World} {b : Nat} (p : ApiProgram) (pc : List Value) (hS : St B [blk b 29 pc] w) (hp : kApiProgram.K B.e p pc) (hsm : SmallP p) (f : ApiFun) (hfm : f ∈ p.fFuns) (fc : List Value) (hf : kApiFun.K B.e f fc) (W0 : World) :
    CallsIn Fence.wide 0 Tryz.prog 84 #[.agg fc.toArray, .pointer (some ⟨b, 0, none⟩)] w (Ret B (fun _ : Option Addr × Nat => True) (fun z => .slice z.1 (refersF p f).length z.2) (fun z => [blk b 29 pc, row (Kd.int .i64) W0 3 (.slice z.1 (refersF p f).length z.2) (refersF p f)])) := by
  obtain ⟨A0, c0, A1, c1, rfl, l0, g0, l1, g1⟩ := kApiProgram_open hp
  obtain ⟨D0, d0, D1, d1, D2, d2, D3, d3, D4, d4, rfl, m0, q0, m1, q1, m2, q2, m3, q3, m4, q4⟩ := kApiFun_open hf
  have hfs := hsm.fn f hfm
  have hd1 : (directF p f).length ≤ p.fFuns.length := ris_len _ _
  have hd2 : (valuesF p f).length ≤ p.fFuns.length := ris_len _ _
  have hd3 := hsm.funs
  have hcc : [directF p f, valuesF p f].flatten = directF p f ++ valuesF p f := by simp
  (refine enter Tryz.func84 rfl rfl hS ?_; simp only [List.zipIdx_cons, List.zipIdx_nil, List.map_cons, List.map_nil, Nat.reduceAdd, Nat.zero_add])
  refine wSeq (wRegion' (oBox rfl (by repeat constructor) (fun b2 => ?_)))
  refine oAssign rfl (oNil (thn_n (wSeq (wDrawG rfl [0, 1, 3, 4, 8, 9, 10] [(2, [3, 4, 8, 9, 10], []), (5, [8, 9, 10], []), (6, [8, 9, 10], []), (7, [8, 9, 10], []), (11, [], [])] [12] 24 (by kernel_rfl) rfl rfl (fun w0 => ?_)))))
  refine oLdA rfl (by repeat constructor) rfl (by repeat constructor) ?_
  refine oLdA rfl (by repeat constructor) rfl (by repeat constructor) ?_
  refine oLdA rfl (by repeat constructor) rfl (by repeat constructor) ?_
  refine oLdA rfl (by repeat constructor) rfl (by repeat constructor) ?_
  refine oFld (n := 0) (m := 0) rfl rfl rfl (oLd rfl (by repeat constructor) rfl rfl ?_)
  refine oLenS rfl rfl (oLkSegG (oSegG rfl ?_))
  (refine oCall rfl (by kernel_rfl) (fun w hS => frame hS (by repeat' constructor) (fun B' hB hS' => calls_direct hS' p _ (kApiProgram.K_grow hB hp) hsm f hfm _ (kApiFun.K_grow hB hf) B.e)) ?_; rintro ⟨A6, c6⟩ -)
  refine oAgainG ?_ rfl (fun w0 => ?_)
  ·
   refine AgainG.cons rfl rfl rfl rfl (fun w0 => ?_) ?_
   ·
    refine oLdA rfl (by repeat constructor) rfl (by repeat constructor) ?_
    exact oLkHas rfl
   refine AgainG.cons rfl rfl rfl rfl (fun w0 => ?_) ?_
   ·
    refine oLdA rfl (by repeat constructor) rfl (by repeat constructor) ?_
    exact oLkHas rfl
   refine AgainG.cons rfl rfl rfl rfl (fun w0 => ?_) ?_
   ·
    refine oFld (n := 0) (m := 0) rfl rfl rfl ?_
    exact oLkHas rfl
   refine AgainG.cons rfl rfl rfl rfl (fun w0 => ?_) ?_
   ·
    refine oLd rfl (by repeat constructor) rfl rfl ?_
    exact oLkHas rfl
   refine AgainG.cons rfl rfl rfl rfl (fun w0 => ?_) ?_
   ·
    refine oLenS rfl rfl ?_
    exact oLkHas rfl
   exact AgainG.nil
  refine oLkSegG (oSegG rfl ?_)
  (refine oCall rfl (by kernel_rfl) (fun w hS => frame hS (by repeat' constructor) (fun B' hB hS' => calls_values hS' p _ (kApiProgram.K_grow hB hp) hsm f hfm _ (kApiFun.K_grow hB hf) B.e)) ?_; rintro ⟨A9, c9⟩ -)
  refine oAgainG ?_ rfl (fun w0 => ?_)
  ·
   refine AgainG.cons rfl rfl rfl rfl (fun w0 => ?_) ?_
   ·
    refine oFld (n := 0) (m := 0) rfl rfl rfl ?_
    exact oLkHas rfl
   refine AgainG.cons rfl rfl rfl rfl (fun w0 => ?_) ?_
   ·
    refine oLd rfl (by repeat constructor) rfl rfl ?_
    exact oLkHas rfl
   refine AgainG.cons rfl rfl rfl rfl (fun w0 => ?_) ?_
   ·
    refine oLenS rfl rfl ?_
    exact oLkHas rfl
   exact AgainG.nil
  refine oLkSegG (oSegG rfl ?_)
  refine oBuildSliceF (Parts.cons rfl (Parts.cons rfl Parts.nil)) rfl rfl rfl rfl rfl (Fulls.cons (by repeat constructor) rfl (Fulls.cons (by repeat constructor) rfl Fulls.nil (by repeat (first | exact AppL.nil | apply AppL.cons))) (by repeat (first | exact AppL.nil | apply AppL.cons))) (fun b10 => ?_)
  refine oConv (blk_row (enc := hV) (h1 := fun _ => rfl) (W := B.e) (xs := [(A6, (directF p f).length, c6), (A9, (valuesF p f).length, c9)]) (n := 2) (by repeat constructor) rfl rfl (by decide)) ?_
  refine oConv bun_nil (oSnoc (kd := Kd.int .i64) (W := B.e) (ei := 3) (u := (A6, (directF p f).length, c6)) (l := directF p f) (hs := []) (xss := []) (by repeat constructor) (by repeat constructor) rfl ?_)
  refine oSnoc (kd := Kd.int .i64) (W := B.e) (ei := 3) (u := (A9, (valuesF p f).length, c9)) (l := valuesF p f) (hs := [(A6, (directF p f).length, c6)]) (xss := [directF p f]) (by repeat constructor) (by repeat constructor) rfl ?_
  dsimp only [List.nil_append, List.cons_append]
  refine oAgainG ?_ rfl (fun w0 => ?_)
  ·
   refine AgainG.cons rfl rfl rfl rfl (fun w0 => ?_) ?_
   ·
    refine oFld (n := 0) (m := 0) rfl rfl rfl ?_
    exact oLkHas rfl
   refine AgainG.cons rfl rfl rfl rfl (fun w0 => ?_) ?_
   ·
    refine oLd rfl (by repeat constructor) rfl rfl ?_
    exact oLkHas rfl
   refine AgainG.cons rfl rfl rfl rfl (fun w0 => ?_) ?_
   ·
    refine oLenS rfl rfl ?_
    exact oLkHas rfl
   exact AgainG.nil
  refine oLkSegG (oSegG rfl ?_)
  (refine oCall rfl (by kernel_rfl) (fun w hS => frame' hS .nil (fun B' hB hR hS' => concat_int hS' [directF p f, valuesF p f] (some ⟨b10, 0, none⟩) 2 (grid_C (kd := Kd.int .i64) (W := B.e) (ei := 3) (eo := 42) (W0 := B.e) (n := 2) (cp := 2) (hs := [(A6, (directF p f).length, c6), (A9, (valuesF p f).length, c9)]) (hR _ _ (by repeat constructor)) (hR _ _ (by repeat constructor)) rfl hB) (by simp; omega) B.e)) ?_; rintro ⟨A11, c11⟩ -)
  rw [hcc]
  refine oAgainG ?_ rfl (fun w0 => ?_)
  ·
   refine AgainG.cons rfl rfl rfl rfl (fun w0 => ?_) ?_
   ·
    refine oFld (n := 0) (m := 0) rfl rfl rfl ?_
    exact oLkHas rfl
   refine AgainG.cons rfl rfl rfl rfl (fun w0 => ?_) ?_
   ·
    refine oLd rfl (by repeat constructor) rfl rfl ?_
    exact oLkHas rfl
   refine AgainG.cons rfl rfl rfl rfl (fun w0 => ?_) ?_
   ·
    refine oLenS rfl rfl ?_
    exact oLkHas rfl
   exact AgainG.nil
  refine oLkSegG (oSegG rfl ?_)
  (refine oCall rfl (by kernel_rfl) (fun w hS => frame' hS .nil (fun B' hB hR hS' => calls_rising hS' (directF p f ++ valuesF p f) A11 c11 (row_Cs (W := B.e) (e := 3) (n := (directF p f ++ valuesF p f).length) (cp := c11) (hR _ _ (by repeat constructor))) (by simp; omega) p.fFuns.length W0)) ?_; rintro ⟨A15, c15⟩ -)
  refine oAgainG ?_ rfl (fun w0 => ?_)
  ·
   exact AgainG.nil
  refine oTailG (oAssign rfl (oNil (thn_n (wRet (fin_r (fi1 rfl ?_))))))
  exact ⟨(A15, c15), trivial, rfl, Lh⟩
set_option maxRecDepth 100000 in
set_option maxHeartbeats 1000000 in
theorem vias1 {B : Base} {w : World} (hS : St B [bun []] w) (f : ApiFun) (fc : List Value) (hf : kApiFun.K B.e f fc) (hcl : f.fF.fCode.length ≤ 80) (W0 : World) :
    CallsIn Fence.wide 0 Tryz.prog 87 (#[] ++ [Value.agg fc.toArray].toArray ++ #[]) w (Ret B (fun _ : Option Addr × Nat => True) (fun z => .slice z.1 (viasF f).length z.2) (fun z => [bun [], row (Kd.int .i64) W0 3 (.slice z.1 (viasF f).length z.2) (viasF f)])) := by
  obtain ⟨D0, d0, D1, d1, D2, d2, D3, d3, D4, d4, rfl, m0, q0, m1, q1, m2, q2, m3, q3, m4, q4⟩ := kApiFun_open hf
  (refine enter Tryz.func87 rfl rfl hS ?_; simp only [List.zipIdx_cons, List.zipIdx_nil, List.map_cons, List.map_nil, Nat.reduceAdd, Nat.zero_add])
  refine wSeq (wRegion' (oBox rfl (by repeat constructor) (fun b1 => ?_)))
  refine oAssign rfl (oNil (thn_n (wSeq (wRegion' (oAssign rfl (oNil (thn_n (wSeq (wSeq (wRegion' (oFld (n := 3) (m := 3) rfl rfl rfl ?_)))))))))))
  refine oFld (n := 7) (m := 10) rfl rfl rfl (oLd rfl (by repeat constructor) rfl rfl ?_)
  refine oLenS rfl rfl (oMove rfl (oNil (thn_n (wBlock (wLoop (ι := Nat × Option Addr × Nat) (fun z => [(3, .slice z.2.1 (viaTo f z.1).length z.2.2), (8, .slice D2 f.fF.fCode.length d2), (9, .int .i64 (f.fF.fCode.length : Int)), (10, .int .i64 (z.1 : Int))]) (fun z => [bun [], row (Kd.int .i64) B.e 3 (.slice z.2.1 (viaTo f z.1).length z.2.2) (viaTo f z.1)]) (fun z => z.1 ≤ f.fF.fCode.length) (fun z => f.fF.fCode.length - z.1) (0, none, 0) ?_ cv (Leads.nilrow.trans Lh) ?_)))))
  ·
   exact Nat.zero_le _
  rintro ⟨i, A3, c3⟩ hi
  dsimp only at hi
  have hle := viaTo_le f i
  try dsimp only
  refine wSeq (wRegion' (oLss rfl rfl (oNil (thn_n (wSeq (wC (fun h11 => ?_) (fun h11 => ?_)))))))
  ·
   obtain ⟨x, hx⟩ : ∃ x, f.fF.fCode[i]? = some x := ⟨_, List.getElem?_eq_getElem (by omega)⟩
   obtain ⟨e1, cs1, hE⟩ := q2.elm hx
   obtain rfl := kApiInstr_open hE.K
   have hvs := viaTo_succ hx
   refine wSkip (thn_n (wSeq (wBlock (wSeq (wRegion' (oIdxE rfl rfl (hE) (by omega) rfl rfl ?_))))))
   have hc12 := (hE).cell
   first | refine oLdX rfl hc12 rfl rfl ?_ | refine oLdXA rfl hc12 rfl (by repeat constructor) ?_ | (refine oLdR1 rfl (by repeat constructor) (by omega) rfl (fun u13 hu13 => ?_))
   refine oAlloc rfl (by repeat constructor) (fun b5 => ?_)
   refine oStA rfl rfl rfl rfl (by repeat constructor) (by rfl) ?_
   refine oNil (thn_n (wSeq (wRegion' (oFld (n := 0) (m := 0) rfl rfl rfl (oLd rfl (by repeat constructor) rfl rfl ?_)))))
   refine oEql rfl rfl (oNil (thn_n (wC (fun h16 => ?_) (fun h16 => ?_))))
   ·
    refine wRegion' (oMove rfl (oFld (n := 3) (m := 3) rfl rfl rfl (oLd rfl (by repeat constructor) rfl rfl ?_)))
    refine oBuildSlice1 rfl rfl rfl rfl rfl (by repeat constructor) rfl (fun b20 => ?_)
    refine oApp1 x.fC rfl rfl rfl rfl (by repeat constructor) (by repeat constructor) rfl (by omega) rfl (fun g21 cp21 => ?_)
    rw [if_pos h16] at hvs
    rw [show (viaTo f i).length + 1 = (viaTo f (i + 1)).length by rw [hvs, List.length_append]; rfl, ← hvs]
    refine oAssign rfl (oNil (blk_n (thn_n (wRegion' (oSucc rfl rfl (by omega) ?_)))))
    refine oMove rfl (oNil (thn_n ?_))
    exact ⟨rfl, (i + 1, some ⟨g21, 0, none⟩, cp21), by show i + 1 ≤ _; omega, by show f.fF.fCode.length - (i + 1) < f.fF.fCode.length - i; omega, cv, Lh⟩
   refine wSkip (blk_n (thn_n (wRegion' (oSucc rfl rfl (by omega) ?_))))
   refine oMove rfl (oNil (thn_n ?_))
   exact ⟨rfl, (i + 1, A3, c3), by show i + 1 ≤ _; omega, by show f.fF.fCode.length - (i + 1) < f.fF.fCode.length - i; omega, by dsimp only; rw [hvs, if_neg h16, List.append_nil]; exact cv, by dsimp only; rw [hvs, if_neg h16, List.append_nil]; exact Lh⟩
  obtain rfl : i = f.fF.fCode.length := by omega
  refine wExit (thn_x (thn_x (blk_x (thn_n (wSeq (wRegion' (oMove rfl ?_)))))))
  (refine oCall rfl (by kernel_rfl) (fun w hS => frame' hS .nil (fun B' hB hR hS' => calls_rising hS' (viaTo f f.fF.fCode.length) A3 c3 (row_Cs (W := B.e) (e := 3) (n := (viaTo f f.fF.fCode.length).length) (cp := c3) (hR _ _ (by repeat constructor))) (by omega) 8 W0)) ?_; rintro ⟨A24, c24⟩ -)
  rw [show ris (viaTo f f.fF.fCode.length) 8 = viasF f by unfold viaTo viasF; rw [List.take_length]]
  refine oAssign rfl (oNil (thn_n (wRet (fin_r (fi1 rfl ?_)))))
  exact ⟨(A24, c24), trivial, rfl, Lh⟩
set_option maxRecDepth 100000 in
theorem prog_Direct {B : Base} {w : World} (hS : St B [] w) (p : ApiProgram) (pc : List Value) (hp : kApiProgram.K B.e p pc) (hsm : SmallP p) (W0 : World) :
    CallsIn Fence.wide 0 Tryz.prog 21 #[.agg pc.toArray] w (Ret B (fun z : Option Addr × Nat × List Hdr => z.2.2.length = p.fFuns.length) (fun z => .slice z.1 p.fFuns.length z.2.1) (fun z => [row kHdr W0 42 (.slice z.1 p.fFuns.length z.2.1) z.2.2, bun (rws (Kd.int .i64) W0 3 z.2.2 (p.fFuns.map (directF p)))])) := by
  obtain ⟨A0, c0, A1, c1, rfl, l0, g0, l1, g1⟩ := kApiProgram_open hp
  have hn := hsm.funs
  (refine enter Tryz.func21 rfl rfl hS ?_; simp only [List.zipIdx_cons, List.zipIdx_nil, List.map_cons, List.map_nil, Nat.reduceAdd, Nat.zero_add])
  refine wSeq (wRegion' (oBox rfl (by repeat constructor) (fun b1 => ?_)))
  refine oAssign rfl (oNil (thn_n (wSeq (wRegion' (oLdA rfl (by repeat constructor) rfl (by repeat constructor) ?_)))))
  refine oMakeFunc rfl ?_
  (refine oCall rfl (by kernel_rfl) (fun w hS => frame hS (Ψ := [blk b1 29 [.slice A0 p.fFuns.length c0, .slice A1 p.fDats.length c1, .int .i64 p.fEntry]]) (by repeat' constructor) (fun B' hB hS' => calls_each hS' p _ (kApiProgram.K_grow hB hp) (by omega) 75 _ (directF p) (by kernel_rfl) W0 (fun B2 w2 f fc hg hf hfK hS2 => direct1 p _ hS2 (kApiProgram.K_grow (hB.trans hg) hp) hsm f hf fc hfK W0))) ?_; rintro ⟨A5, c5, hs5⟩ hl5)
  refine oAssign rfl (oNil (thn_n (wRet (fin_r (fi1 rfl ?_)))))
  exact ⟨(A5, c5, hs5), hl5, rfl, Lh⟩
set_option maxRecDepth 100000 in
theorem prog_Values {B : Base} {w : World} (hS : St B [] w) (p : ApiProgram) (pc : List Value) (hp : kApiProgram.K B.e p pc) (hsm : SmallP p) (W0 : World) :
    CallsIn Fence.wide 0 Tryz.prog 23 #[.agg pc.toArray] w (Ret B (fun z : Option Addr × Nat × List Hdr => z.2.2.length = p.fFuns.length) (fun z => .slice z.1 p.fFuns.length z.2.1) (fun z => [row kHdr W0 42 (.slice z.1 p.fFuns.length z.2.1) z.2.2, bun (rws (Kd.int .i64) W0 3 z.2.2 (p.fFuns.map (valuesF p)))])) := by
  obtain ⟨A0, c0, A1, c1, rfl, l0, g0, l1, g1⟩ := kApiProgram_open hp
  have hn := hsm.funs
  (refine enter Tryz.func23 rfl rfl hS ?_; simp only [List.zipIdx_cons, List.zipIdx_nil, List.map_cons, List.map_nil, Nat.reduceAdd, Nat.zero_add])
  refine wSeq (wRegion' (oBox rfl (by repeat constructor) (fun b1 => ?_)))
  refine oAssign rfl (oNil (thn_n (wSeq (wRegion' (oLdA rfl (by repeat constructor) rfl (by repeat constructor) ?_)))))
  refine oMakeFunc rfl ?_
  (refine oCall rfl (by kernel_rfl) (fun w hS => frame hS (Ψ := [blk b1 29 [.slice A0 p.fFuns.length c0, .slice A1 p.fDats.length c1, .int .i64 p.fEntry]]) (by repeat' constructor) (fun B' hB hS' => calls_each hS' p _ (kApiProgram.K_grow hB hp) (by omega) 82 _ (valuesF p) (by kernel_rfl) W0 (fun B2 w2 f fc hg hf hfK hS2 => values1 p _ hS2 (kApiProgram.K_grow (hB.trans hg) hp) hsm f hf fc hfK W0))) ?_; rintro ⟨A5, c5, hs5⟩ hl5)
  refine oAssign rfl (oNil (thn_n (wRet (fin_r (fi1 rfl ?_)))))
  exact ⟨(A5, c5, hs5), hl5, rfl, Lh⟩
set_option maxRecDepth 100000 in
theorem prog_Refers {B : Base} {w : World} (hS : St B [] w) (p : ApiProgram) (pc : List Value) (hp : kApiProgram.K B.e p pc) (hsm : SmallP p) (W0 : World) :
    CallsIn Fence.wide 0 Tryz.prog 24 #[.agg pc.toArray] w (Ret B (fun z : Option Addr × Nat × List Hdr => z.2.2.length = p.fFuns.length) (fun z => .slice z.1 p.fFuns.length z.2.1) (fun z => [row kHdr W0 42 (.slice z.1 p.fFuns.length z.2.1) z.2.2, bun (rws (Kd.int .i64) W0 3 z.2.2 (p.fFuns.map (refersF p)))])) := by
  obtain ⟨A0, c0, A1, c1, rfl, l0, g0, l1, g1⟩ := kApiProgram_open hp
  have hn := hsm.funs
  (refine enter Tryz.func24 rfl rfl hS ?_; simp only [List.zipIdx_cons, List.zipIdx_nil, List.map_cons, List.map_nil, Nat.reduceAdd, Nat.zero_add])
  refine wSeq (wRegion' (oBox rfl (by repeat constructor) (fun b1 => ?_)))
  refine oAssign rfl (oNil (thn_n (wSeq (wRegion' (oLdA rfl (by repeat constructor) rfl (by repeat constructor) ?_)))))
  refine oMakeFunc rfl ?_
  (refine oCall rfl (by kernel_rfl) (fun w hS => frame hS (Ψ := [blk b1 29 [.slice A0 p.fFuns.length c0, .slice A1 p.fDats.length c1, .int .i64 p.fEntry]]) (by repeat' constructor) (fun B' hB hS' => calls_each hS' p _ (kApiProgram.K_grow hB hp) (by omega) 84 _ (refersF p) (by kernel_rfl) W0 (fun B2 w2 f fc hg hf hfK hS2 => refers1 p _ hS2 (kApiProgram.K_grow (hB.trans hg) hp) hsm f hf fc hfK W0))) ?_; rintro ⟨A5, c5, hs5⟩ hl5)
  refine oAssign rfl (oNil (thn_n (wRet (fin_r (fi1 rfl ?_)))))
  exact ⟨(A5, c5, hs5), hl5, rfl, Lh⟩
set_option maxRecDepth 100000 in
theorem prog_Vias {B : Base} {w : World} (hS : St B [] w) (p : ApiProgram) (pc : List Value) (hp : kApiProgram.K B.e p pc) (hsm : SmallP p) (W0 : World) :
    CallsIn Fence.wide 0 Tryz.prog 25 #[.agg pc.toArray] w (Ret B (fun z : Option Addr × Nat × List Hdr => z.2.2.length = p.fFuns.length) (fun z => .slice z.1 p.fFuns.length z.2.1) (fun z => [row kHdr W0 42 (.slice z.1 p.fFuns.length z.2.1) z.2.2, bun (rws (Kd.int .i64) W0 3 z.2.2 (p.fFuns.map (viasF)))])) := by
  obtain ⟨A0, c0, A1, c1, rfl, l0, g0, l1, g1⟩ := kApiProgram_open hp
  have hn := hsm.funs
  (refine enter Tryz.func25 rfl rfl hS ?_; simp only [List.zipIdx_cons, List.zipIdx_nil, List.map_cons, List.map_nil, Nat.reduceAdd, Nat.zero_add])
  refine wSeq (wRegion' (oBox rfl (by repeat constructor) (fun b1 => ?_)))
  refine oAssign rfl (oNil (thn_n (wSeq (wRegion' (oLdA rfl (by repeat constructor) rfl (by repeat constructor) ?_)))))
  refine oConv bun_nil ?_
  (refine oCall rfl (by kernel_rfl) (fun w hS => frame hS (Ψ := [bun []]) (by repeat' constructor) (fun B' hB hS' => calls_each hS' p _ (kApiProgram.K_grow hB hp) (by omega) 87 #[] (viasF) (by kernel_rfl) W0 (fun B2 w2 f fc hg hf hfK hS2 => vias1 hS2 f fc hfK (hsm.fn f hf).1 W0))) ?_; rintro ⟨A5, c5, hs5⟩ hl5)
  refine oAssign rfl (oNil (thn_n (wRet (fin_r (fi1 rfl ?_)))))
  exact ⟨(A5, c5, hs5), hl5, rfl, Lh⟩
end Go.Proofs.YtogaiijhicfoaaaGreatU
