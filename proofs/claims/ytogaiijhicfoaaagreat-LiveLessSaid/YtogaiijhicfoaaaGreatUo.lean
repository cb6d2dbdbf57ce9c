import Derived.Test.YtogaiijhicfoaaaGreatUn
import Derived.Test.YtogaiijhicfoaaaGreatUh
import Derived.Test.YtogaiijhicfoaaaGreatKic

/-
  What is live: the third statement.
-/
namespace Go.Proofs.YtogaiijhicfoaaaGreatU
set_option linter.unusedVariables false
set_option linter.unusedSimpArgs false
open Go.RowKit Go.Proofs.YtogaiijhicfoaaaGreatK Go.Proofs.YtogaiijhicfoaaaGreatT Go.Proofs.YtogaiijhicfoaaaGreatL Go.Proofs.YtogaiijhicfoaaaGreatV Go.Proofs.YtogaiijhicfoaaaGreatG Go.Proofs.YtogaiijhicfoaaaGreatW

def nopI : ApiInstr := ⟨1, 0, 0, 0, 0⟩
def codN (f : ApiFunc) (j : Nat) : ApiFunc := ⟨f.fClass, f.fKinds, f.fPad, f.fNosplit, f.fFrom, f.fTo, f.fLines, f.fCode.set j nopI, f.fRelocs⟩
def nopF (f : ApiFun) (j : Nat) : ApiFun := ⟨f.fFile, f.fItem, f.fName, codN f.fF j, f.fRefs.set j (-1)⟩
def nopP (p : ApiProgram) (i : Nat) (f : ApiFun) (j : Nat) : ApiProgram := ⟨p.fFuns.set i (nopF f j), p.fDats, p.fEntry⟩
def nopT (t : FunT) (j : Nat) : FunT := (t.1, t.2.1, t.2.2.1, codN t.2.2.2.1 j, t.2.2.2.2)
theorem nopP_len (p : ApiProgram) (i : Nat) (f : ApiFun) (j : Nat) : (nopP p i f j).fFuns.length = p.fFuns.length := List.length_set ..
theorem nop_small {p : ApiProgram} (h : SmallP p) {i : Nat} {f : ApiFun} (hf : p.fFuns[i]? = some f) (j : Nat) : SmallP (nopP p i f j) := by
  refine ⟨by rw [nopP_len]; exact h.funs, h.dats, fun g hg => ?_, h.dt⟩
  rcases List.mem_or_eq_of_mem_set hg with hg | rfl
  · exact h.fn g hg
  · have := h.fn f (List.mem_of_getElem? hf)
    unfold nopF codN
    simpa using this
theorem refsC_nop {f : ApiFun} {j : Nat} {needs : List Int} {r : Int} (h1 : ¬ needF 1 ∈ needs) (h : r ∈ refsC (nopF f j) needs) : r ∈ refsC f needs := by
  obtain ⟨m, x, hx, hr, hn⟩ := mem_refsC.1 h
  have hx : (f.fF.fCode.set j nopI)[m]? = some x := hx
  have hr : (f.fRefs.set j (-1))[m]? = some r := hr
  rw [List.getElem?_set] at hx hr
  by_cases e : j = m
  · rw [if_pos e] at hx
    split at hx
    · obtain rfl := Option.some.inj hx
      exact absurd hn h1
    · cases hx
  · rw [if_neg e] at hx hr
    exact mem_refsC.2 ⟨m, x, hx, hr, hn⟩
theorem direct_nop {p : ApiProgram} {i j : Nat} {f : ApiFun} {x : Int} (h : x ∈ directF (nopP p i f j) (nopF f j)) : x ∈ directF p f := by
  unfold directF at *
  rw [nopP_len] at h
  obtain ⟨h1, h2⟩ := mem_ris.1 h
  exact mem_ris.2 ⟨refsC_nop (by decide) h1, h2⟩
theorem values_nop {p : ApiProgram} {i j : Nat} {f : ApiFun} {x : Int} (h : x ∈ valuesF (nopP p i f j) (nopF f j)) : x ∈ valuesF p f := by
  unfold valuesF at *
  rw [nopP_len] at h
  obtain ⟨h1, h2⟩ := mem_ris.1 h
  refine mem_ris.2 ⟨?_, h2⟩
  unfold takenF at *
  rcases List.mem_append.1 h1 with h1 | h1
  · exact List.mem_append.2 (.inl (refsC_nop (by decide) h1))
  · obtain ⟨l, hl, hx⟩ := List.mem_flatten.1 h1
    obtain ⟨t, ht, rfl⟩ := List.mem_map.1 hl
    obtain ⟨h3, h4⟩ := mem_ris.1 ht
    exact List.mem_append.2 (.inr (List.mem_flatten.2 ⟨_, List.mem_map.2 ⟨t, mem_ris.2 ⟨refsC_nop (by decide) h3, h4⟩, rfl⟩, hx⟩))
theorem refers_other {p : ApiProgram} {i j : Nat} {f g : ApiFun} {x : Int} (h : x ∈ refersF (nopP p i f j) g) : x ∈ refersF p g := by
  unfold refersF directF valuesF at *
  rw [nopP_len] at h
  exact h
theorem refers_nop {p : ApiProgram} {i j : Nat} {f : ApiFun} {x : Int} (h : x ∈ refersF (nopP p i f j) (nopF f j)) : x ∈ refersF p f := by
  unfold refersF at *
  rw [nopP_len] at h
  obtain ⟨h1, h2⟩ := mem_ris.1 h
  refine mem_ris.2 ⟨?_, h2⟩
  rcases List.mem_append.1 h1 with h1 | h1
  · exact List.mem_append.2 (.inl (direct_nop h1))
  · exact List.mem_append.2 (.inr (values_nop h1))
theorem ends_nop {p : ApiProgram} {i j : Nat} {f : ApiFun} (hf : p.fFuns[i]? = some f) {a : Nat} {b : Int} (h : b ∈ endsOf ((nopP p i f j).fFuns.map (refersF (nopP p i f j))) a) : b ∈ endsOf (p.fFuns.map (refersF p)) a := by
  unfold endsOf at *
  obtain ⟨h1, h2⟩ := List.mem_filter.1 h
  refine List.mem_filter.2 ⟨?_, by unfold inG at *; rw [List.length_map] at *; rw [nopP_len] at h2; exact h2⟩
  rw [List.getD_eq_getElem?_getD, List.getElem?_map] at *
  show b ∈ ((p.fFuns[a]?).map (refersF p)).getD []
  have h1 : b ∈ (((p.fFuns.set i (nopF f j))[a]?).map (refersF (nopP p i f j))).getD [] := h1
  rw [List.getElem?_set] at h1
  by_cases e : i = a
  · subst e
    rw [if_pos rfl, if_pos (List.getElem?_eq_some_iff.1 hf).1] at h1
    rw [hf]
    exact refers_nop h1
  · rw [if_neg e] at h1
    cases hg : p.fFuns[a]? with
    | none => rw [hg] at h1; exact h1
    | some g => rw [hg] at h1; exact refers_other h1
theorem live_nop {p : ApiProgram} {i j : Nat} {f : ApiFun} (hf : p.fFuns[i]? = some f) {k : Nat} (h : (liveL (nopP p i f j))[k]? = some true) : (liveL p)[k]? = some true := by
  have key : ∀ x, RP ((nopP p i f j).fFuns.map (refersF (nopP p i f j))) [(nopP p i f j).fEntry] x → RP (p.fFuns.map (refersF p)) [p.fEntry] x := by
    intro x hx
    induction hx with
    | start h1 h2 => exact .start h1 (by unfold inG at *; rw [List.length_map] at *; rw [nopP_len] at h2; exact h2)
    | step h1 h2 ih => exact .step ih (ends_nop hf h2)
  obtain ⟨h1, h2⟩ := lv_iff.1 h
  exact lv_iff.2 ⟨by rw [nopP_len] at h1; exact h1, key _ h2⟩
theorem zip_set {α β γ : Type} {m : α → β → γ} {a : List α} {b : List β} {i : Nat} {x : α} {y : β} : List.zipWith m (a.set i x) (b.set i y) = (List.zipWith m a b).set i (m x y) := by
  induction a generalizing b i with
  | nil => rfl
  | cons a0 a ih =>
    cases b with
    | nil => cases i <;> rfl
    | cons b0 b =>
      cases i with
      | zero => rfl
      | succ i => simp only [List.set_cons_succ, List.zipWith_cons_cons, ih]
theorem kFunT_open {W : World} {t : FunT} {cs : List Value} (h : kFunT.K W t cs) : ∃ A0 c0 A1 c1 A2 c2 A3 c3, cs = [.int .i64 t.1, .int .i64 t.2.1, .string t.2.2.1, .int .i64 t.2.2.2.1.fClass, .slice A0 t.2.2.2.1.fKinds.length c0, .int .i64 t.2.2.2.1.fPad, .bool t.2.2.2.1.fNosplit, .int .i64 t.2.2.2.1.fFrom, .int .i64 t.2.2.2.1.fTo, .slice A1 t.2.2.2.1.fLines.length c1, .slice A2 t.2.2.2.1.fCode.length c2, .slice A3 t.2.2.2.1.fRelocs.length c3, hV t.2.2.2.2] ∧ t.2.2.2.1.fKinds.length ≤ c0 ∧ (Kd.int .i64).C W A0 t.2.2.2.1.fKinds ∧ t.2.2.2.1.fLines.length ≤ c1 ∧ kApiLine.C W A1 t.2.2.2.1.fLines ∧ t.2.2.2.1.fCode.length ≤ c2 ∧ kApiInstr.C W A2 t.2.2.2.1.fCode ∧ t.2.2.2.1.fRelocs.length ≤ c3 ∧ kApiReloc.C W A3 t.2.2.2.1.fRelocs := by
  obtain ⟨x1, d1, rfl, a1, x2, d2, rfl, a2, x3, d3, rfl, a3, x4, d4, rfl, a4, a5⟩ := h
  obtain ⟨A0, c0, A1, c1, A2, c2, A3, c3, rfl, hr⟩ := kApiFunc_open a4
  rw [show x1 = [Value.int .i64 t.1] from a1, show x2 = [Value.int .i64 t.2.1] from a2, show x3 = [Value.string t.2.2.1] from a3, show d4 = [hV t.2.2.2.2] from a5]
  exact ⟨A0, c0, A1, c1, A2, c2, A3, c3, rfl, hr⟩
theorem kFunT_code {W : World} {t : FunT} {cs : List Value} (h : kFunT.K W t cs) : ∃ A2 c2, cs[10]? = some (.slice A2 t.2.2.2.1.fCode.length c2) ∧ kApiInstr.C W A2 t.2.2.2.1.fCode := by
  obtain ⟨A0, c0, A1, c1, A2, c2, A3, c3, rfl, m0, q0, m1, q1, m2, q2, m3, q3⟩ := kFunT_open h
  exact ⟨A2, c2, rfl, q2⟩
theorem kFunT_nop {W : World} {t : FunT} {j n cp : Nat} {A : Option Addr} (hn : t.2.2.2.1.fCode.length = n) (hcp : n ≤ cp) (hC : kApiInstr.C W A (t.2.2.2.1.fCode.set j nopI)) (a : List Value) (h : kFunT.K W t a) : kFunT.K W (nopT t j) (patchL a 10 [.slice A n cp]) := by
  subst hn
  obtain ⟨A0, c0, A1, c1, A2, c2, A3, c3, rfl, m0, q0, m1, q1, m2, q2, m3, q3⟩ := kFunT_open h
  have hk := kApiFunc_mk W (codN t.2.2.2.1 j) (A0 := A0) (A1 := A1) (A2 := A) (A3 := A3) (c0 := c0) (c1 := c1) (c2 := cp) (c3 := c3) m0 q0 m1 q1 (by show (t.2.2.2.1.fCode.set j nopI).length ≤ cp; rw [List.length_set]; exact hcp) hC m3 q3
  have hm := kFunT_mk (W := W) (i := t.1) (k := t.2.1) (s := t.2.2.1) (f := codN t.2.2.2.1 j) (u := t.2.2.2.2) hk
  rw [show (codN t.2.2.2.1 j).fCode.length = t.2.2.2.1.fCode.length from List.length_set ..] at hm
  exact hm
set_option maxRecDepth 100000 in
set_option maxHeartbeats 4000000 in
theorem liveLess {B : Base} {w : World} (hS : St B [] w) (A : Option Addr) (cp : Nat) (l : List ApiObject) (hC : kApiObject.C B.e A l) (hv : ∀ o ∈ l, vApiObject o) (at_ : Int × Int) (ac : List Value) (ha : (Kd.pair (Kd.int .i64) (Kd.int .i64)).K B.e at_ ac) :
    CallsIn Fence.wide 0 Tryz.prog 7 #[.slice A l.length cp, .agg ac.toArray] w (Ret B (fun _ : Unit => True) (fun _ => .bool true) (fun _ => [])) := by
  obtain ⟨x, y⟩ := at_
  obtain ⟨_, _, rfl, rfl, rfl⟩ := ha
  (refine enter Tryz.func7 rfl rfl hS ?_; simp only [List.zipIdx_cons, List.zipIdx_nil, List.map_cons, List.map_nil, Nat.reduceAdd, Nat.zero_add])
  refine wSeq (wRegion' (oBox rfl (by repeat constructor) (fun b3 => ?_)))
  refine oAssign rfl (oNil (thn_n (wSeq (wSeq (wRegion' (oMove rfl ?_))))))
  (refine oCall rfl (by kernel_rfl) (fun w hS => frame hS (by repeat' constructor) (fun B' hB hS' => ref24_Few hS' A cp l (Kd.C_grow hB hC))) ?_; rintro r12 h12)
  first | refine oNot rfl ?_ | refine oNotB rfl ?_
  refine oNil (thn_n (wC (fun h13 => ?_) (fun h13 => ?_)))
  ·
   refine wSeq (wRegion' ?_)
   (refine oCall rfl (by kernel_rfl) (fun w hS => frame hS (by repeat' constructor) (fun B' hB hS' => known26 hS')) ?_; rintro ⟨⟩ -)
   refine oAssign rfl (oNil (thn_n (wRet (thn_r (fin_r (fi1 rfl ?_))))))
   exact ⟨(), trivial, rfl, Lh⟩
  have hsm : FewO l := h12 (by simpa using h13)
  refine wSkip (thn_n (wSeq (wRegion' (oMove rfl ?_))))
  (refine oCall rfl (by kernel_rfl) (fun w hS => frame hS (by repeat' constructor) (fun B' hB hS' => ref24_Bind hS' A cp l B.e hB hC hv hsm mainS)) ?_; rintro z ⟨hz, hzp⟩)
  obtain ⟨Af, cf, ft, fr, Ad, cd, dt, dr⟩ := z
  have hz1 := hz.f
  have hz3 := hz.d
  dsimp only [PZ.cells] at hz1 hz3 ⊢
  have hPf : funsOf ft fr = (bindP l mainS).fFuns := by rw [← hzp]; rfl
  have hPd : datsOf dt dr = (bindP l mainS).fDats := by rw [← hzp]; rfl
  have hfl : ft.length = (bindP l mainS).fFuns.length := by rw [← hPf]; exact (zip_len hz1).symm
  refine oMove rfl (oExt rfl (by repeat constructor) ?_)
  refine oExt rfl (by repeat constructor) ?_
  refine oAlloc rfl (by repeat constructor) (fun b5 => ?_)
  refine oAlloc rfl (by repeat constructor) (fun b6 => ?_)
  refine oStA rfl rfl rfl rfl (by repeat constructor) (by rfl) ?_
  refine oStA rfl rfl rfl rfl (by repeat constructor) (by rfl) ?_
  refine oNil (thn_n (wSeq (wSeq (wDrawG rfl [0, 1, 2, 3, 4] [(5, [], [6, 7, 8, 9, 10, 11, 12, 13, 14, 15, 16, 17, 18, 19, 20, 21, 22, 23, 24, 25, 26, 27, 28, 29, 30, 31, 32, 33, 34, 35, 36, 37, 38])] [] 24 (by kernel_rfl) rfl rfl (fun w0 => ?_)))))
  refine oFld (n := 0) (m := 0) rfl rfl rfl (oLd rfl (by repeat constructor) rfl rfl ?_)
  refine oNeq rfl rfl (oMove rfl ?_)
  first | refine oSplit (t := 23) rfl (fun h23 => ?_) (fun h23 => ?_) | refine oSplitB (t := 23) rfl (fun h23 => ?_) (fun h23 => ?_)
  ·
   refine oSkip rfl rfl rfl rfl (oLkSegG (oSegG rfl (oSkip rfl rfl rfl rfl (oAgainG ?_ rfl (fun w0 => ?_)))))
   ·
    exact AgainG.nil
   refine oSkip rfl rfl rfl rfl (oPickT rfl rfl (oMove rfl (oSkip rfl rfl rfl rfl (oSkip rfl rfl rfl rfl (oSkip rfl rfl rfl rfl (oPickT rfl rfl (oMove rfl (oSkip rfl rfl rfl rfl (oSkip rfl rfl rfl rfl (oSkip rfl rfl rfl rfl (oSkip rfl rfl rfl rfl ?_)))))))))))
   refine oSkip rfl rfl rfl rfl (oSkip rfl rfl rfl rfl (oPickT rfl rfl (oMove rfl (oSkip rfl rfl rfl rfl (oSkip rfl rfl rfl rfl (oSkip rfl rfl rfl rfl (oPickT rfl rfl (oMove rfl (oSkip rfl rfl rfl rfl (oSkip rfl rfl rfl rfl (oSkip rfl rfl rfl rfl ?_)))))))))))
   refine oSkip rfl rfl rfl rfl (oSkip rfl rfl rfl rfl (oSkip rfl rfl rfl rfl (oSkip rfl rfl rfl rfl (oSkip rfl rfl rfl rfl (oSkip rfl rfl rfl rfl (oSkip rfl rfl rfl rfl (oSkip rfl rfl rfl rfl (oPickT rfl rfl (oTailG (oNil (thn_n ?_)))))))))))
   first | refine wCondT rfl ?_ | refine wCondTd h58 rfl ?_ | refine wCondTb h58 rfl ?_
   refine wSeq (wRegion' ?_)
   (refine oCall rfl (by kernel_rfl) (fun w hS => frame hS (by repeat' constructor) (fun B' hB hS' => known26 hS')) ?_; rintro ⟨⟩ -)
   refine oAssign rfl (oNil (thn_n (wRet (thn_r (fin_r (fi1 rfl ?_))))))
   exact ⟨(), trivial, rfl, Lh⟩
  refine oWant rfl rfl (oLdA rfl (by repeat constructor) rfl (by repeat constructor) ?_)
  refine oLkSegG (oSegG rfl (oWant rfl rfl ?_))
  (refine oCall rfl (by kernel_rfl) (fun w hS => frame' hS .nil (fun B' hB hR hS' => ref25_Few hS' (bindP l mainS) _ (by have h := prog_K (z := ⟨Af, cf, ft, fr, Ad, cd, dt, dr⟩) hz (hR _ _ (by repeat constructor)) (hR _ _ (by repeat constructor)) (hR _ _ (by repeat constructor)) (hR _ _ (by repeat constructor)) hB (bindP l mainS).fEntry; rw [hzp] at h; exact h))) ?_; rintro r25 h25)
  refine oAgainG ?_ rfl (fun w0 => ?_)
  ·
   exact AgainG.nil
  refine oWant rfl rfl ?_
  first | refine oNot rfl ?_ | refine oNotB rfl ?_
  refine oPickF rfl rfl (oMove rfl ?_)
  first | refine oSplit (t := 28) rfl (fun h28 => ?_) (fun h28 => ?_) | refine oSplitB (t := 28) rfl (fun h28 => ?_) (fun h28 => ?_)
  ·
   refine oSkip rfl rfl rfl rfl (oSkip rfl rfl rfl rfl (oSkip rfl rfl rfl rfl (oPickT rfl rfl (oMove rfl (oSkip rfl rfl rfl rfl (oSkip rfl rfl rfl rfl (oSkip rfl rfl rfl rfl (oSkip rfl rfl rfl rfl (oSkip rfl rfl rfl rfl (oSkip rfl rfl rfl rfl (oPickT rfl rfl ?_)))))))))))
   refine oMove rfl (oSkip rfl rfl rfl rfl (oSkip rfl rfl rfl rfl (oSkip rfl rfl rfl rfl (oPickT rfl rfl (oMove rfl (oSkip rfl rfl rfl rfl (oSkip rfl rfl rfl rfl (oSkip rfl rfl rfl rfl (oSkip rfl rfl rfl rfl (oSkip rfl rfl rfl rfl (oSkip rfl rfl rfl rfl ?_)))))))))))
   refine oSkip rfl rfl rfl rfl (oSkip rfl rfl rfl rfl (oSkip rfl rfl rfl rfl (oSkip rfl rfl rfl rfl (oSkip rfl rfl rfl rfl (oPickT rfl rfl (oTailG (oNil (thn_n ?_))))))))
   first | refine wCondT rfl ?_ | refine wCondTd h58 rfl ?_ | refine wCondTb h58 rfl ?_
   refine wSeq (wRegion' ?_)
   (refine oCall rfl (by kernel_rfl) (fun w hS => frame hS (by repeat' constructor) (fun B' hB hS' => known26 hS')) ?_; rintro ⟨⟩ -)
   refine oAssign rfl (oNil (thn_n (wRet (thn_r (fin_r (fi1 rfl ?_))))))
   exact ⟨(), trivial, rfl, Lh⟩
  refine oWant rfl rfl (oIdxA (i := 0) (m := 0) rfl rfl rfl rfl (by decide) rfl ?_)
  refine oWant rfl rfl (oLd rfl (by repeat constructor) rfl rfl ?_)
  refine oWant rfl rfl (oLss rfl rfl (oPickF rfl rfl (oMove rfl ?_)))
  first | refine oSplit (t := 33) rfl (fun h33 => ?_) (fun h33 => ?_) | refine oSplitB (t := 33) rfl (fun h33 => ?_) (fun h33 => ?_)
  ·
   refine oSkip rfl rfl rfl rfl (oSkip rfl rfl rfl rfl (oSkip rfl rfl rfl rfl (oSkip rfl rfl rfl rfl (oSkip rfl rfl rfl rfl (oSkip rfl rfl rfl rfl (oPickT rfl rfl (oMove rfl (oSkip rfl rfl rfl rfl (oSkip rfl rfl rfl rfl (oSkip rfl rfl rfl rfl (oPickT rfl rfl ?_)))))))))))
   refine oMove rfl (oSkip rfl rfl rfl rfl (oSkip rfl rfl rfl rfl (oSkip rfl rfl rfl rfl (oSkip rfl rfl rfl rfl (oSkip rfl rfl rfl rfl (oSkip rfl rfl rfl rfl (oSkip rfl rfl rfl rfl (oSkip rfl rfl rfl rfl (oSkip rfl rfl rfl rfl (oSkip rfl rfl rfl rfl (oSkip rfl rfl rfl rfl ?_)))))))))))
   refine oPickT rfl rfl (oTailG (oNil (thn_n ?_)))
   first | refine wCondT rfl ?_ | refine wCondTd h58 rfl ?_ | refine wCondTb h58 rfl ?_
   refine wSeq (wRegion' ?_)
   (refine oCall rfl (by kernel_rfl) (fun w hS => frame hS (by repeat' constructor) (fun B' hB hS' => known26 hS')) ?_; rintro ⟨⟩ -)
   refine oAssign rfl (oNil (thn_n (wRet (thn_r (fin_r (fi1 rfl ?_))))))
   exact ⟨(), trivial, rfl, Lh⟩
  obtain ⟨i, rfl⟩ := Int.eq_ofNat_of_zero_le (show 0 ≤ x by first | omega | (simp at h33; omega))
  refine oWant rfl rfl (oIdxA (i := 0) (m := 0) rfl rfl rfl rfl (by decide) rfl ?_)
  refine oWant rfl rfl (oLd rfl (by repeat constructor) rfl rfl ?_)
  refine oWant rfl rfl (oFld (n := 0) (m := 0) rfl rfl rfl (oWant rfl rfl (oLd rfl (by repeat constructor) rfl rfl ?_)))
  refine oWant rfl rfl (oLenS rfl rfl (oWant rfl rfl (oGeq rfl rfl (oPickF rfl rfl (oMove rfl ?_)))))
  first | refine oSplit (t := 41) rfl (fun h41 => ?_) (fun h41 => ?_) | refine oSplitB (t := 41) rfl (fun h41 => ?_) (fun h41 => ?_)
  ·
   refine oSkip rfl rfl rfl rfl (oSkip rfl rfl rfl rfl (oSkip rfl rfl rfl rfl (oPickT rfl rfl (oMove rfl (oSkip rfl rfl rfl rfl (oSkip rfl rfl rfl rfl (oSkip rfl rfl rfl rfl (oSkip rfl rfl rfl rfl (oSkip rfl rfl rfl rfl (oSkip rfl rfl rfl rfl (oSkip rfl rfl rfl rfl ?_)))))))))))
   refine oSkip rfl rfl rfl rfl (oSkip rfl rfl rfl rfl (oSkip rfl rfl rfl rfl (oSkip rfl rfl rfl rfl (oPickT rfl rfl (oTailG (oNil (thn_n ?_)))))))
   first | refine wCondT rfl ?_ | refine wCondTd h58 rfl ?_ | refine wCondTb h58 rfl ?_
   refine wSeq (wRegion' ?_)
   (refine oCall rfl (by kernel_rfl) (fun w hS => frame hS (by repeat' constructor) (fun B' hB hS' => known26 hS')) ?_; rintro ⟨⟩ -)
   refine oAssign rfl (oNil (thn_n (wRet (thn_r (fin_r (fi1 rfl ?_))))))
   exact ⟨(), trivial, rfl, Lh⟩
  refine oWant rfl rfl (oIdxA (i := 1) (m := 1) rfl rfl rfl rfl (by decide) rfl ?_)
  refine oWant rfl rfl (oLd rfl (by repeat constructor) rfl rfl ?_)
  refine oWant rfl rfl (oLss rfl rfl (oPickF rfl rfl (oMove rfl ?_)))
  first | refine oSplit (t := 46) rfl (fun h46 => ?_) (fun h46 => ?_) | refine oSplitB (t := 46) rfl (fun h46 => ?_) (fun h46 => ?_)
  ·
   refine oSkip rfl rfl rfl rfl (oSkip rfl rfl rfl rfl (oSkip rfl rfl rfl rfl (oSkip rfl rfl rfl rfl (oSkip rfl rfl rfl rfl (oSkip rfl rfl rfl rfl (oSkip rfl rfl rfl rfl (oSkip rfl rfl rfl rfl (oSkip rfl rfl rfl rfl (oSkip rfl rfl rfl rfl (oSkip rfl rfl rfl rfl (oPickT rfl rfl ?_)))))))))))
   refine oTailG (oNil (thn_n ?_))
   first | refine wCondT rfl ?_ | refine wCondTd h58 rfl ?_ | refine wCondTb h58 rfl ?_
   refine wSeq (wRegion' ?_)
   (refine oCall rfl (by kernel_rfl) (fun w hS => frame hS (by repeat' constructor) (fun B' hB hS' => known26 hS')) ?_; rintro ⟨⟩ -)
   refine oAssign rfl (oNil (thn_n (wRet (thn_r (fin_r (fi1 rfl ?_))))))
   exact ⟨(), trivial, rfl, Lh⟩
  obtain ⟨j, rfl⟩ := Int.eq_ofNat_of_zero_le (show 0 ≤ y by first | omega | (simp at h46; omega))
  have hif : i < ft.length := by first | omega | (simp at h41; omega)
  refine oWant rfl rfl (oIdxA (i := 1) (m := 1) rfl rfl rfl rfl (by decide) rfl ?_)
  refine oWant rfl rfl (oLd rfl (by repeat constructor) rfl rfl ?_)
  refine oWant rfl rfl (oFld (n := 0) (m := 0) rfl rfl rfl (oWant rfl rfl (oLd rfl (by repeat constructor) rfl rfl ?_)))
  refine oWant rfl rfl (oIdxA (i := 0) (m := 0) rfl rfl rfl rfl (by decide) rfl ?_)
  refine oWant rfl rfl (oLd rfl (by repeat constructor) rfl rfl ?_)
  refine oWant rfl rfl (oIdxR rfl rfl (by repeat constructor) (by omega) rfl rfl (fun g53 hg53 => ?_))
  first | subst hg53 | (injection hg53 with hg53; injection hg53 with hg53; subst hg53)
  refine oWant rfl rfl ?_
  first | refine oFldX (n := 12) (m := 12) rfl rfl rfl ?_ | refine oFldR (n := 12) (m := 12) rfl rfl rfl ?_ | refine oFldD (n := 12) (m := 12) rfl rfl rfl ?_
  refine oWant rfl rfl (oLdR (kd := kFunT) rfl (by repeat constructor) (by omega) rfl rfl (fun u55 cs55 hu55 hk55 => ⟨_, kFunT_hdr hk55, ?_⟩))
  refine oWant rfl rfl (oLenS rfl rfl (oWant rfl rfl (oGeq rfl rfl (oPickF rfl rfl (oTailG (oNil (thn_n (wC (fun h58 => ?_) (fun h58 => ?_)))))))))
  ·
   refine wSeq (wRegion' ?_)
   (refine oCall rfl (by kernel_rfl) (fun w hS => frame hS (by repeat' constructor) (fun B' hB hS' => known26 hS')) ?_; rintro ⟨⟩ -)
   refine oAssign rfl (oNil (thn_n (wRet (thn_r (fin_r (fi1 rfl ?_))))))
   exact ⟨(), trivial, rfl, Lh⟩
  have hsp : SmallP (bindP l mainS) := h25 (by simp_all)
  have hfn := hsp.funs
  obtain ⟨v0, v1, v2, v3, B3, n3, c3⟩ := u55
  have hjn : j < n3 := by first | (simp at h58; exact h58) | (simp at h58; omega)
  obtain ⟨r, hr⟩ : ∃ r, fr[i]? = some r := ⟨_, List.getElem?_eq_getElem (by omega)⟩
  have hfi : (bindP l mainS).fFuns[i]? = some (mkF (v0, v1, v2, v3, B3, n3, c3) r) := by rw [← hPf]; unfold funsOf; rw [List.getElem?_zipWith, hu55, hr]
  have hcl : r.length = v3.fCode.length := bindP_len l mainS _ (List.mem_of_getElem? hfi)
  have hfs := hsp.fn _ (List.mem_of_getElem? hfi)
  have hcl80 : v3.fCode.length ≤ 80 := hfs.1
  have hhd : (ft.map hdT)[i]? = some (B3, n3, c3) := by rw [List.getElem?_map, hu55]; rfl
  refine wSkip (thn_n (wSeq (wRegion' (oLdA rfl (by repeat constructor) rfl (by repeat constructor) ?_))))
  refine oFocus (kd := Kd.int .i64) (W := B.e) (ei := 3) (hs := ft.map hdT) (xss := fr) (i := i) (u := (B3, n3, c3)) (xs := r) (by repeat constructor) hhd hr ?_
  refine oRoom (kd := Kd.int .i64) (W0 := B.e) (e := 3) (A := B3) (n := n3) (cp := c3) (xs := r) (by repeat constructor) (fun hrn hrc => ?_)
  refine oBack (kd := Kd.int .i64) (W := B.e) (ei := 3) (hs := ft.map hdT) (xss := fr) (i := i) (u := (B3, n3, c3)) (xs := r) (by repeat constructor) (by repeat constructor) (by rw [List.length_map]; exact hif) (by rw [List.length_map]; exact hz1) ?_
  rw [set_same hhd, set_same hr]
  obtain ⟨x0, hx0⟩ : ∃ x, v3.fCode[j]? = some x := ⟨_, List.getElem?_eq_getElem (by omega)⟩
  (refine oCall rfl (by kernel_rfl) (fun w hS => frame' hS .nil (fun B' hB hR hS' => prog_Live hS' (bindP l mainS) _ (by have h := prog_K (z := ⟨some ⟨g53, 0, none⟩, cf, ft, fr, Ad, cd, dt, dr⟩) hz (hR _ _ (by repeat constructor)) (hR _ _ (by repeat constructor)) (hR _ _ (by repeat constructor)) (hR _ _ (by repeat constructor)) hB (bindP l mainS).fEntry; rw [hzp] at h; exact h) hsp B.e)) ?_; rintro ⟨A61, c61⟩ -)
  refine oAssign rfl (oNil (thn_n (wSeq (wRegion' (oAssign rfl (oNil (thn_n (wSeq (wRegion' (oMove rfl (oFld (n := 0) (m := 0) rfl rfl rfl ?_)))))))))))
  refine oLd rfl (by repeat constructor) rfl rfl ?_
  refine oIdxA (i := 0) (m := 0) rfl rfl rfl rfl (by decide) rfl ?_
  refine oLd rfl (by repeat constructor) rfl rfl ?_
  refine oIdxR rfl rfl (by repeat constructor) (by omega) rfl rfl (fun g67 hg67 => ?_)
  first | subst hg67 | (injection hg67 with hg67; injection hg67 with hg67; subst hg67)
  first | refine oFldX (n := 3) (m := 3) rfl rfl rfl ?_ | refine oFldR (n := 3) (m := 3) rfl rfl rfl ?_ | refine oFldD (n := 3) (m := 3) rfl rfl rfl ?_
  first | refine oFldX (n := 7) (m := 10) rfl rfl rfl ?_ | refine oFldR (n := 7) (m := 10) rfl rfl rfl ?_ | refine oFldD (n := 7) (m := 10) rfl rfl rfl ?_
  refine oLdR (kd := kFunT) rfl (by repeat constructor) (by omega) rfl rfl (fun u70 cs70 hu70 hk70 => ?_)
  obtain rfl : u70 = (v0, v1, v2, v3, B3, n3, c3) := Option.some.inj (hu70.symm.trans hu55)
  obtain ⟨D2, d2, hc70, hC70⟩ := kFunT_code hk70
  refine ⟨_, hc70, ?_⟩
  refine oConv (Leads.nilrow (kd := kApiInstr) (W := B.e) (e := 51)) ?_
  refine oAppA (kd := kApiInstr) (W := B.e) (xs := []) (ys := v3.fCode) rfl rfl rfl rfl (by repeat constructor) rfl (fun w hw => src_C hC70 (Base.grow hw.ok)) (by simp only [List.length_nil]; omega) rfl (fun A71 c71 hc71 => ?_)
  rw [List.nil_append v3.fCode, show ([] : List ApiInstr).length + v3.fCode.length = v3.fCode.length by simp]
  refine oAssign rfl (oNil (thn_n (wSeq (wRegion' (oMove rfl (oIdxA (i := 1) (m := 1) rfl rfl rfl rfl (by decide) rfl ?_))))))
  refine oLd rfl (by repeat constructor) rfl rfl ?_
  refine oBuild (Parts.cons rfl Parts.nil) rfl rfl (Built.cons (off := 0) (s := 1) rfl (by repeat constructor) rfl (by repeat constructor) Built.nil) ?_
  refine oIdxR rfl rfl (by repeat constructor) (by omega) rfl rfl (fun g76 hg76 => ?_)
  first | subst hg76 | (injection hg76 with hg76; injection hg76 with hg76; subst hg76)
  refine oStP (kd := kApiInstr) (s := 5) nopI [.int .i64 1, .int .i64 0, .int .i64 0, .int .i64 0, .int .i64 0] x0 rfl rfl rfl rfl rfl rfl (by repeat constructor) hx0 (by decide) (fun a ha => by obtain rfl := kApiInstr_open ha; exact kApiInstr_mk _ nopI) ?_
  refine oNil (thn_n (wFreeze [row kApiInstr B.e 51 (.slice (some ⟨g76, 0, none⟩) v3.fCode.length c71) (v3.fCode.set j nopI)] (by repeat' constructor) (fun B1 hB1 hq1 => ?_)))
  have hrc := row_C (kd := kApiInstr) (W := B.e) (e := 51) (A := some ⟨g76, 0, none⟩) (n := v3.fCode.length) (cp := c71) (xs := v3.fCode.set j nopI) (hq1 _ _ (by repeat constructor)) hB1
  have hft : (ft.set i (nopT (v0, v1, v2, v3, B3, n3, c3) j)).map hdT = ft.map hdT := by rw [List.map_set]; exact set_same hhd
  have hn1 : (ft.set i (nopT (v0, v1, v2, v3, B3, n3, c3) j))[i]? = some (nopT (v0, v1, v2, v3, B3, n3, c3) j) := by rw [List.getElem?_set_self hif]
  refine wSeq (wRegion' (oFld (n := 0) (m := 0) rfl rfl rfl (oLd rfl (by repeat constructor) rfl rfl ?_)))
  refine oIdxA (i := 0) (m := 0) rfl rfl rfl rfl (by decide) rfl ?_
  refine oLd rfl (by repeat constructor) rfl rfl ?_
  refine oMove rfl (oIdxR rfl rfl (by repeat constructor) (by omega) rfl rfl (fun g82 hg82 => ?_))
  first | subst hg82 | (injection hg82 with hg82; injection hg82 with hg82; subst hg82)
  first | refine oFldX (n := 3) (m := 3) rfl rfl rfl ?_ | refine oFldR (n := 3) (m := 3) rfl rfl rfl ?_ | refine oFldD (n := 3) (m := 3) rfl rfl rfl ?_
  first | refine oFldX (n := 7) (m := 10) rfl rfl rfl ?_ | refine oFldR (n := 7) (m := 10) rfl rfl rfl ?_ | refine oFldD (n := 7) (m := 10) rfl rfl rfl ?_
  refine oConv (row_up (kd := kFunT) (W := B.e) (W' := B1.e) hB1 (by repeat constructor)) ?_
  refine oConv (row_up (kd := kDatT) (W := B.e) (W' := B1.e) hB1 (by repeat constructor)) ?_
  refine oStP (kd := kFunT) (s := 13) (nopT (v0, v1, v2, v3, B3, n3, c3) j) [.slice (some ⟨g76, 0, none⟩) v3.fCode.length c71] (v0, v1, v2, v3, B3, n3, c3) rfl rfl rfl rfl rfl rfl (by repeat constructor) hu55 (Nat.le_of_ble_eq_true rfl) (kFunT_nop rfl hrc.2.1 hrc.2.2.1) ?_
  refine oFocus (kd := Kd.int .i64) (W := B.e) (ei := 3) (hs := ft.map hdT) (xss := fr) (i := i) (u := (B3, n3, c3)) (xs := r) (by repeat constructor) hhd hr ?_
  refine oRoom (kd := Kd.int .i64) (W0 := B.e) (e := 3) (A := B3) (n := n3) (cp := c3) (xs := r) (by repeat constructor) (fun hrn2 hrc2 => ?_)
  refine oNil (thn_n (wSeq (wDraw2 rfl rfl [] [0, 1, 2, 3, 4, 5, 6, 7, 8, 9] 10 (by kernel_rfl) rfl rfl rfl (fun w0 => ?_))))
  refine oFld (n := 0) (m := 0) rfl rfl rfl (oLd rfl (by repeat constructor) rfl rfl ?_)
  refine oIdxA (i := 0) (m := 0) rfl rfl rfl rfl (by decide) rfl ?_
  refine oLd rfl (by repeat constructor) rfl rfl ?_
  refine oIdxR rfl rfl (by repeat constructor) (by omega) rfl rfl (fun g89 hg89 => ?_)
  first | subst hg89 | (injection hg89 with hg89; injection hg89 with hg89; subst hg89)
  first | refine oFldX (n := 12) (m := 12) rfl rfl rfl ?_ | refine oFldR (n := 12) (m := 12) rfl rfl rfl ?_ | refine oFldD (n := 12) (m := 12) rfl rfl rfl ?_
  refine oLdR (kd := kFunT) rfl (by repeat constructor) (by rw [List.length_set]; omega) rfl rfl (fun u91 cs91 hu91 hk91 => ⟨_, kFunT_hdr hk91, ?_⟩)
  obtain rfl : u91 = nopT (v0, v1, v2, v3, B3, n3, c3) j := Option.some.inj (hu91.symm.trans hn1)
  refine oIdxA (i := 1) (m := 1) rfl rfl rfl rfl (by decide) rfl ?_
  refine oLd rfl (by repeat constructor) rfl rfl ?_
  refine oIdxR rfl rfl (by repeat constructor) (show j < n3 from hjn) rfl rfl (fun g94 hg94 => ?_)
  first | subst hg94 | (injection hg94 with hg94; injection hg94 with hg94; subst hg94)
  refine oHead (oStR (enc := Value.int .i64) (-1) rfl rfl rfl rfl (by repeat constructor) (by omega) ?_)
  refine oBack (kd := Kd.int .i64) (W := B.e) (ei := 3) (hs := ft.map hdT) (xss := fr) (i := i) (u := (some ⟨g94, 0, none⟩, n3, c3)) (xs := r.set j (-1)) (by repeat constructor) (by repeat constructor) (by rw [List.length_map]; exact hif) (by rw [List.length_map]; exact hz1) ?_
  rw [set_same hhd]
  refine oNilT (thn_n (wSeq (wRegion' (oLdA rfl (by repeat constructor) rfl (by repeat constructor) ?_))))
  (refine oCall rfl (by kernel_rfl) (fun w hS => frame' hS .nil (fun B' hB hR hS' => prog_Live hS' (nopP (bindP l mainS) i (mkF (v0, v1, v2, v3, some ⟨g94, 0, none⟩, n3, c3) r) j) _ (by have h := prog_K (z := ⟨some ⟨g53, 0, none⟩, cf, ft.set i (nopT (v0, v1, v2, v3, some ⟨g94, 0, none⟩, n3, c3) j), fr.set i (r.set j (-1)), Ad, cd, dt, dr⟩) ⟨by rw [List.length_set, List.length_set]; exact hz1, hz3⟩ (by dsimp only; rw [List.length_set]; exact hR _ _ (by repeat constructor)) (by dsimp only; rw [hft]; exact hR _ _ (by repeat constructor)) (hR _ _ (by repeat constructor)) (hR _ _ (by repeat constructor)) hB (bindP l mainS).fEntry; rw [PZ.prog, funsOf, datsOf, zip_set] at h; dsimp only [PZ.cells] at h; rw [List.length_set] at h; rw [show List.zipWith mkF ft fr = (bindP l mainS).fFuns from hPf, show List.zipWith mkD dt dr = (bindP l mainS).fDats from hPd] at h; exact h) (nop_small hsp hfi j) B.e)) ?_; rintro ⟨A96, c96⟩ -)
  rw [nopP_len]
  refine oAssign rfl (oNil (thn_n (wSeq (wSeq (wRegion' (oMove rfl (oLenS rfl rfl (oFld (n := 0) (m := 0) rfl rfl rfl (oLd rfl (by repeat constructor) rfl rfl ?_)))))))))
  refine oLenS rfl rfl (oNeq rfl rfl (oSet (t := 102) (v' := .bool false) rfl (by simp [hfl]) ?_))
  refine oMove rfl (oWant rfl rfl (oMove rfl (oWant rfl rfl (oLenS rfl rfl (oWant rfl rfl (oFld (n := 0) (m := 0) rfl rfl rfl (oWant rfl rfl (oLd rfl (by repeat constructor) rfl rfl ?_))))))))
  refine oWant rfl rfl (oLenS rfl rfl (oWant rfl rfl (oNeq rfl rfl (oSet (t := 109) (v' := .bool false) rfl (by simp [hfl]) ?_))))
  refine oPickF rfl rfl (oNil (thn_n ?_))
  first | refine wCondF rfl ?_ | refine wCondFd h110 rfl ?_ | refine wCondFb h110 rfl ?_
  refine wSkip (thn_n (wSeq (wSeq (wRegion' (oAssign rfl (oNil (thn_n (wBlock (wLoop (ι := Nat × Option Addr × Option Addr) (fun z => [(7, .slice z.2.1 (bindP l mainS).fFuns.length c61), (9, .slice z.2.2 (bindP l mainS).fFuns.length c96), (10, .int .i64 (z.1 : Int))]) (fun z => [row Kd.bool B.e 4 (.slice z.2.1 (bindP l mainS).fFuns.length c61) (liveL (bindP l mainS)), row Kd.bool B.e 4 (.slice z.2.2 (bindP l mainS).fFuns.length c96) (liveL (nopP (bindP l mainS) i (mkF (v0, v1, v2, v3, some ⟨g94, 0, none⟩, n3, c3) r) j))]) (fun z => z.1 ≤ (bindP l mainS).fFuns.length) (fun z => (bindP l mainS).fFuns.length - z.1) (0, A61, A96) ?_ cv Lh ?_)))))))))
  ·
   exact Nat.zero_le _
  rintro ⟨k, A7, A9⟩ hk
  dsimp only at hk
  have hll := liveL_len (bindP l mainS)
  have hln := liveL_len (nopP (bindP l mainS) i (mkF (v0, v1, v2, v3, some ⟨g94, 0, none⟩, n3, c3) r) j)
  rw [nopP_len] at hln
  try dsimp only
  refine wSeq (wSeq (wRegion' (oMove rfl (oMove rfl (oLenS rfl rfl (oLss rfl rfl (oNil (thn_n (wC (fun h114 => ?_) (fun h114 => ?_))))))))))
  ·
   refine wSkip (thn_n (wSeq (wBlock (wSeq (wRegion' (oMove rfl (oMove rfl (oIdxR rfl rfl (by repeat constructor) (by omega) rfl rfl (fun g119 hg119 => ?_)))))))))
   first | subst hg119 | (injection hg119 with hg119; injection hg119 with hg119; subst hg119)
   first | refine oLdX rfl hc119 rfl rfl ?_ | refine oLdXA rfl hc119 rfl (by repeat constructor) ?_ | (refine oLdR1 rfl (by repeat constructor) (by omega) rfl (fun u120 hu120 => ?_))
   refine oMove rfl ?_
   first | refine oSplit (t := 121) rfl (fun h121 => ?_) (fun h121 => ?_) | refine oSplitB (t := 121) rfl (fun h121 => ?_) (fun h121 => ?_)
   ·
    refine oWant rfl rfl (oMove rfl (oWant rfl rfl (oMove rfl (oWant rfl rfl (oIdxR rfl rfl (by repeat constructor) (by omega) rfl rfl (fun g124 hg124 => ?_))))))
    first | subst hg124 | (injection hg124 with hg124; injection hg124 with hg124; subst hg124)
    refine oWant rfl rfl ?_
    first | refine oLdX rfl hc124 rfl rfl ?_ | refine oLdXA rfl hc124 rfl (by repeat constructor) ?_ | (refine oLdR1 rfl (by repeat constructor) (by omega) rfl (fun u125 hu125 => ?_))
    have hu := live_nop hfi (show (liveL (nopP (bindP l mainS) i (mkF (v0, v1, v2, v3, some ⟨g94, 0, none⟩, n3, c3) r) j))[k]? = some true by rw [hu120, h121])
    refine oSet (t := 125) (v' := .bool true) rfl (by rw [Option.some.inj (hu125.symm.trans hu)]) ?_
    refine oWant rfl rfl (oNotT rfl (oPickT rfl rfl (oNil (thn_n ?_))))
    first | refine wCondF rfl ?_ | refine wCondFd h127 rfl ?_ | refine wCondFb h127 rfl ?_
    refine wSkip (blk_n (thn_n (wRegion' (oMove rfl (oSucc rfl rfl (by omega) ?_)))))
    refine oAssign rfl (oNil (thn_n ?_))
    exact ⟨rfl, (k + 1, _, _), by show k + 1 ≤ _; omega, by show (bindP l mainS).fFuns.length - (k + 1) < (bindP l mainS).fFuns.length - k; omega, cv, Lh⟩
   refine oSkip rfl rfl rfl rfl (oSkip rfl rfl rfl rfl (oSkip rfl rfl rfl rfl (oSkip rfl rfl rfl rfl (oSkip rfl rfl rfl rfl (oPickF rfl rfl (oNil (thn_n ?_)))))))
   first | refine wCondF rfl ?_ | refine wCondFd h127 rfl ?_ | refine wCondFb h127 rfl ?_
   refine wSkip (blk_n (thn_n (wRegion' (oMove rfl (oSucc rfl rfl (by omega) ?_)))))
   refine oAssign rfl (oNil (thn_n ?_))
   exact ⟨rfl, (k + 1, _, _), by show k + 1 ≤ _; omega, by show (bindP l mainS).fFuns.length - (k + 1) < (bindP l mainS).fFuns.length - k; omega, cv, Lh⟩
  refine wExit (thn_x (thn_x (blk_x (thn_n (wSeq (wRegion' ?_))))))
  (refine oCall rfl (by kernel_rfl) (fun w hS => frame hS (by repeat' constructor) (fun B' hB hS' => known26 hS')) ?_; rintro ⟨⟩ -)
  refine oAssign rfl (oNil (thn_n (wRet (fin_r (fi1 rfl ?_)))))
  exact ⟨(), trivial, rfl, Lh⟩
end Go.Proofs.YtogaiijhicfoaaaGreatU
