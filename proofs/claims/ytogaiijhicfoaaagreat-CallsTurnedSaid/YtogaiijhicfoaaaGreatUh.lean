import Derived.Test.YtogaiijhicfoaaaGreatUg

/-
  The statement that the order of instructions turns nothing.
-/
namespace Go.Proofs.YtogaiijhicfoaaaGreatU
set_option linter.unusedVariables false
set_option linter.unusedSimpArgs false
open Go.RowKit Go.Proofs.YtogaiijhicfoaaaGreatK Go.Proofs.YtogaiijhicfoaaaGreatT Go.Proofs.YtogaiijhicfoaaaGreatL Go.Proofs.YtogaiijhicfoaaaGreatV Go.Proofs.YtogaiijhicfoaaaGreatG Go.Proofs.YtogaiijhicfoaaaGreatW

abbrev FunQ := ApiFun × Hdr × Hdr
abbrev qC (t : FunQ) : Hdr := t.2.1
abbrev qR (t : FunQ) : Hdr := t.2.2
def kFunQ : Kd FunQ := Kd.iso (Kd.pair (Kd.int .i64) (Kd.pair (Kd.int .i64) (Kd.pair Kd.string (Kd.pair (Kd.pair (Kd.int .i64) (Kd.pair (Kd.slice (Kd.int .i64)) (Kd.pair (Kd.int .i64) (Kd.pair Kd.bool (Kd.pair (Kd.int .i64) (Kd.pair (Kd.int .i64) (Kd.pair (Kd.slice kApiLine) (Kd.pair kHdr (Kd.slice kApiReloc))))))))) kHdr)))) (fun x => (x.1.fFile, x.1.fItem, x.1.fName, (x.1.fF.fClass, x.1.fF.fKinds, x.1.fF.fPad, x.1.fF.fNosplit, x.1.fF.fFrom, x.1.fF.fTo, x.1.fF.fLines, x.2.1, x.1.fF.fRelocs), x.2.2))
theorem kFunQ_mk (w : World) (f : ApiFun) (hc hr : Hdr) {D0 D1 D3 : Option Addr} {d0 d1 d3 : Nat} (m0 : f.fF.fKinds.length ≤ d0) (q0 : (Kd.int .i64).C w D0 f.fF.fKinds) (m1 : f.fF.fLines.length ≤ d1) (q1 : kApiLine.C w D1 f.fF.fLines) (m3 : f.fF.fRelocs.length ≤ d3) (q3 : kApiReloc.C w D3 f.fF.fRelocs) :
    kFunQ.K w (f, hc, hr) [.int .i64 f.fFile, .int .i64 f.fItem, .string f.fName, .int .i64 f.fF.fClass, .slice D0 f.fF.fKinds.length d0, .int .i64 f.fF.fPad, .bool f.fF.fNosplit, .int .i64 f.fF.fFrom, .int .i64 f.fF.fTo, .slice D1 f.fF.fLines.length d1, hV hc, .slice D3 f.fF.fRelocs.length d3, hV hr] :=
  ⟨_, _, rfl, rfl, _, _, rfl, rfl, _, _, rfl, rfl, [.int .i64 f.fF.fClass, .slice D0 f.fF.fKinds.length d0, .int .i64 f.fF.fPad, .bool f.fF.fNosplit, .int .i64 f.fF.fFrom, .int .i64 f.fF.fTo, .slice D1 f.fF.fLines.length d1, hV hc, .slice D3 f.fF.fRelocs.length d3], _, rfl, ⟨_, _, rfl, rfl, _, _, rfl, ⟨D0, d0, rfl, m0, q0⟩, _, _, rfl, rfl, _, _, rfl, rfl, _, _, rfl, rfl, _, _, rfl, rfl, _, _, rfl, ⟨D1, d1, rfl, m1, q1⟩, _, _, rfl, rfl, ⟨D3, d3, rfl, m3, q3⟩⟩, rfl⟩
def codeT (f : ApiFun) : List ApiInstr := f.fF.fCode.reverse
def refsT (f : ApiFun) : List Int := (f.fRefs.take f.fF.fCode.length).reverse
def turnF (f : ApiFun) : ApiFun := ⟨f.fFile, f.fItem, f.fName, ⟨f.fF.fClass, f.fF.fKinds, f.fF.fPad, f.fF.fNosplit, f.fF.fFrom, f.fF.fTo, f.fF.fLines, codeT f, f.fF.fRelocs⟩, refsT f⟩
def turnP (p : ApiProgram) : ApiProgram := ⟨p.fFuns.map turnF, p.fDats, p.fEntry⟩
theorem turnP_len (p : ApiProgram) : (turnP p).fFuns.length = p.fFuns.length := by unfold turnP; simp
theorem gridQ_C {W0 W1 W2 w : World} {eo ec ei : TypeId} {A : Option Addr} {n cp : Nat} {ts : List FunQ} {fs : List ApiFun} (hts : ts.map (·.1) = fs) (h1 : (row kFunQ W0 eo (.slice A n cp) ts).q w) (g0 : Grow W0 w) (h2 : (bun (rws kApiInstr W1 ec (ts.map qC) (fs.map codeT))).q w) (g1 : Grow W1 w) (h3 : (bun (rws (Kd.int .i64) W2 ei (ts.map qR) (fs.map refsT))).q w) : n = fs.length ∧ n ≤ cp ∧ kApiFun.C w A (fs.map turnF) := by
  obtain ⟨e1, e2, ⟨hbig, hC⟩, _⟩ := row_C h1 g0
  have hl : ts.length = fs.length := by rw [← hts, List.length_map]
  refine ⟨by omega, e2, by rw [List.length_map]; omega, fun h0 => ?_⟩
  rw [List.length_map] at h0
  obtain ⟨ad, rfl, hc⟩ := hC (by omega)
  refine ⟨ad, rfl, fun j x hj => ?_⟩
  rw [List.getElem?_map] at hj
  obtain ⟨f, hf, rfl⟩ := Option.map_eq_some_iff.1 hj
  have ht0 := hf
  rw [← hts, List.getElem?_map] at ht0
  obtain ⟨t, ht, rfl⟩ := Option.map_eq_some_iff.1 ht0
  obtain ⟨c, hK, hcell⟩ := hc j t ht
  have hq2 := h2.1 _ (List.mem_of_getElem? (rws_at (kd := kApiInstr) (W := W1) (ei := ec) (hs := ts.map qC) (u := qC t) (by rw [List.getElem?_map, ht]; rfl) (xss := fs.map codeT) (xs := codeT t.1) (by rw [List.getElem?_map, hf]; rfl)))
  obtain ⟨f1, f2, f3, _⟩ := row_C hq2 g1
  have hq3 := h3.1 _ (List.mem_of_getElem? (rws_at (kd := Kd.int .i64) (W := W2) (ei := ei) (hs := ts.map qR) (u := qR t) (by rw [List.getElem?_map, ht]; rfl) (xss := fs.map refsT) (xs := refsT t.1) (by rw [List.getElem?_map, hf]; rfl)))
  have k3 : (Kd.int .i64).C w (qR t).1 (refsT t.1) := row_Cs hq3
  obtain ⟨k1, k2, _⟩ := row_C (kd := Kd.int .i64) (W := w) (e := ei) (A := (qR t).1) (n := (qR t).2.1) (cp := (qR t).2.2) (xs := refsT t.1) (by obtain ⟨cs, ho, hr⟩ := hq3; exact ⟨cs, ho, cat_scalar.2 (cat_scalar.1 hr)⟩) (Grow.refl _)
  refine ⟨c, ?_, hcell⟩
  obtain ⟨c1, d1, rfl, a1, c2, d2, rfl, a2, c3, d3, rfl, a3, c4, d4, rfl, ⟨b1, r1, rfl, x1, b2, r2, rfl, x2, b3, r3, rfl, x3, b4, r4, rfl, x4, b5, r5, rfl, x5, b6, r6, rfl, x6, b7, r7, rfl, x7, b8, b9, rfl, x8, x9⟩, a5⟩ := hK
  rw [show b8 = [hV (qC t)] from x8, show hV (qC t) = .slice (qC t).1 (codeT t.1).length (qC t).2.2 by rw [← f1], show d4 = [hV (qR t)] from a5, show hV (qR t) = .slice (qR t).1 (refsT t.1).length (qR t).2.2 by rw [← k1]]
  exact ⟨c1, _, rfl, a1, c2, _, rfl, a2, c3, _, rfl, a3, _, _, rfl, ⟨b1, _, rfl, x1, b2, _, rfl, x2, b3, _, rfl, x3, b4, _, rfl, x4, b5, _, rfl, x5, b6, _, rfl, x6, b7, _, rfl, x7, _, _, rfl, ⟨_, _, rfl, by show (codeT t.1).length ≤ _; omega, f3⟩, x9⟩, ⟨_, _, rfl, by show (refsT t.1).length ≤ _; omega, k3⟩⟩
theorem turned_K {W0 W2 w : World} {eo ec ei : TypeId} {A Ad : Option Addr} {n cp cd : Nat} {ts : List FunQ} {p : ApiProgram} (h1 : (row kFunQ W0 eo (.slice A n cp) ts).q w) (h2 : (bun (rws kApiInstr W0 ec (ts.map qC) (p.fFuns.map codeT))).q w) (h3 : (bun (rws (Kd.int .i64) W2 ei (ts.map qR) (p.fFuns.map refsT))).q w) (g0 : Grow W0 w) (hts : ts.map (·.1) = p.fFuns) (hD : kApiDat.C w Ad p.fDats) (hdc : p.fDats.length ≤ cd) : kApiProgram.K w (turnP p) [.slice A n cp, .slice Ad p.fDats.length cd, .int .i64 p.fEntry] := by
  obtain ⟨e1, e2, hC⟩ := gridQ_C hts h1 g0 h2 g0 h3
  rw [e1, ← turnP_len p]
  exact kApiProgram_mk w (turnP p) (by rw [turnP_len]; omega) hC hdc hD
theorem ris_congr {l l' : List Int} (h : ∀ x, x ∈ l ↔ x ∈ l') (m : Nat) : ris l m = ris l' m := by
  unfold ris
  congr 1
  refine List.filter_congr (fun i _ => ?_)
  exact decide_eq_decide.2 (h i)
theorem mem_refsC {f : ApiFun} {needs : List Int} {r : Int} : r ∈ refsC f needs ↔ ∃ (i : Nat) (x : ApiInstr), f.fF.fCode[i]? = some x ∧ f.fRefs[i]? = some r ∧ needF x.fOp ∈ needs := by
  unfold refsC selP
  constructor
  · intro h
    obtain ⟨⟨x, r'⟩, hm, rfl⟩ := List.mem_map.1 h
    obtain ⟨hz, hp⟩ := List.mem_filter.1 hm
    obtain ⟨i, hi⟩ := List.mem_iff_getElem?.1 hz
    rw [List.getElem?_zip_eq_some] at hi
    exact ⟨i, x, hi.1, hi.2, of_decide_eq_true hp⟩
  · rintro ⟨i, x, hx, hr, hp⟩
    refine List.mem_map.2 ⟨(x, r), List.mem_filter.2 ⟨List.mem_of_getElem? (i := i) ?_, decide_eq_true hp⟩, rfl⟩
    rw [List.getElem?_zip_eq_some]; exact ⟨hx, hr⟩
theorem turn_mem {f : ApiFun} (h : f.fRefs.length = f.fF.fCode.length) {needs : List Int} {r : Int} : r ∈ refsC (turnF f) needs ↔ r ∈ refsC f needs := by
  have hr : refsT f = f.fRefs.reverse := by unfold refsT; rw [← h, List.take_length]
  rw [mem_refsC, mem_refsC]
  show (∃ (i : Nat) (x : ApiInstr), (codeT f)[i]? = some x ∧ (refsT f)[i]? = some r ∧ _) ↔ _
  rw [hr]
  unfold codeT
  constructor
  · rintro ⟨i, x, h1, h2, h3⟩
    have hi : i < f.fF.fCode.length := by have := (List.getElem?_eq_some_iff.1 h1).1; rwa [List.length_reverse] at this
    rw [List.getElem?_reverse hi] at h1
    rw [List.getElem?_reverse (by omega), h] at h2
    exact ⟨_, x, h1, h2, h3⟩
  · rintro ⟨i, x, h1, h2, h3⟩
    have hi := (List.getElem?_eq_some_iff.1 h1).1
    refine ⟨f.fF.fCode.length - 1 - i, x, ?_, ?_, h3⟩
    · rw [List.getElem?_reverse (by omega), show f.fF.fCode.length - 1 - (f.fF.fCode.length - 1 - i) = i by omega]; exact h1
    · rw [List.getElem?_reverse (by omega), h, show f.fF.fCode.length - 1 - (f.fF.fCode.length - 1 - i) = i by omega]; exact h2
theorem turn_map {p : ApiProgram} (hlen : ∀ f ∈ p.fFuns, f.fRefs.length = f.fF.fCode.length) {F G : ApiFun → List Int} (h : ∀ f, f.fRefs.length = f.fF.fCode.length → G (turnF f) = F f) : (turnP p).fFuns.map G = p.fFuns.map F := by
  unfold turnP
  rw [List.map_map]
  exact List.map_congr_left (fun f hf => h f (hlen f hf))
theorem turn_direct (p : ApiProgram) (f : ApiFun) (h : f.fRefs.length = f.fF.fCode.length) : directF (turnP p) (turnF f) = directF p f := by
  unfold directF
  rw [turnP_len]
  exact ris_congr (fun x => turn_mem h) _
theorem turn_values (p : ApiProgram) (f : ApiFun) (h : f.fRefs.length = f.fF.fCode.length) : valuesF (turnP p) (turnF f) = valuesF p f := by
  unfold valuesF
  rw [turnP_len]
  refine ris_congr (fun x => ?_) _
  have ht : tablesF (turnP p) (turnF f) = tablesF p f := ris_congr (fun x => turn_mem h) _
  unfold takenF
  rw [List.mem_append, List.mem_append, ht, turn_mem h]; rfl
theorem turn_refers {p : ApiProgram} (hlen : ∀ f ∈ p.fFuns, f.fRefs.length = f.fF.fCode.length) : (turnP p).fFuns.map (refersF (turnP p)) = p.fFuns.map (refersF p) :=
  turn_map hlen (fun f h => by unfold refersF; rw [turn_direct p f h, turn_values p f h, turnP_len])
theorem turn_datas {p : ApiProgram} (hlen : ∀ f ∈ p.fFuns, f.fRefs.length = f.fF.fCode.length) : (turnP p).fFuns.map (datasF (turnP p)) = p.fFuns.map (datasF p) :=
  turn_map hlen (fun f h => ris_congr (fun x => turn_mem h) _)
theorem turn_vias {p : ApiProgram} (hlen : ∀ f ∈ p.fFuns, f.fRefs.length = f.fF.fCode.length) : (turnP p).fFuns.map viasF = p.fFuns.map viasF :=
  turn_map hlen (fun f h => by
    refine ris_congr (fun x => ?_) _
    show x ∈ ((codeT f).filter viaP).map _ ↔ _
    unfold codeT
    rw [List.filter_reverse, List.map_reverse, List.mem_reverse])
theorem turn_small {p : ApiProgram} (h : SmallP p) : SmallP (turnP p) := by
  refine ⟨by rw [turnP_len]; exact h.funs, h.dats, fun f hf => ?_, h.dt⟩
  obtain ⟨g, hg, rfl⟩ := List.mem_map.1 hf
  obtain ⟨h1, h2, h3, h4, h5⟩ := h.fn g hg
  refine ⟨?_, ?_, h3, h4, h5⟩
  · show (codeT g).length ≤ 80
    unfold codeT; rw [List.length_reverse]; exact h1
  · show (refsT g).length ≤ 80
    unfold refsT; rw [List.length_reverse, List.length_take]; omega
theorem funsTo_mem {l : List ApiObject} {n : Nat} {f : ApiFun} (h : f ∈ funsTo l n) : ∃ i k : Nat, i < n ∧ k < (objAt l i).fFuncs.length ∧ f = mkFun l i k := by
  unfold funsTo at h
  obtain ⟨x, hx, hf⟩ := List.mem_flatten.1 h
  obtain ⟨i, hi, rfl⟩ := List.mem_map.1 hx
  obtain ⟨k, hk, rfl⟩ := List.mem_map.1 hf
  exact ⟨i, k, List.mem_range.1 hi, List.mem_range.1 hk, rfl⟩
theorem bindP_len (l : List ApiObject) (s : ByteArray) : ∀ f ∈ (bindP l s).fFuns, f.fRefs.length = f.fF.fCode.length := by
  intro f hf
  unfold bindP at hf
  split at hf
  · obtain ⟨i, k, _, _, rfl⟩ := funsTo_mem hf
    show (boundL l i (symsF (funAt l i k))).length = (funAt l i k).fCode.length
    rw [boundL_len, symsF_len]
  · cases hf
theorem rev_drop {α : Type} {l : List α} {k : Nat} {x : α} (h : l[k]? = some x) : (l.drop k).reverse = (l.drop (k + 1)).reverse ++ [x] := by
  obtain ⟨hk, rfl⟩ := List.getElem?_eq_some_iff.1 h
  rw [List.drop_eq_getElem_cons hk, List.reverse_cons]
theorem ref10_Same2 {B : Base} {w : World} (hS : St B [] w) (g : List (List Int)) (n m : Nat) (hn : g.length = n) (hm : g.length = m) (A : Option Addr) (cp : Nat) (hC : (Kd.slice (Kd.int .i64)).C B.e A g) (A1 : Option Addr) (cp1 : Nat) (hC1 : (Kd.slice (Kd.int .i64)).C B.e A1 g) :
    CallsIn Fence.wide 0 Tryz.prog 20 #[.slice A n cp, .slice A1 m cp1] w (Ret B (fun _ : Unit => True) (fun _ => .bool true) (fun _ => [])) := by
  subst hn; subst hm
  exact ref10_Same hS g A cp hC A1 cp1 hC1
set_option maxRecDepth 100000 in
set_option maxHeartbeats 4000000 in
theorem callsTurned {B : Base} {w : World} (hS : St B [] w) (A : Option Addr) (cp : Nat) (l : List ApiObject) (hC : kApiObject.C B.e A l) (hv : ∀ o ∈ l, vApiObject o) :
    CallsIn Fence.wide 0 Tryz.prog 4 #[.slice A l.length cp] w (Ret B (fun _ : Unit => True) (fun _ => .bool true) (fun _ => [])) := by
  (refine enter Tryz.func4 rfl rfl hS ?_; simp only [List.zipIdx_cons, List.zipIdx_nil, List.map_cons, List.map_nil, Nat.reduceAdd, Nat.zero_add])
  refine wSeq ?_
  refine wRegion' ?_
  refine oAssign rfl ?_
  refine oNil ?_
  refine thn_n ?_
  refine wSeq ?_
  refine wSeq ?_
  refine wRegion' ?_
  refine oMove rfl ?_
  (refine oCall rfl (by kernel_rfl) (fun w hS => frame hS (by repeat' constructor) (fun B' hB hS' => ref24_Few hS' A cp l (Kd.C_grow hB hC))) ?_; rintro r12 h12)
  first | refine oNot rfl ?_ | refine oNotB rfl ?_
  refine oNil ?_
  refine thn_n ?_
  first | refine wCond rfl (fun h13 => ?_) (fun h13 => ?_) | refine wCondB rfl (fun h13 => ?_) (fun h13 => ?_)
  ·
   refine wSeq ?_
   refine wRegion' ?_
   (refine oCall rfl (by kernel_rfl) (fun w hS => frame hS (by repeat' constructor) (fun B' hB hS' => known25 hS')) ?_; rintro ⟨⟩ -)
   refine oAssign rfl ?_
   refine oNil ?_
   refine thn_n ?_
   refine wRet ?_
   refine thn_r ?_
   refine fin_r ?_
   refine ⟨rfl, _, (ResL.cons (ResR.tmp rfl) ResL.nil), ?_⟩
   exact ⟨(), trivial, rfl, (Leads.has (by repeat' constructor))⟩
  ·
   have hsm : FewO l := h12 (by simpa using h13)
   refine wSkip ?_
   refine thn_n ?_
   refine wSeq ?_
   refine wRegion' ?_
   refine oMove rfl ?_
   (refine oCall rfl (by kernel_rfl) (fun w hS => frame hS (by repeat' constructor) (fun B' hB hS' => ref24_Bind hS' A cp l B.e hB hC hv hsm mainS)) ?_; rintro z ⟨hz, hzp⟩)
   obtain ⟨Af, cf, ft, fr, Ad, cd, dt, dr⟩ := z
   have hz1 := hz.f
   have hz3 := hz.d
   dsimp only [PZ.cells] at hz1 hz3 ⊢
   have hPf : funsOf ft fr = (bindP l mainS).fFuns := by rw [← hzp]; rfl
   have hPd : datsOf dt dr = (bindP l mainS).fDats := by rw [← hzp]; rfl
   have hfl : ft.length = (bindP l mainS).fFuns.length := by rw [← hPf]; exact (zip_len hz1).symm
   have hdl : dt.length = (bindP l mainS).fDats.length := by rw [← hPd]; exact (zip_len hz3).symm
   rw [hfl, hdl]
   refine oMove rfl ?_
   refine oExt rfl (by repeat constructor) ?_
   refine oExt rfl (by repeat constructor) ?_
   refine oAlloc rfl (by repeat constructor) (fun b3 => ?_)
   refine oAlloc rfl (by repeat constructor) (fun b4 => ?_)
   refine oStA rfl rfl rfl rfl (by repeat constructor) (by rfl) ?_
   refine oStA rfl rfl rfl rfl (by repeat constructor) (by rfl) ?_
   refine oNil ?_
   refine thn_n ?_
   refine wFreeze [row kFunT B.e 49 (.slice Af (bindP l mainS).fFuns.length cf) ft, bun (rws (Kd.int .i64) B.e 3 (ft.map hdT) fr), row kDatT B.e 98 (.slice Ad (bindP l mainS).fDats.length cd) dt, bun (rws (Kd.int .i64) B.e 3 (dt.map hdT) dr)] (by repeat' constructor) (fun B1 hB1 hq1 => ?_)
   have hcF := funs_C (hq1 _ _ (by repeat constructor)) hB1 (hq1 _ _ (by repeat constructor)) hz1
   have hcD := dats_C (hq1 _ _ (by repeat constructor)) hB1 (hq1 _ _ (by repeat constructor)) hz3
   rw [hPf] at hcF
   rw [hPd] at hcD
   obtain ⟨-, hfc, hF⟩ := hcF
   obtain ⟨-, hdc, hD⟩ := hcD
   have hKp : kApiProgram.K B1.e (bindP l mainS) [.slice Af (bindP l mainS).fFuns.length cf, .slice Ad (bindP l mainS).fDats.length cd, .int .i64 (bindP l mainS).fEntry] := kApiProgram_mk B1.e (bindP l mainS) hfc hF hdc hD
   refine wSeq ?_
   refine wSeq ?_
   refine wRegion' ?_
   refine oLdA rfl (by repeat constructor) rfl (by repeat constructor) ?_
   (refine oCall rfl (by kernel_rfl) (fun w hS => frame hS (by repeat' constructor) (fun B' hB hS' => ref25_Few hS' (bindP l mainS) _ (kApiProgram.K_grow hB hKp))) ?_; rintro r21 h21)
   first | refine oNot rfl ?_ | refine oNotB rfl ?_
   refine oNil ?_
   refine thn_n ?_
   first | refine wCond rfl (fun h22 => ?_) (fun h22 => ?_) | refine wCondB rfl (fun h22 => ?_) (fun h22 => ?_)
   ·
    refine wSeq ?_
    refine wRegion' ?_
    (refine oCall rfl (by kernel_rfl) (fun w hS => frame hS (by repeat' constructor) (fun B' hB hS' => known25 hS')) ?_; rintro ⟨⟩ -)
    refine oAssign rfl ?_
    refine oNil ?_
    refine thn_n ?_
    refine wRet ?_
    refine thn_r ?_
    refine fin_r ?_
    refine ⟨rfl, _, (ResL.cons (ResR.tmp rfl) ResL.nil), ?_⟩
    exact ⟨(), trivial, rfl, (Leads.has (by repeat' constructor))⟩
   ·
    have hsp : SmallP (bindP l mainS) := h21 (by simpa using h22)
    have hsq := turn_small hsp
    have hlen := bindP_len l mainS
    have hfn := hsp.funs
    refine wSkip ?_
    refine thn_n ?_
    refine wSeq ?_
    refine wRegion' ?_
    refine oLdA rfl (by repeat constructor) rfl (by repeat constructor) ?_
    refine oAlloc rfl (by repeat constructor) (fun b5 => ?_)
    refine oStA rfl rfl rfl rfl (by repeat constructor) (by rfl) ?_
    refine oNil ?_
    refine thn_n ?_
    refine wSeq ?_
    refine wRegion' ?_
    refine oFld (n := 0) (m := 0) rfl rfl rfl ?_
    refine oSt rfl rfl rfl rfl rfl (by repeat constructor) (by repeat constructor) ?_
    refine oNil ?_
    refine thn_n ?_
    refine wSeq ?_
    refine wSeq ?_
    refine wRegion' ?_
    refine oAssign rfl ?_
    refine oNil ?_
    refine thn_n ?_
    refine wBlock ?_
    refine wLoop (ι := Nat × Option Addr × Nat × List FunQ) (fun z => [(3, .pointer (some ⟨b3, 0, none⟩)), (5, .pointer (some ⟨b5, 0, none⟩)), (6, .int .i64 (z.1 : Int))]) (fun z => [blk b3 29 [.slice Af (bindP l mainS).fFuns.length cf, .slice Ad (bindP l mainS).fDats.length cd, .int .i64 (bindP l mainS).fEntry], blk b5 29 [.slice z.2.1 z.1 z.2.2.1, .slice Ad (bindP l mainS).fDats.length cd, .int .i64 (bindP l mainS).fEntry], row kFunQ B1.e 49 (.slice z.2.1 z.1 z.2.2.1) z.2.2.2, bun (rws kApiInstr B1.e 51 (z.2.2.2.map qC) (((bindP l mainS).fFuns.take z.1).map codeT)), bun (rws (Kd.int .i64) B1.e 3 (z.2.2.2.map qR) (((bindP l mainS).fFuns.take z.1).map refsT))]) (fun z => z.1 ≤ (bindP l mainS).fFuns.length ∧ z.2.2.2.map (·.1) = (bindP l mainS).fFuns.take z.1) (fun z => (bindP l mainS).fFuns.length - z.1) (0, none, 0, []) ?_ (by repeat (first | exact trivial | refine And.intro rfl ?_)) (Leads.nilrow.trans (bun_nil.trans (bun_nil.trans (Leads.has (by repeat' constructor))))) ?_
    ·
     exact ⟨Nat.zero_le _, rfl⟩
    ·
     rintro ⟨i, A5, c5, ts⟩ ⟨hi, hts⟩
     dsimp only at hi hts
     have htl : ts.length = i := by have := congrArg List.length hts; rw [List.length_map, List.length_take] at this; omega
     try dsimp only
     refine wSeq ?_
     refine wSeq ?_
     refine wRegion' ?_
     refine oMove rfl ?_
     refine oFld (n := 0) (m := 0) rfl rfl rfl ?_
     refine oLd rfl (by repeat constructor) rfl rfl ?_
     refine oLenS rfl rfl ?_
     refine oLss rfl rfl ?_
     refine oNil ?_
     refine thn_n ?_
     first | refine wCond rfl (fun h30 => ?_) (fun h30 => ?_) | refine wCondB rfl (fun h30 => ?_) (fun h30 => ?_)
     ·
      obtain ⟨f, hf⟩ : ∃ f, (bindP l mainS).fFuns[i]? = some f := ⟨_, List.getElem?_eq_getElem (by omega)⟩
      have hfm := List.mem_of_getElem? hf
      have hfs := hsp.fn f hfm
      have hfr := hlen f hfm
      obtain ⟨ef, csf, hEf⟩ := hF.elm hf
      obtain ⟨D0, d0, D1, d1, D2, d2, D3, d3, D4, d4, rfl, m0, q0, m1, q1, m2, q2, m3, q3, m4, q4⟩ := kApiFun_open hEf.K
      refine wSkip ?_
      refine thn_n ?_
      refine wSeq ?_
      refine wBlock ?_
      refine wSeq ?_
      refine wRegion' ?_
      refine oFld (n := 0) (m := 0) rfl rfl rfl ?_
      refine oLd rfl (by repeat constructor) rfl rfl ?_
      refine oMove rfl ?_
      refine oIdxE rfl rfl (hEf) (by omega) rfl rfl ?_
      have hc36 := (hEf).cell
      first | refine oLdX rfl hc36 rfl rfl ?_ | refine oLdXA rfl hc36 rfl (by repeat constructor) ?_ | (refine oLdR1 rfl (by repeat constructor) (by omega) rfl (fun u37 hu37 => ?_))
      refine oAlloc rfl (by repeat constructor) (fun b7 => ?_)
      refine oStA rfl rfl rfl rfl (by repeat constructor) (by rfl) ?_
      refine oNil ?_
      refine thn_n ?_
      refine wSeq ?_
      refine wRegion' ?_
      refine oAssign rfl ?_
      refine oNil ?_
      refine thn_n ?_
      refine wSeq ?_
      refine wRegion' ?_
      refine oAssign rfl ?_
      refine oNil ?_
      refine thn_n ?_
      refine wSeq ?_
      refine wSeq ?_
      refine wRegion' ?_
      refine oFld (n := 3) (m := 3) rfl rfl rfl ?_
      refine oFld (n := 7) (m := 10) rfl rfl rfl ?_
      refine oLd rfl (by repeat constructor) rfl rfl ?_
      refine oLenS rfl rfl ?_
      refine oSub rfl rfl (by omega) ?_
      refine oAssign rfl ?_
      have hd0 : (f.fF.fCode.drop f.fF.fCode.length).reverse = [] := by simp
      have hd1 : ((f.fRefs.take f.fF.fCode.length).drop f.fF.fCode.length).reverse = [] := by rw [List.drop_of_length_le (by rw [List.length_take]; omega)]; rfl
      refine oSet (t := 8) (v' := .slice none (f.fF.fCode.drop f.fF.fCode.length).reverse.length 0) rfl (by rw [hd0]; rfl) ?_
      refine oSet (t := 9) (v' := .slice none ((f.fRefs.take f.fF.fCode.length).drop f.fF.fCode.length).reverse.length 0) rfl (by rw [hd1]; rfl) ?_
      refine oNil ?_
      refine thn_n ?_
      refine wBlock ?_
      refine wLoop (ι := Nat × (Option Addr × Nat) × Option Addr × Nat) (fun z => [(3, .pointer (some ⟨b3, 0, none⟩)), (5, .pointer (some ⟨b5, 0, none⟩)), (6, .int .i64 (i : Int)), (7, .pointer (some ⟨b7, 0, none⟩)), (8, .slice z.2.1.1 (f.fF.fCode.drop z.1).reverse.length z.2.1.2), (9, .slice z.2.2.1 ((f.fRefs.take f.fF.fCode.length).drop z.1).reverse.length z.2.2.2), (10, .int .i64 ((z.1 : Int) - 1))]) (fun z => [blk b3 29 [.slice Af (bindP l mainS).fFuns.length cf, .slice Ad (bindP l mainS).fDats.length cd, .int .i64 (bindP l mainS).fEntry], blk b5 29 [.slice A5 i c5, .slice Ad (bindP l mainS).fDats.length cd, .int .i64 (bindP l mainS).fEntry], row kFunQ B1.e 49 (.slice A5 i c5) ts, bun (rws kApiInstr B1.e 51 (ts.map qC) (((bindP l mainS).fFuns.take i).map codeT)), bun (rws (Kd.int .i64) B1.e 3 (ts.map qR) (((bindP l mainS).fFuns.take i).map refsT)), blk b7 49 [.int .i64 f.fFile, .int .i64 f.fItem, .string f.fName, .int .i64 f.fF.fClass, .slice D0 f.fF.fKinds.length d0, .int .i64 f.fF.fPad, .bool f.fF.fNosplit, .int .i64 f.fF.fFrom, .int .i64 f.fF.fTo, .slice D1 f.fF.fLines.length d1, .slice D2 f.fF.fCode.length d2, .slice D3 f.fF.fRelocs.length d3, .slice D4 f.fRefs.length d4], row kApiInstr B1.e 51 (.slice z.2.1.1 (f.fF.fCode.drop z.1).reverse.length z.2.1.2) (f.fF.fCode.drop z.1).reverse, row (Kd.int .i64) B1.e 3 (.slice z.2.2.1 ((f.fRefs.take f.fF.fCode.length).drop z.1).reverse.length z.2.2.2) ((f.fRefs.take f.fF.fCode.length).drop z.1).reverse]) (fun z => z.1 ≤ f.fF.fCode.length) (fun z => z.1) (f.fF.fCode.length, (none, 0), none, 0) ?_ (by repeat (first | exact trivial | refine And.intro rfl ?_)) (Leads.nilrow.trans (Leads.nilrow.trans (by rw [hd0, hd1]; exact (Leads.has (by repeat' constructor))))) ?_
      ·
       exact Nat.le_refl _
      ·
       rintro ⟨m, ⟨A8, c8⟩, A9, c9⟩ hm
       dsimp only at hm
       have hcl : (f.fF.fCode.drop m).reverse.length ≤ 80 := by rw [List.length_reverse, List.length_drop]; omega
       have hrl : ((f.fRefs.take f.fF.fCode.length).drop m).reverse.length ≤ 80 := by rw [List.length_reverse, List.length_drop, List.length_take]; omega
       try dsimp only
       refine wSeq ?_
       refine wSeq ?_
       refine wRegion' ?_
       refine oMove rfl ?_
       refine oGeq rfl rfl ?_
       refine oNil ?_
       refine thn_n ?_
       first | refine wCond rfl (fun h44 => ?_) (fun h44 => ?_) | refine wCondB rfl (fun h44 => ?_) (fun h44 => ?_)
       ·
        obtain ⟨k, rfl⟩ : ∃ k, m = k + 1 := ⟨m - 1, by omega⟩
        obtain ⟨x, hx⟩ : ∃ x, f.fF.fCode[k]? = some x := ⟨_, List.getElem?_eq_getElem (by omega)⟩
        obtain ⟨r, hr⟩ : ∃ r, f.fRefs[k]? = some r := ⟨_, List.getElem?_eq_getElem (by omega)⟩
        obtain ⟨e1, cs1, hE⟩ := q2.elm hx
        obtain rfl := kApiInstr_open hE.K
        obtain ⟨e2, cs2, hE2⟩ := q4.elm hr
        obtain rfl := (show cs2 = [Value.int .i64 r] from hE2.K)
        have hrx := rev_drop hx
        have hrr := rev_drop (l := f.fRefs.take f.fF.fCode.length) (k := k) (x := r) (by rw [List.getElem?_take, if_pos (by omega)]; exact hr)
        refine wSkip ?_
        refine thn_n ?_
        refine wSeq ?_
        refine wBlock ?_
        refine wSeq ?_
        refine wRegion' ?_
        refine oMove rfl ?_
        refine oFld (n := 3) (m := 3) rfl rfl rfl ?_
        refine oFld (n := 7) (m := 10) rfl rfl rfl ?_
        refine oLd rfl (by repeat constructor) rfl rfl ?_
        refine oMove rfl ?_
        refine oSet (t := 51) (v' := .int .i64 ((k : Nat) : Int)) rfl (by congr 1; omega) ?_
        refine oIdxE rfl rfl (hE) (by omega) rfl rfl ?_
        have hc52 := (hE).cell
        first | refine oLdX rfl hc52 rfl rfl ?_ | refine oLdXA rfl hc52 rfl (by repeat constructor) ?_ | (refine oLdR1 rfl (by repeat constructor) (by omega) rfl (fun u53 hu53 => ?_))
        refine oBuildSlice1 rfl rfl rfl rfl rfl (by repeat constructor) rfl (fun b54 => ?_)
        refine oApp1 (kd := kApiInstr) (W := B1.e) x rfl rfl rfl rfl (by repeat constructor) (by repeat constructor) (kApiInstr_mk B1.e x) (by omega) rfl (fun g55 cp55 => ?_)
        rw [show (f.fF.fCode.drop (k + 1)).reverse.length + 1 = (f.fF.fCode.drop k).reverse.length by rw [hrx, List.length_append]; rfl, ← hrx]
        refine oAssign rfl ?_
        refine oNil ?_
        refine thn_n ?_
        refine wRegion' ?_
        refine oMove rfl ?_
        refine oFld (n := 12) (m := 12) rfl rfl rfl ?_
        refine oLd rfl (by repeat constructor) rfl rfl ?_
        refine oMove rfl ?_
        refine oSet (t := 59) (v' := .int .i64 ((k : Nat) : Int)) rfl (by congr 1; omega) ?_
        refine oIdxE rfl rfl (hE2) (by omega) rfl rfl ?_
        have hc60 := (hE2).cell
        first | refine oLdX rfl hc60 rfl rfl ?_ | refine oLdXA rfl hc60 rfl (by repeat constructor) ?_ | (refine oLdR1 rfl (by repeat constructor) (by omega) rfl (fun u61 hu61 => ?_))
        refine oBuildSlice1 rfl rfl rfl rfl rfl (by repeat constructor) rfl (fun b62 => ?_)
        refine oApp1 (kd := Kd.int .i64) (W := B1.e) r rfl rfl rfl rfl (by repeat constructor) (by repeat constructor) rfl (by omega) rfl (fun g63 cp63 => ?_)
        rw [show ((f.fRefs.take f.fF.fCode.length).drop (k + 1)).reverse.length + 1 = ((f.fRefs.take f.fF.fCode.length).drop k).reverse.length by rw [hrr, List.length_append]; rfl, ← hrr]
        refine oAssign rfl ?_
        skip
        refine oNil ?_
        refine blk_n ?_
        refine thn_n ?_
        refine wRegion' ?_
        refine oMove rfl ?_
        refine oSub rfl rfl (by omega) ?_
        refine oSet (t := 46) (v' := .int .i64 ((k : Int) - 1)) rfl (by congr 1; omega) ?_
        refine oAssign rfl ?_
        skip
        refine oNil ?_
        refine thn_n ?_
        exact ⟨rfl, (k, (some ⟨g55, 0, none⟩, cp55), some ⟨g63, 0, none⟩, cp63), by show k ≤ _; omega, by show k < k + 1; omega, (by repeat (first | exact trivial | refine And.intro rfl ?_)), (Leads.has (by repeat' constructor))⟩
       ·
        obtain rfl : m = 0 := by omega
        rw [show (f.fF.fCode.drop 0).reverse = codeT f from rfl, show ((f.fRefs.take f.fF.fCode.length).drop 0).reverse = refsT f from rfl]
        refine wExit ?_
        refine thn_x ?_
        refine thn_x ?_
        refine blk_x ?_
        refine thn_n ?_
        refine wSeq ?_
        refine wRegion' ?_
        refine oMove rfl ?_
        refine oFld (n := 3) (m := 3) rfl rfl rfl ?_
        refine oFld (n := 7) (m := 10) rfl rfl rfl ?_
        refine oSt rfl rfl rfl rfl rfl (by repeat constructor) (by repeat constructor) ?_
        refine oNil ?_
        refine thn_n ?_
        refine wSeq ?_
        refine wRegion' ?_
        refine oMove rfl ?_
        refine oFld (n := 12) (m := 12) rfl rfl rfl ?_
        refine oSt rfl rfl rfl rfl rfl (by repeat constructor) (by repeat constructor) ?_
        refine oNil ?_
        refine thn_n ?_
        refine wRegion' ?_
        refine oFld (n := 0) (m := 0) rfl rfl rfl ?_
        refine oLd rfl (by repeat constructor) rfl rfl ?_
        refine oLdA rfl (by repeat constructor) rfl (by repeat constructor) ?_
        refine oBuildSlice1 rfl rfl rfl rfl rfl (by repeat constructor) rfl (fun b72 => ?_)
        refine oApp1 (kd := kFunQ) (W := B1.e) (xs := ts) ((f, (A8, (codeT f).length, c8), (A9, (refsT f).length, c9)) : FunQ) rfl rfl rfl rfl (by repeat constructor) (by repeat constructor) (kFunQ_mk B1.e f (A8, (codeT f).length, c8) (A9, (refsT f).length, c9) m0 q0 m1 q1 m3 q3) (by omega) rfl (fun g73 cp73 => ?_)
        refine oSnoc (kd := kApiInstr) (W := B1.e) (ei := 51) (u := (A8, (codeT f).length, c8)) (l := codeT f) (hs := ts.map qC) (xss := ((bindP l mainS).fFuns.take i).map codeT) (by repeat constructor) (by repeat constructor) (by rw [List.length_map, List.length_map, List.length_take]; omega) ?_
        refine oSnoc (kd := Kd.int .i64) (W := B1.e) (ei := 3) (u := (A9, (refsT f).length, c9)) (l := refsT f) (hs := ts.map qR) (xss := ((bindP l mainS).fFuns.take i).map refsT) (by repeat constructor) (by repeat constructor) (by rw [List.length_map, List.length_map, List.length_take]; omega) ?_
        rw [htl, show ts.map qC ++ [(A8, (codeT f).length, c8)] = (ts ++ [((f, (A8, (codeT f).length, c8), (A9, (refsT f).length, c9)) : FunQ)]).map qC by rw [List.map_append]; rfl, show ts.map qR ++ [(A9, (refsT f).length, c9)] = (ts ++ [((f, (A8, (codeT f).length, c8), (A9, (refsT f).length, c9)) : FunQ)]).map qR by rw [List.map_append]; rfl, show ((bindP l mainS).fFuns.take i).map codeT ++ [codeT f] = ((bindP l mainS).fFuns.take (i + 1)).map codeT by rw [List.take_add_one, hf, List.map_append]; rfl, show ((bindP l mainS).fFuns.take i).map refsT ++ [refsT f] = ((bindP l mainS).fFuns.take (i + 1)).map refsT by rw [List.take_add_one, hf, List.map_append]; rfl]
        refine oFld (n := 0) (m := 0) rfl rfl rfl ?_
        refine oSt rfl rfl rfl rfl rfl (by repeat constructor) (by repeat constructor) ?_
        refine oNil ?_
        refine blk_n ?_
        refine thn_n ?_
        refine wRegion' ?_
        refine oMove rfl ?_
        refine oSucc rfl rfl (by omega) ?_
        refine oAssign rfl ?_
        refine oNil ?_
        refine thn_n ?_
        exact ⟨rfl, (i + 1, some ⟨g73, 0, none⟩, cp73, ts ++ [(f, (A8, (codeT f).length, c8), (A9, (refsT f).length, c9))]), ⟨by show i + 1 ≤ _; omega, by show (ts ++ [_]).map _ = _; rw [List.map_append, hts, List.take_add_one, hf]; rfl⟩, by show (bindP l mainS).fFuns.length - (i + 1) < (bindP l mainS).fFuns.length - i; omega, (by repeat (first | exact trivial | refine And.intro rfl ?_)), (Leads.has (by repeat' constructor))⟩
     ·
      obtain rfl : i = (bindP l mainS).fFuns.length := by omega
      rw [List.take_length]
      have htsP : ts.map (·.1) = (bindP l mainS).fFuns := by rw [hts, List.take_length]
      refine wExit ?_
      refine thn_x ?_
      refine thn_x ?_
      refine blk_x ?_
      refine thn_n ?_
      refine wSeq ?_
      refine wDrawG rfl [0, 2] [(1, [2], []), (3, [], []), (4, [], [5, 6, 8]), (7, [8], []), (9, [], []), (10, [], [11, 12, 13, 15]), (14, [15], []), (16, [], []), (17, [], [18, 19]), (20, [], [21])] [22] 24 (by kernel_rfl) rfl rfl (fun w0 => ?_)
      refine oLdA rfl (by repeat constructor) rfl (by repeat constructor) ?_
      refine oLdA rfl (by repeat constructor) rfl (by repeat constructor) ?_
      refine oLkSegG ?_
      refine oSegG rfl ?_
      (refine oCall rfl (by kernel_rfl) (fun w hS => frame hS (by repeat' constructor) (fun B' hB hS' => prog_Refers hS' (bindP l mainS) _ (kApiProgram.K_grow hB hKp) hsp B1.e)) ?_; rintro ⟨A76, c76, hs76⟩ hl76)
      refine oAgainG ?_ rfl (fun w0 => ?_)
      ·
       refine AgainG.cons rfl rfl rfl rfl (fun w0 => ?_) ?_
       ·
        refine oLdA rfl (by repeat constructor) rfl (by repeat constructor) ?_
        exact oLkHas rfl
       ·
        exact AgainG.nil
      ·
       refine oLkSegG ?_
       refine oSegG rfl ?_
       (refine oCall rfl (by kernel_rfl) (fun w hS => frame' hS .nil (fun B' hB hR hS' => prog_Refers hS' (turnP (bindP l mainS)) _ (turned_K (hR _ _ (by repeat constructor)) (hR _ _ (by repeat constructor)) (hR _ _ (by repeat constructor)) hB htsP (Kd.C_grow hB hD) hdc) hsq B1.e)) ?_; rintro ⟨A78, c78, hs78⟩ hl78)
       rw [turn_refers hlen]
       refine oAgainG ?_ rfl (fun w0 => ?_)
       ·
        exact AgainG.nil
       ·
        refine oLkSegG ?_
        refine oSegG rfl ?_
        (refine oCall rfl (by kernel_rfl) (fun w hS => frame' hS .nil (fun B' hB hR hS' => ref10_Same2 hS' ((bindP l mainS).fFuns.map (refersF (bindP l mainS))) (bindP l mainS).fFuns.length (turnP (bindP l mainS)).fFuns.length (by rw [List.length_map]) (by rw [List.length_map, turnP_len]) A76 c76 (grid_C (kd := Kd.int .i64) (W := B1.e) (ei := 3) (eo := 42) (W0 := B1.e) (n := (bindP l mainS).fFuns.length) (cp := c76) (hs := hs76) (A := A76) (xss := (bindP l mainS).fFuns.map (refersF (bindP l mainS))) (hR _ _ (by repeat constructor)) (hR _ _ (by repeat constructor)) (by rw [hl76, List.length_map]) hB) A78 c78 (grid_C (kd := Kd.int .i64) (W := B1.e) (ei := 3) (eo := 42) (W0 := B1.e) (n := (turnP (bindP l mainS)).fFuns.length) (cp := c78) (hs := hs78) (A := A78) (xss := (bindP l mainS).fFuns.map (refersF (bindP l mainS))) (hR _ _ (by repeat constructor)) (hR _ _ (by repeat constructor)) (by rw [hl78, List.length_map, turnP_len]) hB))) ?_; rintro ⟨⟩ -)
        refine oAgainG ?_ rfl (fun w0 => ?_)
        ·
         exact AgainG.nil
        ·
         refine oMove rfl ?_
         refine oWant rfl rfl ?_
         refine oLdA rfl (by repeat constructor) rfl (by repeat constructor) ?_
         refine oWant rfl rfl ?_
         refine oLdA rfl (by repeat constructor) rfl (by repeat constructor) ?_
         refine oLkSegG ?_
         refine oSegG rfl ?_
         refine oWant rfl rfl ?_
         (refine oCall rfl (by kernel_rfl) (fun w hS => frame hS (by repeat' constructor) (fun B' hB hS' => prog_Vias hS' (bindP l mainS) _ (kApiProgram.K_grow hB hKp) hsp B1.e)) ?_; rintro ⟨A82, c82, hs82⟩ hl82)
         refine oAgainG ?_ rfl (fun w0 => ?_)
         ·
          refine AgainG.cons rfl rfl rfl rfl (fun w0 => ?_) ?_
          ·
           refine oWant rfl rfl ?_
           refine oLdA rfl (by repeat constructor) rfl (by repeat constructor) ?_
           exact oLkHas rfl
          ·
           exact AgainG.nil
         ·
          refine oLkSegG ?_
          refine oSegG rfl ?_
          refine oWant rfl rfl ?_
          (refine oCall rfl (by kernel_rfl) (fun w hS => frame' hS .nil (fun B' hB hR hS' => prog_Vias hS' (turnP (bindP l mainS)) _ (turned_K (hR _ _ (by repeat constructor)) (hR _ _ (by repeat constructor)) (hR _ _ (by repeat constructor)) hB htsP (Kd.C_grow hB hD) hdc) hsq B1.e)) ?_; rintro ⟨A84, c84, hs84⟩ hl84)
          rw [turn_vias hlen]
          refine oAgainG ?_ rfl (fun w0 => ?_)
          ·
           exact AgainG.nil
          ·
           refine oLkSegG ?_
           refine oSegG rfl ?_
           refine oWant rfl rfl ?_
           (refine oCall rfl (by kernel_rfl) (fun w hS => frame' hS .nil (fun B' hB hR hS' => ref10_Same2 hS' ((bindP l mainS).fFuns.map viasF) (bindP l mainS).fFuns.length (turnP (bindP l mainS)).fFuns.length (by rw [List.length_map]) (by rw [List.length_map, turnP_len]) A82 c82 (grid_C (kd := Kd.int .i64) (W := B1.e) (ei := 3) (eo := 42) (W0 := B1.e) (n := (bindP l mainS).fFuns.length) (cp := c82) (hs := hs82) (A := A82) (xss := (bindP l mainS).fFuns.map viasF) (hR _ _ (by repeat constructor)) (hR _ _ (by repeat constructor)) (by rw [hl82, List.length_map]) hB) A84 c84 (grid_C (kd := Kd.int .i64) (W := B1.e) (ei := 3) (eo := 42) (W0 := B1.e) (n := (turnP (bindP l mainS)).fFuns.length) (cp := c84) (hs := hs84) (A := A84) (xss := (bindP l mainS).fFuns.map viasF) (hR _ _ (by repeat constructor)) (hR _ _ (by repeat constructor)) (by rw [hl84, List.length_map, turnP_len]) hB))) ?_; rintro ⟨⟩ -)
           refine oAgainG ?_ rfl (fun w0 => ?_)
           ·
            exact AgainG.nil
           ·
            refine oPickT rfl rfl ?_
            refine oMove rfl ?_
            refine oWant rfl rfl ?_
            refine oLdA rfl (by repeat constructor) rfl (by repeat constructor) ?_
            refine oWant rfl rfl ?_
            refine oLdA rfl (by repeat constructor) rfl (by repeat constructor) ?_
            refine oLkSegG ?_
            refine oSegG rfl ?_
            refine oWant rfl rfl ?_
            (refine oCall rfl (by kernel_rfl) (fun w hS => frame hS (by repeat' constructor) (fun B' hB hS' => prog_Datas hS' (bindP l mainS) _ (kApiProgram.K_grow hB hKp) hsp B1.e)) ?_; rintro ⟨A89, c89, hs89⟩ hl89)
            refine oAgainG ?_ rfl (fun w0 => ?_)
            ·
             refine AgainG.cons rfl rfl rfl rfl (fun w0 => ?_) ?_
             ·
              refine oWant rfl rfl ?_
              refine oLdA rfl (by repeat constructor) rfl (by repeat constructor) ?_
              exact oLkHas rfl
             ·
              exact AgainG.nil
            ·
             refine oLkSegG ?_
             refine oSegG rfl ?_
             refine oWant rfl rfl ?_
             (refine oCall rfl (by kernel_rfl) (fun w hS => frame' hS .nil (fun B' hB hR hS' => prog_Datas hS' (turnP (bindP l mainS)) _ (turned_K (hR _ _ (by repeat constructor)) (hR _ _ (by repeat constructor)) (hR _ _ (by repeat constructor)) hB htsP (Kd.C_grow hB hD) hdc) hsq B1.e)) ?_; rintro ⟨A91, c91, hs91⟩ hl91)
             rw [turn_datas hlen]
             refine oAgainG ?_ rfl (fun w0 => ?_)
             ·
              exact AgainG.nil
             ·
              refine oLkSegG ?_
              refine oSegG rfl ?_
              refine oWant rfl rfl ?_
              (refine oCall rfl (by kernel_rfl) (fun w hS => frame' hS .nil (fun B' hB hR hS' => ref10_Same2 hS' ((bindP l mainS).fFuns.map (datasF (bindP l mainS))) (bindP l mainS).fFuns.length (turnP (bindP l mainS)).fFuns.length (by rw [List.length_map]) (by rw [List.length_map, turnP_len]) A89 c89 (grid_C (kd := Kd.int .i64) (W := B1.e) (ei := 3) (eo := 42) (W0 := B1.e) (n := (bindP l mainS).fFuns.length) (cp := c89) (hs := hs89) (A := A89) (xss := (bindP l mainS).fFuns.map (datasF (bindP l mainS))) (hR _ _ (by repeat constructor)) (hR _ _ (by repeat constructor)) (by rw [hl89, List.length_map]) hB) A91 c91 (grid_C (kd := Kd.int .i64) (W := B1.e) (ei := 3) (eo := 42) (W0 := B1.e) (n := (turnP (bindP l mainS)).fFuns.length) (cp := c91) (hs := hs91) (A := A91) (xss := (bindP l mainS).fFuns.map (datasF (bindP l mainS))) (hR _ _ (by repeat constructor)) (hR _ _ (by repeat constructor)) (by rw [hl91, List.length_map, turnP_len]) hB))) ?_; rintro ⟨⟩ -)
              refine oAgainG ?_ rfl (fun w0 => ?_)
              ·
               exact AgainG.nil
              ·
               refine oPickT rfl rfl ?_
               refine oMove rfl ?_
               refine oLkSegG ?_
               refine oSegG rfl ?_
               refine oWant rfl rfl ?_
               (refine oCall rfl (by kernel_rfl) (fun w hS => frame hS (by repeat' constructor) (fun B' hB hS' => known25 hS')) ?_; rintro ⟨⟩ -)
               refine oAgainG ?_ rfl (fun w0 => ?_)
               ·
                exact AgainG.nil
               ·
                refine oPickT rfl rfl ?_
                refine oTailG ?_
                refine oAssign rfl ?_
                refine oNil ?_
                refine thn_n ?_
                refine wRet ?_
                refine fin_r ?_
                refine ⟨rfl, _, (ResL.cons (ResR.tmp rfl) ResL.nil), ?_⟩
                exact ⟨(), trivial, rfl, (Leads.has (by repeat' constructor))⟩
end Go.Proofs.YtogaiijhicfoaaaGreatU
