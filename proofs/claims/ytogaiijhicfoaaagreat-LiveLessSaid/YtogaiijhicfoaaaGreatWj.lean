import Derived.Test.YtogaiijhicfoaaaGreatWi

/-
  What is bound: functions and data of programs, as they lie; and what follows from files that are right.
-/
namespace Go.Proofs.YtogaiijhicfoaaaGreatW
set_option linter.unusedVariables false
set_option linter.unusedSimpArgs false
open Go.RowKit Go.Proofs.YtogaiijhicfoaaaGreatK Go.Proofs.YtogaiijhicfoaaaGreatT Go.Proofs.YtogaiijhicfoaaaGreatL Go.Proofs.YtogaiijhicfoaaaGreatV Go.Proofs.YtogaiijhicfoaaaGreatG

abbrev FunT := Int × Int × ByteArray × ApiFunc × Hdr
abbrev DatT := Int × Int × ByteArray × ApiData × Hdr
def kFunT : Kd FunT := Kd.pair (Kd.int .i64) (Kd.pair (Kd.int .i64) (Kd.pair Kd.string (Kd.pair kApiFunc kHdr)))
def kDatT : Kd DatT := Kd.pair (Kd.int .i64) (Kd.pair (Kd.int .i64) (Kd.pair Kd.string (Kd.pair kApiData kHdr)))
abbrev hdT {α : Type} (t : Int × Int × ByteArray × α × Hdr) : Hdr := t.2.2.2.2
def mkF (t : FunT) (r : List Int) : ApiFun := ⟨t.1, t.2.1, t.2.2.1, t.2.2.2.1, r⟩
def mkD (t : DatT) (r : List Int) : ApiDat := ⟨t.1, t.2.1, t.2.2.1, t.2.2.2.1, r⟩
def funsOf (ts : List FunT) (rs : List (List Int)) : List ApiFun := List.zipWith mkF ts rs
def datsOf (ts : List DatT) (rs : List (List Int)) : List ApiDat := List.zipWith mkD ts rs
theorem zip_len {α β γ : Type} {m : α → β → γ} {a : List α} {b : List β} (h : a.length = b.length) : (List.zipWith m a b).length = a.length := by rw [List.length_zipWith]; omega
theorem zip_snoc {α β γ : Type} {m : α → β → γ} {a : List α} {b : List β} (h : a.length = b.length) (x : α) (y : β) : List.zipWith m (a ++ [x]) (b ++ [y]) = List.zipWith m a b ++ [m x y] := by rw [List.zipWith_append h]; rfl
theorem gridT_C {α β : Type} {kA : Kd α} {kB : Kd β} {m : α → List Int → β} {hd : α → Hdr} (hsz : kA.sz = kB.sz) (hm : ∀ w x cs r, kA.K w x cs → (Kd.int .i64).C w (hd x).1 r → (hd x).2.1 = r.length → r.length ≤ (hd x).2.2 → kB.K w (m x r) cs)
    {W0 W w : World} {eo ei : TypeId} {A : Option Addr} {n cp : Nat} {ts : List α} {rs : List (List Int)} (h1 : (row kA W0 eo (.slice A n cp) ts).q w) (g0 : Grow W0 w) (h2 : (bun (rws (Kd.int .i64) W ei (ts.map hd) rs)).q w) (hl : ts.length = rs.length) : n = ts.length ∧ n ≤ cp ∧ kB.C w A (List.zipWith m ts rs) := by
  obtain ⟨e1, e2, ⟨hbig, hC⟩, _⟩ := row_C h1 g0
  refine ⟨e1, e2, by rw [zip_len hl]; omega, fun h0 => ?_⟩
  rw [zip_len hl] at h0
  obtain ⟨ad, rfl, hc⟩ := hC (by omega)
  refine ⟨ad, rfl, fun j x hj => ?_⟩
  rw [List.getElem?_zipWith] at hj
  cases ht : ts[j]? with
  | none => rw [ht] at hj; cases hj
  | some t =>
    cases hr : rs[j]? with
    | none => rw [ht, hr] at hj; cases hj
    | some r =>
      rw [ht, hr] at hj
      obtain rfl := Option.some.inj hj
      obtain ⟨c, hK, hcell⟩ := hc j t ht
      have hq := h2.1 _ (List.mem_of_getElem? (rws_at (kd := Kd.int .i64) (W := W) (ei := ei) (hs := ts.map hd) (u := hd t) (by rw [List.getElem?_map, ht]; rfl) hr))
      have f3 : (Kd.int .i64).C w (hd t).1 r := row_Cs hq
      obtain ⟨f1, f2, _⟩ := row_C (kd := Kd.int .i64) (W := w) (e := ei) (A := (hd t).1) (n := (hd t).2.1) (cp := (hd t).2.2) (xs := r) (by obtain ⟨cs, ho, hr⟩ := hq; exact ⟨cs, ho, cat_scalar.2 (cat_scalar.1 hr)⟩) (Grow.refl _)
      exact ⟨c, hm _ _ _ _ hK f3 f1 (by omega), fun i u hi => by rw [← hsz]; exact hcell i u hi⟩
theorem funs_C {W0 W w : World} {eo ei : TypeId} {A : Option Addr} {n cp : Nat} {ts : List FunT} {rs : List (List Int)} (h1 : (row kFunT W0 eo (.slice A n cp) ts).q w) (g0 : Grow W0 w) (h2 : (bun (rws (Kd.int .i64) W ei (ts.map hdT) rs)).q w) (hl : ts.length = rs.length) : n = ts.length ∧ n ≤ cp ∧ kApiFun.C w A (funsOf ts rs) :=
  gridT_C (kA := kFunT) (kB := kApiFun) (m := mkF) (hd := hdT) rfl (fun w x cs r hK hC h1 h2 => by
    obtain ⟨c1, d1, rfl, a1, c2, d2, rfl, a2, c3, d3, rfl, a3, c4, d4, rfl, a4, a5⟩ := hK
    rw [show d4 = [hV (hdT x)] from a5, show hV (hdT x) = .slice (hdT x).1 r.length (hdT x).2.2 by rw [← h1]]
    exact ⟨c1, _, rfl, a1, c2, _, rfl, a2, c3, _, rfl, a3, c4, _, rfl, a4, ⟨_, _, rfl, h2, hC⟩⟩) h1 g0 h2 hl
theorem dats_C {W0 W w : World} {eo ei : TypeId} {A : Option Addr} {n cp : Nat} {ts : List DatT} {rs : List (List Int)} (h1 : (row kDatT W0 eo (.slice A n cp) ts).q w) (g0 : Grow W0 w) (h2 : (bun (rws (Kd.int .i64) W ei (ts.map hdT) rs)).q w) (hl : ts.length = rs.length) : n = ts.length ∧ n ≤ cp ∧ kApiDat.C w A (datsOf ts rs) :=
  gridT_C (kA := kDatT) (kB := kApiDat) (m := mkD) (hd := hdT) rfl (fun w x cs r hK hC h1 h2 => by
    obtain ⟨c1, d1, rfl, a1, c2, d2, rfl, a2, c3, d3, rfl, a3, c4, d4, rfl, a4, a5⟩ := hK
    rw [show d4 = [hV (hdT x)] from a5, show hV (hdT x) = .slice (hdT x).1 r.length (hdT x).2.2 by rw [← h1]]
    exact ⟨c1, _, rfl, a1, c2, _, rfl, a2, c3, _, rfl, a3, c4, _, rfl, a4, ⟨_, _, rfl, h2, hC⟩⟩) h1 g0 h2 hl
structure PZ where
  Af : Option Addr
  cf : Nat
  ft : List FunT
  fr : List (List Int)
  Ad : Option Addr
  cd : Nat
  dt : List DatT
  dr : List (List Int)
structure PZ.ok (z : PZ) : Prop where
  f : z.ft.length = z.fr.length
  d : z.dt.length = z.dr.length
abbrev PZ.cells (z : PZ) (e : Int) : List Value := [.slice z.Af z.ft.length z.cf, .slice z.Ad z.dt.length z.cd, .int .i64 e]
def PZ.prog (z : PZ) (e : Int) : ApiProgram := ⟨funsOf z.ft z.fr, datsOf z.dt z.dr, e⟩
theorem prog_K {W0 W w : World} {ef ed ei : TypeId} {z : PZ} (hz : z.ok) (h1 : (row kFunT W0 ef (.slice z.Af z.ft.length z.cf) z.ft).q w) (h2 : (bun (rws (Kd.int .i64) W ei (z.ft.map hdT) z.fr)).q w) (h3 : (row kDatT W0 ed (.slice z.Ad z.dt.length z.cd) z.dt).q w) (h4 : (bun (rws (Kd.int .i64) W ei (z.dt.map hdT) z.dr)).q w) (g : Grow W0 w) (e : Int) : kApiProgram.K w (z.prog e) (z.cells e) := by
  obtain ⟨-, c1, k1⟩ := funs_C h1 g h2 hz.f
  obtain ⟨-, c2, k2⟩ := dats_C h3 g h4 hz.d
  have l1 : z.ft.length = (z.prog e).fFuns.length := (zip_len hz.f).symm
  have l2 : z.dt.length = (z.prog e).fDats.length := (zip_len hz.d).symm
  unfold PZ.cells
  rw [l1, l2]
  exact kApiProgram_mk w (z.prog e) (by rw [← l1]; exact c1) k1 (by rw [← l2]; exact c2) k2
def objAt (l : List ApiObject) (i : Nat) : ApiObject := l.getD i default
theorem objAt_eq {l : List ApiObject} {i : Nat} {o : ApiObject} (h : l[i]? = some o) : objAt l i = o := by unfold objAt; rw [List.getD_eq_getElem?_getD, h]; rfl
def nameI (o : ApiObject) (item : Int) : ByteArray := (o.fSymbols.getD (definerF o item).toNat default).fName
def sumO (fn : Bool) (l : List ApiObject) (n : Nat) : Nat := ((l.take n).map fun o => if fn = true then o.fFuncs.length else o.fDatas.length).sum
theorem sumO_succ {fn : Bool} {l : List ApiObject} {n : Nat} {o : ApiObject} (h : l[n]? = some o) : sumO fn l (n + 1) = sumO fn l n + (if fn = true then o.fFuncs.length else o.fDatas.length) := by
  unfold sumO
  rw [List.take_add_one, h, List.map_append, List.sum_append]
  simp
theorem sumO_le {fn : Bool} {l : List ApiObject} (h : FewO l) : ∀ n, sumO fn l n ≤ 20 * n
  | 0 => by simp [sumO]
  | n + 1 => by
    have ih := sumO_le (fn := fn) h n
    cases ho : l[n]? with
    | none =>
      have : l.take (n + 1) = l.take n := by rw [List.take_add_one, ho]; simp
      have h2 : sumO fn l (n + 1) = sumO fn l n := by unfold sumO; rw [this]
      omega
    | some o =>
      rw [sumO_succ ho]
      have h1 := h.funcs o (List.mem_of_getElem? ho)
      have h2 := h.datas o (List.mem_of_getElem? ho)
      split <;> omega
def numberF (l : List ApiObject) (i k : Int) : Int := (symOf l (bndF l i k).1 (bndF l i k).2.1).fDef + (sumO (decide ((symOf l (bndF l i k).1 (bndF l i k).2.1).fSort = 1)) l (bndF l i k).1.toNat : Int)
def boundE (l : List ApiObject) (i : Int) (s : Int) : Int := if 0 ≤ s then numberF l i s else -1
def boundL (l : List ApiObject) (i : Int) (syms : List Int) : List Int := syms.map (boundE l i)
theorem boundL_len (l : List ApiObject) (i : Int) (syms : List Int) : (boundL l i syms).length = syms.length := by unfold boundL; rw [List.length_map]
def symsF (f : ApiFunc) : List Int := (List.range f.fCode.length).map fun j : Nat => symF f (j : Int)
theorem symsF_len (f : ApiFunc) : (symsF f).length = f.fCode.length := by simp [symsF]
def funAt (l : List ApiObject) (i k : Nat) : ApiFunc := (objAt l i).fFuncs.getD k default
def datAt (l : List ApiObject) (i k : Nat) : ApiData := (objAt l i).fDatas.getD k default
def mkFun (l : List ApiObject) (i k : Nat) : ApiFun := ⟨i, k, nameI (objAt l i) k, funAt l i k, boundL l i (symsF (funAt l i k))⟩
def mkDat (l : List ApiObject) (i k : Nat) : ApiDat := ⟨i, (((objAt l i).fFuncs.length + k : Nat) : Int), nameI (objAt l i) (((objAt l i).fFuncs.length + k : Nat) : Int), datAt l i k, boundL l i (refsD (datAt l i k))⟩
def fileFuns (l : List ApiObject) (i : Nat) : List ApiFun := (List.range (objAt l i).fFuncs.length).map (mkFun l i)
def fileDats (l : List ApiObject) (i : Nat) : List ApiDat := (List.range (objAt l i).fDatas.length).map (mkDat l i)
def funsTo (l : List ApiObject) (n : Nat) : List ApiFun := ((List.range n).map (fileFuns l)).flatten
def datsTo (l : List ApiObject) (n : Nat) : List ApiDat := ((List.range n).map (fileDats l)).flatten
theorem funsTo_succ (l : List ApiObject) (n : Nat) : funsTo l (n + 1) = funsTo l n ++ fileFuns l n := by unfold funsTo; rw [List.range_succ, List.map_append, List.flatten_append]; simp
theorem datsTo_succ (l : List ApiObject) (n : Nat) : datsTo l (n + 1) = datsTo l n ++ fileDats l n := by unfold datsTo; rw [List.range_succ, List.map_append, List.flatten_append]; simp
theorem funsTo_len (l : List ApiObject) : ∀ n, (funsTo l n).length = sumO true l n
  | 0 => by simp [funsTo, sumO]
  | n + 1 => by
    rw [funsTo_succ, List.length_append, funsTo_len l n]
    cases ho : l[n]? with
    | none =>
      have : l.take (n + 1) = l.take n := by rw [List.take_add_one, ho]; simp
      have h2 : sumO true l (n + 1) = sumO true l n := by unfold sumO; rw [this]
      have h3 : objAt l n = default := by unfold objAt; rw [List.getD_eq_getElem?_getD, ho]; rfl
      rw [h2]; unfold fileFuns; rw [h3]; rfl
    | some o => rw [sumO_succ ho, if_pos rfl]; unfold fileFuns; rw [objAt_eq ho]; simp
theorem datsTo_len (l : List ApiObject) : ∀ n, (datsTo l n).length = sumO false l n
  | 0 => by simp [datsTo, sumO]
  | n + 1 => by
    rw [datsTo_succ, List.length_append, datsTo_len l n]
    cases ho : l[n]? with
    | none =>
      have : l.take (n + 1) = l.take n := by rw [List.take_add_one, ho]; simp
      have h2 : sumO false l (n + 1) = sumO false l n := by unfold sumO; rw [this]
      have h3 : objAt l n = default := by unfold objAt; rw [List.getD_eq_getElem?_getD, ho]; rfl
      rw [h2]; unfold fileDats; rw [h3]; rfl
    | some o => rw [sumO_succ ho, if_neg (by simp)]; unfold fileDats; rw [objAt_eq ho]; simp
noncomputable def badB (o : ApiObject) : Bool := decide (objE o ≠ 0)
noncomputable def bindR (l : List ApiObject) (s : ByteArray) : Int × Int × Int :=
  if l.length = 0 ∨ 6 < l.length then (19, -1, -1) else
  if 0 ≤ idxI badB l then (objE (objAt l (idxI badB l).toNat), idxI badB l, objI (objAt l (idxI badB l).toNat)) else
  if (chk23 l).1 ≠ 0 then chk23 l else
  if (fnd l s).2.2 = false ∨ (symOf l (fnd l s).1 (fnd l s).2.1).fSort ≠ 1 ∨ 1 < (symOf l (fnd l s).1 (fnd l s).2.1).fKind then (15, -1, -1) else (0, 0, 0)
noncomputable def bindP (l : List ApiObject) (s : ByteArray) : ApiProgram := if (bindR l s).1 = 0 then ⟨funsTo l l.length, datsTo l l.length, numberF l (fnd l s).1 (fnd l s).2.1⟩ else ⟨[], [], 0⟩
theorem fI_at {l : List ApiObject} {p : Nat → Nat → Bool} (h : 0 ≤ fI l p) : ∃ i k : Nat, fI l p = (i : Int) ∧ fK l p = (k : Int) ∧ p i k = true := by
  obtain ⟨i, x, hi, hx, hr⟩ := idxI_at (show 0 ≤ idxI (rowP l p) (List.range l.length) from h)
  obtain ⟨hxl, rfl⟩ := List.getElem?_eq_some_iff.1 hx
  rw [List.getElem_range] at hr
  have h2 : 0 ≤ idxI (p i) (List.range (symsAt l (i : Int)).length) := idxI_iff.2 hr
  obtain ⟨k, y, hk, hy, hp⟩ := idxI_at h2
  obtain ⟨hyl, rfl⟩ := List.getElem?_eq_some_iff.1 hy
  rw [List.getElem_range] at hp
  have hf : fI l p = (i : Int) := hi
  refine ⟨i, k, hf, ?_, hp⟩
  unfold fK
  rw [hf, Int.toNat_natCast]
  exact hk
theorem bnd_ok {l : List ApiObject} (h : (chk23 l).1 = 0) {i k : Nat} {o : ApiObject} {x : ApiSymbol} (ho : l[i]? = some o) (hx : o.fSymbols[k]? = some x) : ∃ (i2 k2 : Nat) (o2 : ApiObject) (y : ApiSymbol), bndF l i k = ((i2 : Int), (k2 : Int), 0) ∧ l[i2]? = some o2 ∧ o2.fSymbols[k2]? = some y ∧ y.fDef ≠ -1 ∧ y.fSort = x.fSort ∧ y.fKind = x.fKind := by
  have h0 : (bndF l i k).2.2 = 0 := by
    unfold chk23 at h
    split at h
    · exact absurd h (by decide)
    · split at h
      · exact absurd (show (12 : Int) = 0 from h) (by decide)
      · split at h
        · next h1 =>
          obtain ⟨i3, k3, e1, e2, hp⟩ := fI_at h1
          rw [e1, e2] at h
          unfold unP at hp
          exact absurd h (of_decide_eq_true hp)
        · next h1 =>
          have := fI_all (show fI l (unP l) < 0 by omega) ho (List.getElem?_eq_some_iff.1 hx).1
          unfold unP at this
          simpa using this
  have hil := (List.getElem?_eq_some_iff.1 ho).1
  have hkl := (List.getElem?_eq_some_iff.1 hx).1
  have hin : ¬ ((i : Int) < 0 ∨ (l.length : Int) ≤ (i : Int) ∨ (k : Int) < 0 ∨ ((symsAt l (i : Int)).length : Int) ≤ (k : Int)) := by rw [symsAt_eq ho]; omega
  have hso := symOf_eq ho hx
  unfold bndF at h0 ⊢
  rw [if_neg hin, hso] at h0 ⊢
  by_cases hd : x.fDef ≠ -1
  · rw [if_pos hd] at h0 ⊢
    exact ⟨i, k, o, x, rfl, ho, hx, hd, rfl, rfl⟩
  · rw [if_neg hd] at h0 ⊢
    by_cases hf : (fnd l x.fName).2.2 = false
    · rw [if_pos hf] at h0; exact absurd h0 (by decide)
    · rw [if_neg hf] at h0 ⊢
      obtain ⟨i2, k2, o2, y, hfe, ho2, hy, hgy⟩ := fnd_some (show (fnd l x.fName).2.2 = true by simpa using hf)
      rw [hfe] at h0 ⊢
      dsimp only at h0 ⊢
      rw [symOf_eq ho2 hy] at h0 ⊢
      by_cases hne : y.fSort ≠ x.fSort ∨ y.fKind ≠ x.fKind
      · rw [if_pos hne] at h0; exact absurd h0 (by decide)
      · rw [if_neg hne]
        unfold isG at hgy
        simp only [Bool.and_eq_true, decide_eq_true_eq] at hgy
        exact ⟨i2, k2, o2, y, rfl, ho2, hy, hgy.1.2, by omega, by omega⟩
theorem obj_zero {o : ApiObject} (h : objE o = 0) : ¬ manyO o ∧ (∀ i, i < o.fSymbols.length → symE o i = 0) ∧ ∀ i, i < o.fFuncs.length + o.fDatas.length → itemE o i = 0 := by
  unfold objE at h
  split at h
  · exact absurd h (by decide)
  · next hm =>
    split at h
    · next h1 => exact absurd h h1
    · next h1 =>
      refine ⟨hm, fun i hi => ?_, fun i hi => ?_⟩
      · exact fstE_zero.1 (Classical.not_not.1 h1) _ (List.mem_map.2 ⟨i, List.mem_range.2 hi, rfl⟩)
      · exact fstE_zero.1 h _ (List.mem_map.2 ⟨i, List.mem_range.2 hi, rfl⟩)
theorem sym_zero {o : ApiObject} {i : Nat} {x : ApiSymbol} (h : symE o i = 0) (hx : o.fSymbols[i]? = some x) : x.fDef = -1 ∨ (0 ≤ x.fDef ∧ x.fDef < (mostN o x : Int)) := by
  rw [symE_at hx] at h
  unfold symX at h
  split at h
  · next h1 => exact absurd h h1
  · split at h
    · exact absurd h (by decide)
    · split at h
      · exact absurd h (by decide)
      · split at h
        · exact absurd h (by decide)
        · next h1 => omega
theorem item_fun {o : ApiObject} {i : Nat} {f : ApiFunc} (h : itemE o i = 0) (hf : o.fFuncs[i]? = some f) : 0 ≤ definerF o (i : Int) ∧ f.fClass = dKind o i ∧ chkE f o.fSymbols = 0 ∧ rangeF f = 0 := by
  have hfg : o.fFuncs.getD i default = f := by rw [List.getD_eq_getElem?_getD, hf]; rfl
  have hil := (List.getElem?_eq_some_iff.1 hf).1
  unfold itemE at h
  split at h
  · exact absurd h (by decide)
  · next h1 =>
    rw [if_neg (by omega), hfg] at h
    split at h
    · exact absurd h (by decide)
    · next h2 =>
      unfold funE at h
      split at h
      · next h3 => exact absurd h h3
      · next h3 => exact ⟨by omega, Classical.not_not.1 h2, Classical.not_not.1 h3, h⟩
theorem item_dat {o : ApiObject} {k : Nat} {d : ApiData} (h : itemE o (o.fFuncs.length + k) = 0) (hd : o.fDatas[k]? = some d) : 0 ≤ definerF o ((o.fFuncs.length + k : Nat) : Int) ∧ d.fKind = dKind o (o.fFuncs.length + k) ∧ dataF d o.fSymbols = 0 := by
  have hdg : o.fDatas.getD (o.fFuncs.length + k - o.fFuncs.length) default = d := by rw [show o.fFuncs.length + k - o.fFuncs.length = k by omega, List.getD_eq_getElem?_getD, hd]; rfl
  unfold itemE at h
  split at h
  · exact absurd h (by decide)
  · next h1 =>
    rw [if_pos (by omega), hdg] at h
    split at h
    · exact absurd h (by decide)
    · next h2 => exact ⟨by omega, Classical.not_not.1 h2, h⟩
theorem ref_zero {f : ApiFunc} {l : List ApiSymbol} (h : chkE f l = 0) {j : Nat} (hj : j < f.fCode.length) : refE f l (j : Int) = 0 := by
  unfold chkE at h
  split at h
  · next h1 => exact absurd h h1
  · have hi : instrF f l (j : Int) = 0 := fstE_zero.1 h _ (List.mem_map.2 ⟨j, List.mem_range.2 hj, rfl⟩)
    unfold instrF at hi
    rw [if_neg (by omega)] at hi
    split at hi
    · next h2 => exact absurd hi h2
    · next h2 => exact Classical.not_not.1 h2
theorem sym_in {f : ApiFunc} {l : List ApiSymbol} (h : chkE f l = 0) {j : Nat} (hj : j < f.fCode.length) (hs : 0 ≤ symF f (j : Int)) : symF f (j : Int) < (l.length : Int) := by
  have hr := ref_zero h hj
  unfold refE at hr
  split at hr
  · next h1 =>
    have : symF f (j : Int) = -1 := by unfold symF; rw [if_pos h1.2]
    omega
  · split at hr
    · exact absurd hr (by decide)
    · next h1 => omega
theorem syms_in {f : ApiFunc} {l : List ApiSymbol} (h : chkE f l = 0) : ∀ s ∈ symsF f, 0 ≤ s → s < (l.length : Int) := by
  intro s hs h0
  obtain ⟨j, hj, rfl⟩ := List.mem_map.1 hs
  exact sym_in h (List.mem_range.1 hj) h0
theorem refs_in {d : ApiData} {l : List ApiSymbol} (h : dataF d l = 0) : ∀ s ∈ refsD d, 0 ≤ s → s < (l.length : Int) := by
  intro s hs h0
  obtain ⟨m, hm, rfl⟩ := List.mem_map.1 hs
  obtain ⟨i, hi, rfl⟩ := List.mem_map.1 hm
  unfold refD at h0 ⊢
  split at h0
  · next h1 =>
    rw [if_pos h1]
    obtain ⟨k, x, hk, hx, hp⟩ := idxI_at h1
    rw [hk, Int.toNat_natCast, List.getD_eq_getElem?_getD, hx] at h0 ⊢
    have hkl := (List.getElem?_eq_some_iff.1 hx).1
    unfold dataF at h
    split at h
    · exact absurd h (by decide)
    · split at h
      · exact absurd h (by decide)
      · split at h
        · exact absurd h (by decide)
        · have hr : relE d l k = 0 := fstE_zero.1 h _ (List.mem_map.2 ⟨k, List.mem_range.2 hkl, rfl⟩)
          rw [relE_at hx] at hr
          unfold dRelE at hr
          split at hr
          · exact absurd hr (by decide)
          · next h2 =>
            show x.fSym < _
            omega
  · omega
structure OkL (l : List ApiObject) : Prop where
  few : FewO l
  objs : ∀ o ∈ l, objE o = 0
  chk : (chk23 l).1 = 0
abbrev BndOk (l : List ApiObject) (i k : Nat) : Prop := ∃ (i2 k2 : Nat) (o2 : ApiObject) (y : ApiSymbol), bndF l i k = ((i2 : Int), (k2 : Int), 0) ∧ l[i2]? = some o2 ∧ o2.fSymbols[k2]? = some y ∧ 0 ≤ y.fDef ∧ y.fDef < (mostN o2 y : Int)
theorem OkL.bnd {l : List ApiObject} (h : OkL l) {i k : Nat} {o : ApiObject} (ho : l[i]? = some o) (hk : k < o.fSymbols.length) : BndOk l i k := by
  obtain ⟨i2, k2, o2, y, e, ho2, hy, hd, _, _⟩ := bnd_ok h.chk ho (List.getElem?_eq_getElem hk)
  have h1 := (obj_zero (h.objs o2 (List.mem_of_getElem? ho2))).2.1 k2 (List.getElem?_eq_some_iff.1 hy).1
  rcases sym_zero h1 hy with h2 | h2
  · exact absurd h2 hd
  · exact ⟨i2, k2, o2, y, e, ho2, hy, h2.1, h2.2⟩
theorem most_le {l : List ApiObject} (h : FewO l) {o : ApiObject} (ho : o ∈ l) (y : ApiSymbol) : mostN o y ≤ 20 := by
  unfold mostN
  have h1 := h.funcs o ho
  have h2 := h.datas o ho
  split <;> omega
theorem OkL.syms {l : List ApiObject} (h : OkL l) {i : Nat} {o : ApiObject} (ho : l[i]? = some o) {syms : List Int} (hs : ∀ s ∈ syms, 0 ≤ s → s < (o.fSymbols.length : Int)) : ∀ s ∈ syms, ∀ k : Nat, s = (k : Int) → BndOk l i k := by
  rintro s hm k rfl
  have := hs _ hm (by omega)
  exact h.bnd ho (by omega)
end Go.Proofs.YtogaiijhicfoaaaGreatW
