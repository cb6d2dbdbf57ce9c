import Derived.Test.YtcacohoanlljhaaGt

/-
  How deep ways go, plainly.
-/
namespace Go.Proofs.YtcacohoanlljhaaG
set_option linter.unusedVariables false
set_option linter.unusedSimpArgs false
open Go.RowKit Go.Proofs.YtcacohoanlljhaaK Go.Proofs.YtcacohoanlljhaaT Go.Proofs.YtcacohoanlljhaaL

def nearF (n lo hi : Int) : Int := if n < lo then lo else if hi < n then hi else n
def nr (n : Int) : Int := nearF n 0 1048576
theorem nr_ge (n : Int) : 0 ≤ nr n ∧ nr n ≤ 1048576 := by unfold nr nearF; split <;> (try split) <;> omega
def maxI (a b : Int) : Int := if a < b then b else a
def minI (a b : Int) : Int := if b < a then b else a
/-- The greatest of numbers, and 0. -/
def mx (L : List Int) : Int := L.foldl maxI 0
theorem fold_le {L : List Int} : ∀ {a z : Int}, L.foldl maxI a ≤ z ↔ a ≤ z ∧ ∀ x ∈ L, x ≤ z := by
  induction L with
  | nil => intro a z; simp
  | cons x L ih =>
    intro a z
    rw [List.foldl_cons, ih]
    constructor
    · rintro ⟨h1, h2⟩
      unfold maxI at h1
      refine ⟨by split at h1 <;> omega, fun y hy => ?_⟩
      rcases List.mem_cons.1 hy with rfl | hy
      · split at h1 <;> omega
      · exact h2 y hy
    · rintro ⟨h1, h2⟩
      have := h2 x List.mem_cons_self
      exact ⟨by unfold maxI; split <;> omega, fun y hy => h2 y (List.mem_cons_of_mem _ hy)⟩
theorem mx_le {L : List Int} {z : Int} : mx L ≤ z ↔ 0 ≤ z ∧ ∀ x ∈ L, x ≤ z := fold_le
theorem mx_ge (L : List Int) : 0 ≤ mx L ∧ ∀ x ∈ L, x ≤ mx L := mx_le.1 (Int.le_refl _)
theorem mx_ext {L L' : List Int} (h : ∀ x, x ∈ L ↔ x ∈ L') : mx L = mx L' := by
  apply Int.le_antisymm
  · exact mx_le.2 ⟨(mx_ge L').1, fun x hx => (mx_ge L').2 x ((h x).1 hx)⟩
  · exact mx_le.2 ⟨(mx_ge L).1, fun x hx => (mx_ge L).2 x ((h x).2 hx)⟩
theorem mx_snoc (L : List Int) (x : Int) : mx (L ++ [x]) = maxI (mx L) x := by unfold mx; rw [List.foldl_append]; rfl
theorem mx_cases (L : List Int) : mx L = 0 ∨ mx L ∈ L := by
  unfold mx
  have : ∀ (L : List Int) (a : Int), L.foldl maxI a = a ∨ L.foldl maxI a ∈ L := by
    intro L
    induction L with
    | nil => intro a; left; rfl
    | cons x L ih =>
      intro a
      rw [List.foldl_cons]
      rcases ih (maxI a x) with h | h
      · rw [h]
        unfold maxI
        split
        · right; exact List.mem_cons_self
        · left; rfl
      · right; exact List.mem_cons_of_mem _ h
  exact this L 0
/-! ### rounds -/
section
variable (g : Graph) (ib : List Bool) (own : List Int) (rest step : Int)
def costs (last : List Int) (L : List Int) : List Int := L.map fun b => nr step + last.getD b.toNat 0
def addO (a : Nat) (m : Int) : Int := if a < own.length then m + nr (own.getD a 0) else m
def cell (last : List Int) (a : Nat) : Int := if memF g ib (a : Int) then minI (addO own a (mx (costs step last (endsOf g a)))) 1099511627776 else nr rest
def rnd (last : List Int) : List Int := (List.range g.length).map (cell g ib own rest step last)
def rnds : Nat → List Int
  | 0 => List.replicate g.length 0
  | k + 1 => rnd g ib own rest step (rnds k)
def DL : List Int := rnds g ib own rest step (g.length + 1)
theorem rnd_len (last : List Int) : (rnd g ib own rest step last).length = g.length := by simp [rnd]
theorem rnds_len : ∀ k, (rnds g ib own rest step k).length = g.length
  | 0 => by simp [rnds]
  | k + 1 => rnd_len _ _ _ _ _ _
variable {g ib own rest step}
theorem rnd_at {last : List Int} {a : Nat} (h : a < g.length) : (rnd g ib own rest step last).getD a 0 = cell g ib own rest step last a := by
  rw [List.getD_eq_getElem?_getD]; simp [rnd, h]
theorem minI_le (a b : Int) : minI a b ≤ b := by unfold minI; split <;> omega
theorem costs_congr {last last' : List Int} {L : List Int} (h : ∀ b ∈ L, last.getD b.toNat 0 = last'.getD b.toNat 0) : costs step last L = costs step last' L := List.map_congr_left (fun b hb => by rw [h b hb])
def InD (l : List Int) : Prop := ∀ a, 0 ≤ l.getD a 0 ∧ l.getD a 0 ≤ 1099511627776
theorem cell_in {last : List Int} (h : InD last) (a : Nat) : 0 ≤ cell g ib own rest step last a ∧ cell g ib own rest step last a ≤ 1099511627776 := by
  unfold cell
  split
  · have h1 := (mx_ge (costs step last (endsOf g a))).1
    have h2 : 0 ≤ addO own a (mx (costs step last (endsOf g a))) := by
      unfold addO
      have := nr_ge (own.getD a 0)
      split <;> omega
    exact ⟨by unfold minI; split <;> omega, minI_le _ _⟩
  · have := nr_ge rest; omega
theorem rnds_in : ∀ k, InD (rnds g ib own rest step k)
  | 0 => fun a => by
    unfold rnds
    rw [List.getD_eq_getElem?_getD, List.getElem?_replicate]
    split <;> simp
  | k + 1 => fun a => by
    by_cases h : a < g.length
    · show 0 ≤ (rnd g ib own rest step (rnds g ib own rest step k)).getD a 0 ∧ _ ≤ _
      rw [show (rnds g ib own rest step (k + 1)).getD a 0 = cell g ib own rest step (rnds g ib own rest step k) a from rnd_at h, rnd_at h]
      exact cell_in (rnds_in k) a
    · rw [List.getD_eq_getElem?_getD, List.getElem?_eq_none (by rw [rnds_len]; omega)]; simp
theorem ends_nat {b : Int} {a : Nat} (h : b ∈ endsOf g a) : ∃ c : Nat, b = (c : Int) ∧ c < g.length := by
  obtain ⟨h1, h2⟩ := inG_iff.1 (ends_in h)
  obtain ⟨c, rfl⟩ := Int.eq_ofNat_of_zero_le h1
  exact ⟨c, rfl, by omega⟩
theorem ends_edge {a c : Nat} (ha : a < g.length) (hma : memF g ib (a : Int) = true) (h : (c : Int) ∈ endsOf g a) (hmc : memF g ib (c : Int) = true) : edE g ib a c = true := by
  obtain ⟨h1, h2⟩ := inG_iff.1 (ends_in h)
  exact edE_iff.2 ⟨ha, by omega, (List.mem_filter.1 h).1, hma, hmc⟩
/-- Without a circle the last round turns nothing. -/
theorem rnds_fix (hok : okO g ib = true) : ∀ a, a < g.length → ∀ k, (seqN g ib).length + 1 ≤ k → (rnds g ib own rest step (k + 1)).getD a 0 = (rnds g ib own rest step k).getD a 0 := by
  have hnon : ∀ a, a < g.length → memF g ib (a : Int) = false → ∀ k, 1 ≤ k → (rnds g ib own rest step k).getD a 0 = nr rest := by
    intro a ha hm k hk
    cases k with
    | zero => omega
    | succ k =>
      rw [show (rnds g ib own rest step (k + 1)).getD a 0 = cell g ib own rest step (rnds g ib own rest step k) a from rnd_at ha]
      unfold cell; rw [hm]; rfl
  have hmem : ∀ r a, a < g.length → memF g ib (a : Int) = true → (seqN g ib).length - (seqN g ib).idxOf a ≤ r → ∀ k, r + 1 ≤ k → (rnds g ib own rest step (k + 1)).getD a 0 = (rnds g ib own rest step k).getD a 0 := by
    intro r
    induction r with
    | zero =>
      intro a ha hm hr
      have := List.idxOf_lt_length_iff.2 (seq_all hok hm)
      omega
    | succ r ih =>
      intro a ha hm hr k hk
      cases k with
      | zero => omega
      | succ k =>
        rw [show (rnds g ib own rest step (k + 1 + 1)).getD a 0 = cell g ib own rest step (rnds g ib own rest step (k + 1)) a from rnd_at ha, show (rnds g ib own rest step (k + 1)).getD a 0 = cell g ib own rest step (rnds g ib own rest step k) a from rnd_at ha]
        unfold cell
        rw [hm, if_pos rfl, if_pos rfl]
        rw [costs_congr (last := rnds g ib own rest step (k + 1)) (last' := rnds g ib own rest step k)]
        intro b hb
        obtain ⟨c, rfl, hc⟩ := ends_nat hb
        rw [Int.toNat_natCast]
        cases hmc : memF g ib (c : Int) with
        | false => rw [hnon c hc hmc _ (by omega), hnon c hc hmc _ (by omega)]
        | true =>
          have hlt := seq_on (ends_edge ha hm hb hmc) (seq_all hok hmc)
          have := List.idxOf_lt_length_iff.2 (seq_all hok hmc)
          exact ih c hc hmc (by omega) k (by omega)
  intro a ha k hk
  cases hm : memF g ib (a : Int) with
  | false => rw [hnon a ha hm _ (by omega), hnon a ha hm _ (by omega)]
  | true => exact hmem _ a ha hm (Nat.le_refl _) k (by omega)
theorem seq_len (g : Graph) (ib : List Bool) : (seqN g ib).length ≤ g.length := by
  obtain ⟨left, hr, hn⟩ := gr_run (edE g ib) (memL g ib)
  rw [← seq_edE] at hr
  have h1 := hr.len
  have h2 := trues_le (memL g ib)
  rw [memL_len] at h2
  omega
theorem DL_fix (hok : okO g ib = true) {a : Nat} (ha : a < g.length) : (DL g ib own rest step).getD a 0 = cell g ib own rest step (DL g ib own rest step) a := by
  have h := rnds_fix (own := own) (rest := rest) (step := step) hok a ha (g.length + 1) (by have := seq_len g ib; omega)
  unfold DL
  rw [← h]
  exact rnd_at ha
theorem DL_len : (DL g ib own rest step).length = g.length := rnds_len _ _ _ _ _ _
theorem DL_in : InD (DL g ib own rest step) := rnds_in _
/-! ### backward, once -/
/-- What is deep already, of those behind place i of the order. -/
def dpc (D : List Int) (rest : Int) (i a : Nat) : Int := if memF g ib (a : Int) && decide ((seqN g ib).idxOf a < i) then nr rest else D.getD a 0
def dpL (g : Graph) (ib : List Bool) (D : List Int) (rest : Int) (i : Nat) : List Int := (List.range g.length).map (dpc (g := g) (ib := ib) D rest i)
theorem dpL_len (D : List Int) (i : Nat) : (dpL g ib D rest i).length = g.length := by simp [dpL]
theorem dpL_at {D : List Int} {i a : Nat} (h : a < g.length) : (dpL g ib D rest i)[a]? = some (dpc (g := g) (ib := ib) D rest i a) := by simp [dpL, h]
theorem dpL_getD {D : List Int} {i a : Nat} (h : a < g.length) : (dpL g ib D rest i).getD a 0 = dpc (g := g) (ib := ib) D rest i a := getD_at (dpL_at h)
theorem dpL_start (hok : okO g ib = true) : dpL g ib (DL g ib own rest step) rest (seqN g ib).length = List.replicate g.length (nr rest) := by
  apply List.ext_getElem?
  intro a
  by_cases ha : a < g.length
  · rw [dpL_at ha, List.getElem?_replicate, if_pos ha]
    unfold dpc
    cases hm : memF g ib (a : Int) with
    | true => rw [decide_eq_true (List.idxOf_lt_length_iff.2 (seq_all hok hm))]; rfl
    | false =>
      rw [DL_fix hok ha]
      unfold cell
      rw [hm]; rfl
  · rw [List.getElem?_eq_none (by rw [dpL_len]; omega), List.getElem?_eq_none (by simp; omega)]
theorem dpL_zero : dpL g ib (DL g ib own rest step) rest 0 = DL g ib own rest step := by
  apply List.ext_getElem?
  intro a
  by_cases ha : a < g.length
  · rw [dpL_at ha]
    have h1 := List.getElem?_eq_getElem (show a < (DL g ib own rest step).length by rw [DL_len]; exact ha)
    rw [h1]
    unfold dpc
    rw [getD_at h1]
    simp
  · rw [List.getElem?_eq_none (by rw [dpL_len]; omega), List.getElem?_eq_none (by rw [DL_len]; omega)]
theorem seq_idx {i x : Nat} (hx : (seqN g ib)[i]? = some x) : (seqN g ib).idxOf x = i := by
  obtain ⟨hi, rfl⟩ := List.getElem?_eq_some_iff.1 hx
  have h1 : (seqN g ib).idxOf (seqN g ib)[i] < (seqN g ib).length := List.idxOf_lt_length_iff.2 (List.getElem_mem hi)
  have h2 := List.pairwise_iff_getElem.1 (seq_is g ib).nodup
  rcases Nat.lt_trichotomy ((seqN g ib).idxOf (seqN g ib)[i]) i with k | k | k
  · exact absurd (List.getElem_idxOf h1) (h2 _ _ h1 hi k)
  · exact k
  · exact absurd (List.getElem_idxOf h1).symm (h2 _ _ hi h1 k)
theorem dpL_step (hok : okO g ib = true) {i x : Nat} (hx : (seqN g ib)[i]? = some x) :
    (dpL g ib (DL g ib own rest step) rest (i + 1)).set x (minI (addO own x (mx (costs step (dpL g ib (DL g ib own rest step) rest (i + 1)) (endsOf g x)))) 1099511627776) = dpL g ib (DL g ib own rest step) rest i := by
  have hmx := (seq_is g ib).mem x (List.mem_of_getElem? hx)
  have hxi := seq_idx hx
  have hxn : x < g.length := by unfold memF at hmx; simp only [Bool.and_eq_true, decide_eq_true_eq] at hmx; omega
  have hc : costs step (dpL g ib (DL g ib own rest step) rest (i + 1)) (endsOf g x) = costs step (DL g ib own rest step) (endsOf g x) := costs_congr (fun b hb => by
    obtain ⟨c, rfl, hc⟩ := ends_nat hb
    rw [Int.toNat_natCast, dpL_getD hc]
    unfold dpc
    cases hmc : memF g ib (c : Int) with
    | false => rfl
    | true =>
      have := seq_on (ends_edge hxn hmx hb hmc) (seq_all hok hmc)
      rw [decide_eq_false (by omega)]; rfl)
  rw [hc]
  apply List.ext_getElem?
  intro a
  rw [List.getElem?_set, dpL_len]
  by_cases e : x = a
  · subst e
    rw [if_pos rfl, if_pos hxn, dpL_at hxn]
    unfold dpc
    rw [hxi, decide_eq_false (by omega), Bool.and_false, DL_fix hok hxn]
    unfold cell
    rw [hmx]; rfl
  · rw [if_neg e]
    by_cases ha : a < g.length
    · rw [dpL_at ha, dpL_at ha]
      unfold dpc
      cases hma : memF g ib (a : Int) with
      | false => rfl
      | true =>
        have hne : (seqN g ib).idxOf a ≠ i := by
          intro h
          have h1 := List.idxOf_lt_length_iff.2 (seq_all hok hma)
          have h2 := List.getElem_idxOf h1
          obtain ⟨hi, he⟩ := List.getElem?_eq_some_iff.1 hx
          apply e
          rw [← he, ← h2]
          congr 1
          exact h.symm
        have : decide ((seqN g ib).idxOf a < i + 1) = decide ((seqN g ib).idxOf a < i) := decide_eq_decide.2 (by omega)
        rw [this]
    · rw [List.getElem?_eq_none (by rw [dpL_len]; omega), List.getElem?_eq_none (by rw [dpL_len]; omega)]
end
end Go.Proofs.YtcacohoanlljhaaG
