/-
  Heaps in arrays, plainly: exchanges, and what sifting up and down keeps.
-/
import Derived.Test.YtnidmlngkpkmlaaKa
namespace Go.Proofs.YtnidmlngkpkmlaaQ
set_option linter.unusedVariables false
set_option linter.unusedSimpArgs false

def sw (a : Nat → Nat) (i j k : Nat) : Nat := if k = i then a j else if k = j then a i else a k
section
variable (lt : Nat → Nat → Prop)
def HeapN (a : Nat → Nat) (n : Nat) : Prop := ∀ k, 0 < k → k < n → ¬ lt (a k) (a ((k - 1) / 2))
def UpInv (a : Nat → Nat) (n j : Nat) : Prop :=
  (∀ k, 0 < k → k < n → k ≠ j → ¬ lt (a k) (a ((k - 1) / 2))) ∧ (∀ k, 0 < k → k < n → (k - 1) / 2 = j → 0 < j → ¬ lt (a k) (a ((j - 1) / 2)))
def DownInv (a : Nat → Nat) (n i i0 : Nat) : Prop :=
  (∀ k, 0 < k → k < n → k ≠ i → (k - 1) / 2 ≠ i → ¬ lt (a k) (a ((k - 1) / 2))) ∧ (∀ k, 0 < k → k < n → (k - 1) / 2 = i → 0 < i → ¬ lt (a k) (a ((i - 1) / 2))) ∧
  (i0 < i → ¬ lt (a i) (a ((i - 1) / 2))) ∧ i0 ≤ i
variable {lt} (asy : ∀ a b, lt a b → ¬ lt b a) (tr : ∀ a b c, ¬ lt b a → ¬ lt c b → ¬ lt c a)
include asy tr
theorem up_step {a : Nat → Nat} {n j : Nat} (h : UpInv lt a n j) (h0 : 0 < j) (hj : j < n) (hl : lt (a j) (a ((j - 1) / 2))) : UpInv lt (sw a ((j - 1) / 2) j) n ((j - 1) / 2) := by
  obtain ⟨h1, h2⟩ := h
  generalize hp : (j - 1) / 2 = p at *
  have hpj : p < j := by omega
  have hpn : ¬ lt (a p) (a j) := asy _ _ hl
  refine ⟨fun k k0 kn kp => ?_, fun k k0 kn kp p0 => ?_⟩
  · by_cases kj : k = j
    · subst kj
      have e1 : sw a p k k = a p := by unfold sw; rw [if_neg (by omega), if_pos rfl]
      have e2 : sw a p k ((k - 1) / 2) = a k := by unfold sw; rw [if_pos hp]
      rw [e1, e2]; exact hpn
    · have e1 : sw a p j k = a k := by unfold sw; rw [if_neg kp, if_neg kj]
      rw [e1]
      by_cases q1 : (k - 1) / 2 = p
      · have e2 : sw a p j ((k - 1) / 2) = a j := by unfold sw; rw [if_pos q1]
        rw [e2]
        have := h1 k k0 kn kj
        rw [q1] at this
        exact tr _ _ _ hpn this
      · by_cases q2 : (k - 1) / 2 = j
        · have e2 : sw a p j ((k - 1) / 2) = a p := by unfold sw; rw [if_neg q1, if_pos q2]
          rw [e2]; exact h2 k k0 kn q2 h0
        · have e2 : sw a p j ((k - 1) / 2) = a ((k - 1) / 2) := by unfold sw; rw [if_neg q1, if_neg q2]
          rw [e2]; exact h1 k k0 kn kj
  · have e2 : sw a p j ((p - 1) / 2) = a ((p - 1) / 2) := by unfold sw; rw [if_neg (by omega), if_neg (by omega)]
    have hpp := h1 p p0 (by omega) (by omega)
    rw [e2]
    by_cases kj : k = j
    · subst kj
      have e1 : sw a p k k = a p := by unfold sw; rw [if_neg (by omega), if_pos rfl]
      rw [e1]; exact hpp
    · have e1 : sw a p j k = a k := by unfold sw; rw [if_neg (by omega), if_neg kj]
      rw [e1]
      have := h1 k k0 kn kj
      rw [kp] at this
      exact tr _ _ _ hpp this
omit asy tr in
theorem up_end {a : Nat → Nat} {n j : Nat} (h : UpInv lt a n j) (hj : j = 0 ∨ ¬ lt (a j) (a ((j - 1) / 2))) : HeapN lt a n := by
  intro k k0 kn
  by_cases kj : k = j
  · subst kj
    rcases hj with h | h
    · omega
    · exact h
  · exact h.1 k k0 kn kj
omit tr in
theorem down_step {a : Nat → Nat} {n i j i0 : Nat} (h : DownInv lt a n i i0) (h0 : 0 < j) (hj : j < n) (hp : (j - 1) / 2 = i) (hs : ∀ k, 0 < k → k < n → (k - 1) / 2 = i → ¬ lt (a k) (a j)) (hl : lt (a j) (a i)) : DownInv lt (sw a i j) n j i0 := by
  obtain ⟨h1, h2, h3, h4⟩ := h
  have hij : i < j := by omega
  refine ⟨fun k k0 kn kj kp => ?_, fun k k0 kn kp j0 => ?_, fun _ => ?_, by omega⟩
  · by_cases ki : k = i
    · subst ki
      have e1 : sw a k j k = a j := by unfold sw; rw [if_pos rfl]
      have e2 : sw a k j ((k - 1) / 2) = a ((k - 1) / 2) := by unfold sw; rw [if_neg (by omega), if_neg (by omega)]
      rw [e1, e2]; exact h2 j h0 hj hp k0
    · have e1 : sw a i j k = a k := by unfold sw; rw [if_neg ki, if_neg kj]
      rw [e1]
      by_cases q1 : (k - 1) / 2 = i
      · have e2 : sw a i j ((k - 1) / 2) = a j := by unfold sw; rw [if_pos q1]
        rw [e2]; exact hs k k0 kn q1
      · have e2 : sw a i j ((k - 1) / 2) = a ((k - 1) / 2) := by unfold sw; rw [if_neg q1, if_neg kp]
        rw [e2]; exact h1 k k0 kn ki q1
  · have e1 : sw a i j k = a k := by unfold sw; rw [if_neg (by omega), if_neg (by omega)]
    have e2 : sw a i j ((j - 1) / 2) = a j := by unfold sw; rw [if_pos hp]
    rw [e1, e2]
    have := h1 k k0 kn (by omega) (by omega)
    rw [kp] at this; exact this
  · have e1 : sw a i j j = a i := by unfold sw; rw [if_neg (by omega), if_pos rfl]
    have e2 : sw a i j ((j - 1) / 2) = a j := by unfold sw; rw [if_pos hp]
    rw [e1, e2]; exact asy _ _ hl
omit asy tr in
theorem down_end {a : Nat → Nat} {n i i0 : Nat} (h : DownInv lt a n i i0) (hs : ∀ k, 0 < k → k < n → (k - 1) / 2 = i → ¬ lt (a k) (a i)) : (i0 < i ∨ i = 0 → HeapN lt a n) ∧ UpInv lt a n i := by
  obtain ⟨h1, h2, h3, h4⟩ := h
  have hup : UpInv lt a n i := ⟨fun k k0 kn ki => by
    by_cases q : (k - 1) / 2 = i
    · have := hs k k0 kn q; rw [q]; exact this
    · exact h1 k k0 kn ki q, h2⟩
  refine ⟨fun hi => up_end hup ?_, hup⟩
  rcases hi with hi | hi
  · exact .inr (h3 hi)
  · exact .inl hi
end
/-- What was a heap, with another thing at i. -/
theorem heap_at {lt : Nat → Nat → Prop} (tr : ∀ a b c, ¬ lt b a → ¬ lt c b → ¬ lt c a) {a b : Nat → Nat} {n m i : Nat} (h : HeapN lt a m) (hn : n ≤ m) (hi : i < m) (hb : ∀ k, k < n → k ≠ i → b k = a k) : DownInv lt b n i i := by
  refine ⟨fun k k0 kn ki kp => ?_, fun k k0 kn kp i0 => ?_, fun h => absurd h (by omega), Nat.le_refl _⟩
  · rw [hb k kn ki, hb _ (by omega) kp]; exact h k k0 (by omega)
  · rw [hb k kn (by omega), hb _ (by omega) (by omega)]
    have h1 := h k k0 (by omega)
    rw [kp] at h1
    exact tr _ _ _ (h i i0 hi) h1
theorem heap_less {lt : Nat → Nat → Prop} {a : Nat → Nat} {n m : Nat} (h : HeapN lt a m) (hn : n ≤ m) : HeapN lt a n := fun k k0 kn => h k k0 (by omega)
theorem heap_congr {lt : Nat → Nat → Prop} {a b : Nat → Nat} {n : Nat} (h : HeapN lt a n) (hb : ∀ k, k < n → b k = a k) : HeapN lt b n := fun k k0 kn => by rw [hb k kn, hb _ (by omega)]; exact h k k0 kn
/-- The first one is a least one. -/
theorem heap_least {lt : Nat → Nat → Prop} (tr : ∀ a b c, ¬ lt b a → ¬ lt c b → ¬ lt c a) (ir : ∀ a, ¬ lt a a) {a : Nat → Nat} {n : Nat} (h : HeapN lt a n) : ∀ k, k < n → ¬ lt (a k) (a 0) := by
  intro k
  induction k using Nat.strongRecOn with
  | _ k ih =>
    intro hk
    by_cases k0 : k = 0
    · subst k0; exact ir _
    · exact tr _ _ _ (ih ((k - 1) / 2) (by omega) (by omega)) (h k (by omega) hk)

/-! ### exchanges in lists -/
def at_ (l : List Nat) (k : Nat) : Nat := l.getD k 0
def swp (l : List Nat) (i j : Nat) : List Nat := (l.set i (at_ l j)).set j (at_ l i)
theorem at_some {l : List Nat} {k b : Nat} (h : l[k]? = some b) : at_ l k = b := by unfold at_; rw [List.getD_eq_getElem?_getD, h]; rfl
theorem get_at {l : List Nat} {k : Nat} (h : k < l.length) : l[k]? = some (at_ l k) := by unfold at_; rw [List.getD_eq_getElem?_getD, List.getElem?_eq_getElem h]; rfl
theorem swp_length (l : List Nat) (i j : Nat) : (swp l i j).length = l.length := by simp [swp]
theorem swp_get {l : List Nat} {i j k : Nat} (hi : i < l.length) (hj : j < l.length) : (swp l i j)[k]? = if k = i then l[j]? else if k = j then l[i]? else l[k]? := by
  unfold swp
  rw [List.getElem?_set, List.getElem?_set, get_at hi, get_at hj]
  by_cases h1 : j = k
  · subst h1
    by_cases h2 : j = i
    · subst h2; simp [hi]
    · simp [hj, h2]
  · rw [if_neg h1]
    by_cases h2 : i = k
    · subst h2; simp [hi]
    · rw [if_neg h2, if_neg (Ne.symm h2), if_neg (Ne.symm h1)]
theorem swp_at {l : List Nat} {i j : Nat} (hi : i < l.length) (hj : j < l.length) (k : Nat) : at_ (swp l i j) k = sw (at_ l) i j k := by
  unfold at_ sw
  rw [List.getD_eq_getElem?_getD, swp_get hi hj]
  split
  · simp [List.getD_eq_getElem?_getD]
  · split <;> simp [List.getD_eq_getElem?_getD]
theorem swp_perm {l : List Nat} {i j : Nat} (hi : i < l.length) (hj : j < l.length) : (swp l i j).Perm l := by
  rw [List.perm_iff_count]
  intro b
  unfold swp
  rw [List.count_set (by simpa using hj), List.count_set hi, List.getElem_set]
  have e1 : at_ l i = l[i] := by have := get_at hi; rw [List.getElem?_eq_getElem hi] at this; exact (Option.some.inj this).symm
  have e2 : at_ l j = l[j] := by have := get_at hj; rw [List.getElem?_eq_getElem hj] at this; exact (Option.some.inj this).symm
  rw [e1, e2]
  have c1 : l[i] = b → 0 < List.count b l := fun h => List.count_pos_iff.2 (h ▸ List.getElem_mem hi)
  generalize List.count b l = n at *
  by_cases hij : i = j
  · subst hij
    simp only [if_true]
    by_cases ha : l[i] = b
    · have := c1 ha; simp [ha]; omega
    · simp [ha]
  · rw [if_neg hij]
    by_cases ha : l[i] = b <;> by_cases hb : l[j] = b
    · have := c1 ha; simp [ha, hb]; omega
    · have := c1 ha; simp [ha, hb]; omega
    · simp [ha, hb]
    · simp [ha, hb]
end Go.Proofs.YtnidmlngkpkmlaaQ
