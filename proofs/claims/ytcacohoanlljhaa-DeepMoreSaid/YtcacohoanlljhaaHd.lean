import Derived.Test.YtcacohoanlljhaaHc

/-
  The way that goes deepest, plainly.
-/
namespace Go.Proofs.YtcacohoanlljhaaG
set_option linter.unusedVariables false
set_option linter.unusedSimpArgs false
open Go.RowKit Go.Proofs.YtcacohoanlljhaaK Go.Proofs.YtcacohoanlljhaaT Go.Proofs.YtcacohoanlljhaaL

theorem selTo_mem {p : Nat → Bool} {n : Nat} {x : Int} : x ∈ selTo p n ↔ ∃ c : Nat, x = (c : Int) ∧ c < n ∧ p c = true := by
  unfold selTo
  simp only [List.mem_map, List.mem_filter, List.mem_range]
  constructor
  · rintro ⟨c, ⟨h1, h2⟩, rfl⟩; exact ⟨c, rfl, h1, h2⟩
  · rintro ⟨c, rfl, h1, h2⟩; exact ⟨c, ⟨h1, h2⟩, rfl⟩
theorem selTo_lt (p : Nat → Bool) (n : Nat) : (selTo p n).Pairwise (· < ·) := by
  unfold selTo
  rw [List.pairwise_map]
  exact ((List.pairwise_lt_range).filter _).imp (fun h => Int.ofNat_lt.2 h)
def endP (g : Graph) (a b : Nat) : Bool := decide ((b : Int) ∈ endsOf g a)
theorem cl_sel (g : Graph) (a : Nat) : cl g a = selTo (endP g a) g.length := rising_eq (sorted_spec _).1 (selTo_lt _ _) (fun x => by
  rw [cl_mem, selTo_mem]
  constructor
  · intro h; obtain ⟨c, rfl, hc⟩ := ends_nat h; exact ⟨c, rfl, hc, decide_eq_true h⟩
  · rintro ⟨c, rfl, _, h⟩; exact of_decide_eq_true h)
def vD (D : List Int) (y : Int) : Int := D.getD y.toNat 0
/-- The first greatest; -1 of none. -/
def bestO (D : List Int) (l : List Int) : Int := if l = [] then -1 else bestF (vD D) l
theorem bestO_snoc {D l : List Int} (y : Int) (hl : ∀ x ∈ l, 0 ≤ x) : bestO D (l ++ [y]) = if bestO D l < 0 ∨ vD D (bestO D l) < vD D y then y else bestO D l := by
  unfold bestO
  rw [if_neg (by simp)]
  by_cases h : l = []
  · subst h; rw [if_pos rfl, if_pos (.inl (by decide))]; rfl
  · rw [if_neg h, bestF_snoc h]
    have := hl _ (bestF_mem (v := vD D) h)
    by_cases k : vD D (bestF (vD D) l) < vD D y
    · rw [if_pos k, if_pos (.inr k)]
    · rw [if_neg k, if_neg (by rintro (h | h); omega; exact k h)]
theorem bestF_max {v : Int → Int} {l : List Int} : ∀ x ∈ l, v x ≤ v (bestF v l) := by
  have key : ∀ (l : List Int) (m : Int), v m ≤ v (l.foldl (fun m y => if v m < v y then y else m) m) ∧ ∀ x ∈ l, v x ≤ v (l.foldl (fun m y => if v m < v y then y else m) m) := by
    intro l
    induction l with
    | nil => intro m; exact ⟨Int.le_refl _, fun x hx => by cases hx⟩
    | cons y l ih =>
      intro m
      rw [List.foldl_cons]
      have := ih (if v m < v y then y else m)
      have h2 : v m ≤ v (if v m < v y then y else m) ∧ v y ≤ v (if v m < v y then y else m) := by split <;> omega
      refine ⟨by omega, fun x hx => ?_⟩
      rcases List.mem_cons.1 hx with rfl | hx
      · omega
      · exact this.2 x hx
  cases l with
  | nil => intro x hx; cases hx
  | cons z l =>
    intro x hx
    rcases List.mem_cons.1 hx with rfl | hx
    · exact (key l x).1
    · exact (key l z).2 x hx
section
variable {g : Graph} {ib : List Bool} {D : List Int}
def bst (g : Graph) (D : List Int) (a : Nat) : Int := bestO D (cl g a)
def wy (g : Graph) (ib : List Bool) (D : List Int) : Nat → Nat → List Int
  | 0, _ => []
  | f + 1, a => (a : Int) :: if memF g ib (a : Int) && decide (0 ≤ bst g D a) then wy g ib D f (bst g D a).toNat else []
theorem bst_spec {a : Nat} (h : 0 ≤ bst g D a) : ∃ c : Nat, bst g D a = (c : Int) ∧ (c : Int) ∈ endsOf g a ∧ c < g.length ∧ ∀ x ∈ endsOf g a, vD D x ≤ vD D (c : Int) := by
  unfold bst bestO at *
  by_cases e : cl g a = []
  · rw [if_pos e] at h; omega
  · rw [if_neg e] at h ⊢
    have hm := cl_mem.1 (bestF_mem (v := vD D) e)
    obtain ⟨c, hc, hl⟩ := ends_nat hm
    exact ⟨c, hc, hc ▸ hm, hl, fun x hx => by rw [← hc]; exact bestF_max x (cl_mem.2 hx)⟩
theorem bst_neg {a : Nat} (h : bst g D a < 0) : cl g a = [] := by
  by_cases e : cl g a = []
  · exact e
  · unfold bst bestO at h
    rw [if_neg e] at h
    obtain ⟨c, hc, _⟩ := ends_nat (cl_mem.1 (bestF_mem (v := vD D) e))
    omega
theorem bst_pos {a : Nat} (h : cl g a ≠ []) : 0 ≤ bst g D a ∧ bst g D a = bestF (vD D) (cl g a) := by
  unfold bst bestO
  rw [if_neg h]
  obtain ⟨c, hc, _⟩ := ends_nat (cl_mem.1 (bestF_mem (v := vD D) h))
  exact ⟨by omega, rfl⟩
def rk (g : Graph) (ib : List Bool) (a : Nat) : Nat := if memF g ib (a : Int) then (seqN g ib).length - (seqN g ib).idxOf a else 0
theorem mem_lt {a : Nat} (h : memF g ib (a : Int) = true) : a < g.length := by unfold memF at h; simp only [Bool.and_eq_true, decide_eq_true_eq] at h; omega
theorem rk_lt (hok : okO g ib = true) {a c : Nat} (hm : memF g ib (a : Int) = true) (hc : (c : Int) ∈ endsOf g a) : rk g ib c < rk g ib a := by
  have h1 := List.idxOf_lt_length_iff.2 (seq_all hok hm)
  unfold rk
  rw [if_pos hm]
  by_cases hmc : memF g ib (c : Int) = true
  · rw [if_pos hmc]
    have h2 := seq_on (ends_edge (mem_lt hm) hm hc hmc) (seq_all hok hmc)
    have h3 := List.idxOf_lt_length_iff.2 (seq_all hok hmc)
    omega
  · rw [if_neg hmc]; omega
theorem rk_le (a : Nat) : rk g ib a ≤ g.length := by
  have := seq_len g ib
  unfold rk
  split <;> omega
theorem wy_len : ∀ (f a : Nat), (wy g ib D f a).length ≤ f
  | 0, _ => by simp [wy]
  | f + 1, a => by
    unfold wy
    rw [List.length_cons]
    split
    · have := wy_len f (bst g D a).toNat; omega
    · simp
theorem wy_in : ∀ (f a : Nat), a < g.length → ∀ x ∈ wy g ib D f a, ∃ c : Nat, x = (c : Int) ∧ c < g.length
  | 0, _, _ => by intro x hx; cases hx
  | f + 1, a, ha => by
    intro x hx
    unfold wy at hx
    rcases List.mem_cons.1 hx with rfl | hx
    · exact ⟨a, rfl, ha⟩
    · split at hx
      next h =>
        rw [Bool.and_eq_true, decide_eq_true_eq] at h
        obtain ⟨c, hc, _, hl, _⟩ := bst_spec h.2
        rw [hc, Int.toNat_natCast] at hx
        exact wy_in f c hl x hx
      · cases hx
theorem wy_stop {f a : Nat} (h : memF g ib (a : Int) = false ∨ bst g D a < 0) : wy g ib D (f + 1) a = [(a : Int)] := by
  unfold wy
  rw [if_neg]
  rw [Bool.and_eq_true, decide_eq_true_eq]
  rintro ⟨h1, h2⟩
  rcases h with h | h
  · rw [h1] at h; cases h
  · omega
theorem wy_go {f a c : Nat} (hm : memF g ib (a : Int) = true) (h : bst g D a = (c : Int)) : wy g ib D (f + 1) a = (a : Int) :: wy g ib D f c := by
  rw [wy, if_pos (by rw [hm, h]; simp), h, Int.toNat_natCast]
def wsL (g : Graph) (ib : List Bool) (own : List Int) (rest step at_ : Int) : List Int := if okO g ib && decide (0 ≤ at_) && decide (at_ < (g.length : Int)) then wy g ib (DL g ib own rest step) (g.length + 1) at_.toNat else []
theorem wsL_len (own : List Int) (rest step at_ : Int) : (wsL g ib own rest step at_).length ≤ g.length + 1 := by
  unfold wsL
  split
  · exact wy_len _ _
  · simp
/-! ### what a way costs -/
variable {own : List Int} {rest step : Int}
def nodeC (g : Graph) (ib : List Bool) (own : List Int) (rest : Int) (a : Int) : Int := if memF g ib a then (if a < (own.length : Int) then own.getD a.toNat 0 else 0) else rest
def cw (g : Graph) (ib : List Bool) (own : List Int) (rest step : Int) (l : List Int) : Int := (l.map (nodeC g ib own rest)).sum + step * ((l.length - 1 : Nat) : Int)
theorem cw_nil : cw g ib own rest step [] = 0 := by simp [cw]
theorem cw_snoc {l : List Int} {x : Int} : cw g ib own rest step (l ++ [x]) = cw g ib own rest step l + (if 0 < l.length then step else 0) + nodeC g ib own rest x := by
  unfold cw
  rw [List.map_append, List.sum_append, List.length_append, List.map_singleton, List.sum_singleton]
  cases l with
  | nil => simp
  | cons y l =>
    simp only [List.length_cons, List.length_nil]
    rw [if_pos (by omega), show l.length + 1 + (0 + 1) - 1 = l.length + 1 by omega, show l.length + 1 - 1 = l.length by omega]
    rw [show ((l.length + 1 : Nat) : Int) = (l.length : Int) + 1 by omega, Int.mul_add]
    omega
theorem cw_cons {l : List Int} {x : Int} : cw g ib own rest step (x :: l) = nodeC g ib own rest x + (if 0 < l.length then step + cw g ib own rest step l else 0) := by
  unfold cw
  rw [List.map_cons, List.sum_cons, List.length_cons]
  cases l with
  | nil => simp
  | cons y l =>
    simp only [List.length_cons, List.map_cons, List.sum_cons]
    rw [if_pos (by omega), show l.length + 1 + 1 - 1 = l.length + 1 by omega, show l.length + 1 - 1 = l.length by omega]
    rw [show ((l.length + 1 : Nat) : Int) = (l.length : Int) + 1 by omega, Int.mul_add]
    omega
structure Meek (own : List Int) (rest step : Int) : Prop where
  own : ∀ x ∈ own, 0 ≤ x ∧ x ≤ 5000
  rest : 0 ≤ rest ∧ rest ≤ 100
  step : 0 ≤ step ∧ step ≤ 100
theorem nr_id {x : Int} (h : 0 ≤ x) (h2 : x ≤ 1048576) : nr x = x := by unfold nr nearF; rw [if_neg (by omega), if_neg (by omega)]
theorem Meek.at (h : Meek own rest step) (a : Nat) : 0 ≤ own.getD a 0 ∧ own.getD a 0 ≤ 5000 := by
  rw [List.getD_eq_getElem?_getD]
  cases e : own[a]? with
  | none => simp
  | some x => exact h.own x (List.mem_of_getElem? e)
theorem Meek.node (h : Meek own rest step) (x : Int) : 0 ≤ nodeC g ib own rest x ∧ nodeC g ib own rest x ≤ 5000 := by
  have h1 := h.rest
  have h2 := h.at x.toNat
  unfold nodeC
  split <;> (try split) <;> omega
theorem Meek.bound (h : Meek own rest step) : ∀ l : List Int, 0 ≤ cw g ib own rest step l ∧ cw g ib own rest step l ≤ 5100 * (l.length : Int)
  | [] => by rw [cw_nil]; simp
  | x :: l => by
    rw [cw_cons, List.length_cons]
    have h1 := h.bound l
    have h2 := h.node (g := g) (ib := ib) x
    have h3 := h.step
    split <;> omega
theorem Meek.low (h : Meek own rest step) : ∀ k a, (rnds g ib own rest step k).getD a 0 ≤ 5100 * (k : Int) + 100
  | 0, a => by
    unfold rnds
    rw [List.getD_eq_getElem?_getD, List.getElem?_replicate]
    split <;> simp
  | k + 1, a => by
    have h2 := h.step
    by_cases ha : a < g.length
    · rw [show (rnds g ib own rest step (k + 1)).getD a 0 = cell g ib own rest step (rnds g ib own rest step k) a from rnd_at ha]
      unfold cell
      split
      · have h1 : mx (costs step (rnds g ib own rest step k) (endsOf g a)) ≤ 100 + (5100 * (k : Int) + 100) := mx_le.2 ⟨by omega, fun x hx => by
          obtain ⟨b, _, rfl⟩ := List.mem_map.1 hx
          have := h.low k b.toNat
          show nr step + _ ≤ _
          rw [nr_id h2.1 (by omega)]
          omega⟩
        have h3 := h.at a
        have h4 : addO own a (mx (costs step (rnds g ib own rest step k) (endsOf g a))) ≤ 5000 + (100 + (5100 * (k : Int) + 100)) := by
          unfold addO
          rw [nr_id h3.1 (by omega)]
          split <;> omega
        unfold minI
        split <;> omega
      · have := h.rest
        rw [nr_id this.1 (by omega)]; omega
    · rw [List.getD_eq_getElem?_getD, List.getElem?_eq_none (by rw [rnds_len]; omega)]; simp; omega
theorem Meek.fix (h : Meek own rest step) (hok : okO g ib = true) (hn : g.length ≤ 1000) {a : Nat} (hm : memF g ib (a : Int) = true) : (DL g ib own rest step).getD a 0 = addO own a (mx (costs step (DL g ib own rest step) (endsOf g a))) := by
  rw [DL_fix hok (mem_lt hm)]
  unfold cell
  rw [if_pos hm]
  have h2 := h.step
  have h1 : mx (costs step (DL g ib own rest step) (endsOf g a)) ≤ 100 + (5100 * (1001 : Int) + 100) := mx_le.2 ⟨by omega, fun x hx => by
    obtain ⟨b, _, rfl⟩ := List.mem_map.1 hx
    have := h.low (g := g) (ib := ib) (g.length + 1) b.toNat
    have : (DL g ib own rest step).getD b.toNat 0 ≤ 5100 * ((g.length + 1 : Nat) : Int) + 100 := this
    show nr step + _ ≤ _
    rw [nr_id h2.1 (by omega)]
    omega⟩
  have h3 := h.at a
  have h4 : addO own a (mx (costs step (DL g ib own rest step) (endsOf g a))) ≤ 5000 + (100 + (5100 * (1001 : Int) + 100)) := by
    unfold addO
    rw [nr_id h3.1 (by omega)]
    split <;> omega
  unfold minI
  rw [if_neg (by omega)]
theorem addO_node (h : Meek own rest step) {a : Nat} (hm : memF g ib (a : Int) = true) (m : Int) : addO own a m = nodeC g ib own rest (a : Int) + m := by
  have h3 := h.at a
  unfold addO nodeC
  rw [if_pos hm, Int.toNat_natCast, nr_id h3.1 (by omega)]
  by_cases k : a < own.length
  · rw [if_pos k, if_pos (by omega)]; omega
  · rw [if_neg k, if_neg (by omega)]; omega
theorem Meek.cost (h : Meek own rest step) (hok : okO g ib = true) (hn : g.length ≤ 1000) : ∀ f a, a < g.length → rk g ib a < f → cw g ib own rest step (wy g ib (DL g ib own rest step) f a) = (DL g ib own rest step).getD a 0
  | 0, a, _, hf => by omega
  | f + 1, a, ha, hf => by
    have hs := h.step
    cases hm : memF g ib (a : Int) with
    | false =>
      rw [wy_stop (.inl hm), cw_cons, DL_fix hok ha]
      unfold cell nodeC
      rw [hm]
      have := h.rest
      rw [if_neg (by simp), if_neg (by simp), if_neg (by simp), nr_id this.1 (by omega)]; omega
    | true =>
      rw [h.fix hok hn hm, addO_node h hm]
      by_cases hb : bst g (DL g ib own rest step) a < 0
      · rw [wy_stop (.inr hb), cw_cons, if_neg (by simp)]
        have : endsOf g a = [] := List.eq_nil_iff_forall_not_mem.2 (fun x hx => by have := cl_mem.2 hx; rw [bst_neg hb] at this; cases this)
        rw [this]; rfl
      · obtain ⟨c, hc, he, hl, hx⟩ := bst_spec (show 0 ≤ bst g (DL g ib own rest step) a by omega)
        have hr := rk_lt hok hm he
        rw [wy_go hm hc, cw_cons, h.cost hok hn f c hl (by omega)]
        have hlen : 0 < (wy g ib (DL g ib own rest step) f c).length := by
          cases f with
          | zero => omega
          | succ f => unfold wy; simp
        rw [if_pos hlen]
        congr 1
        apply Int.le_antisymm
        · refine (mx_ge _).2 _ (List.mem_map.2 ⟨(c : Int), he, ?_⟩)
          rw [Int.toNat_natCast, nr_id hs.1 (by omega)]
        · refine mx_le.2 ⟨by have := (DL_in (g := g) (ib := ib) (own := own) (rest := rest) (step := step) c).1; omega, fun x hx2 => ?_⟩
          obtain ⟨b, hb2, rfl⟩ := List.mem_map.1 hx2
          have := hx b hb2
          unfold vD at this
          rw [Int.toNat_natCast] at this
          show nr step + _ ≤ _
          rw [nr_id hs.1 (by omega)]; omega
theorem wy_head {f a : Nat} (h : 0 < f) : (wy g ib D f a)[0]? = some (a : Int) := by
  cases f with
  | zero => omega
  | succ f => unfold wy; rfl
/-! ### with more, not less -/
theorem rnds_mono {ib' : List Bool} {own' : List Int} {step' : Int} (hm : ∀ a : Nat, memF g ib (a : Int) = true → memF g ib' (a : Int) = true) (hl : own.length = own'.length) (ho : ∀ a, nr (own.getD a 0) ≤ nr (own'.getD a 0)) (hs : nr step ≤ nr step') :
    ∀ k a, (rnds g ib own 0 step k).getD a 0 ≤ (rnds g ib' own' 0 step' k).getD a 0
  | 0, a => Int.le_refl _
  | k + 1, a => by
    have ih := rnds_mono hm hl ho hs k
    by_cases ha : a < g.length
    · rw [show (rnds g ib own 0 step (k + 1)).getD a 0 = cell g ib own 0 step (rnds g ib own 0 step k) a from rnd_at ha, show (rnds g ib' own' 0 step' (k + 1)).getD a 0 = cell g ib' own' 0 step' (rnds g ib' own' 0 step' k) a from rnd_at ha]
      cases h : memF g ib (a : Int) with
      | false =>
        have := (cell_in (g := g) (ib := ib') (own := own') (rest := 0) (step := step') (rnds_in (g := g) (ib := ib') (own := own') (rest := 0) (step := step') k) a).1
        unfold cell at this ⊢
        rw [h, if_neg (by simp), nr_id (by omega) (by omega)]; exact this
      | true =>
        have h1 := (mx_ge (costs step' (rnds g ib' own' 0 step' k) (endsOf g a)))
        have h2 : mx (costs step (rnds g ib own 0 step k) (endsOf g a)) ≤ mx (costs step' (rnds g ib' own' 0 step' k) (endsOf g a)) := mx_le.2 ⟨h1.1, fun x hx => by
          obtain ⟨b, hb, rfl⟩ := List.mem_map.1 hx
          have := h1.2 _ (List.mem_map.2 ⟨b, hb, rfl⟩)
          have := ih b.toNat
          show nr step + (rnds g ib own 0 step k).getD b.toNat 0 ≤ _
          omega⟩
        have h3 := ho a
        have h4 : addO own a (mx (costs step (rnds g ib own 0 step k) (endsOf g a))) ≤ addO own' a (mx (costs step' (rnds g ib' own' 0 step' k) (endsOf g a))) := by
          unfold addO
          rw [hl]
          split <;> omega
        unfold cell
        rw [h, hm a h, if_pos rfl, if_pos rfl]
        unfold minI
        split <;> split <;> omega
    · rw [List.getD_eq_getElem?_getD, List.getElem?_eq_none (by rw [rnds_len]; omega), List.getD_eq_getElem?_getD, List.getElem?_eq_none (by rw [rnds_len]; omega)]
      exact Int.le_refl _
end
end Go.Proofs.YtcacohoanlljhaaG
