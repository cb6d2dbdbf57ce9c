/-
  Orders, plainly: the least that is free, time and again.
-/
import Derived.Test.YtnidmlngkpkmlaaGj
namespace Go.Proofs.YtnidmlngkpkmlaaG
set_option linter.unusedVariables false
set_option linter.unusedSimpArgs false
open Go.RowKit Go.Proofs.YtnidmlngkpkmlaaK Go.Proofs.YtnidmlngkpkmlaaT Go.Proofs.YtnidmlngkpkmlaaL

def fre (ed : Nat → Nat → Bool) (left : List Bool) (a : Nat) : Bool := left.getD a false && (List.range left.length).all fun b => !(left.getD b false) || !(ed b a)
def nxt (ed : Nat → Nat → Bool) (left : List Bool) : Option Nat := (List.range left.length).find? (fre ed left)
def trues (left : List Bool) : Nat := (left.filter id).length
def gr (ed : Nat → Nat → Bool) : Nat → List Bool → List Nat
  | 0, _ => []
  | f + 1, left => match nxt ed left with
    | none => []
    | some a => a :: gr ed f (left.set a false)
theorem trues_set {left : List Bool} {a : Nat} (h : left[a]? = some true) : trues (left.set a false) + 1 = trues left := by
  unfold trues
  induction left generalizing a with
  | nil => simp at h
  | cons b left ih =>
    cases a with
    | zero => simp at h; subst h; simp
    | succ a =>
      have := ih (a := a) (by simpa using h)
      cases b <;> simp_all
theorem trues_le (left : List Bool) : trues left ≤ left.length := List.length_filter_le _ _
theorem getD_true {left : List Bool} {a : Nat} (h : left.getD a false = true) : left[a]? = some true := by
  rw [List.getD_eq_getElem?_getD] at h
  cases hv : left[a]? with
  | none => rw [hv] at h; cases h
  | some v => rw [hv] at h; simp at h; rw [h]
theorem fre_left {ed : Nat → Nat → Bool} {left : List Bool} {a : Nat} (h : fre ed left a = true) : left[a]? = some true := by
  unfold fre at h
  simp only [Bool.and_eq_true] at h
  exact getD_true h.1
theorem fre_iff {ed : Nat → Nat → Bool} {left : List Bool} {a : Nat} : fre ed left a = true ↔ left[a]? = some true ∧ ∀ b, left[b]? = some true → ed b a = false := by
  unfold fre
  simp only [Bool.and_eq_true, List.all_eq_true, List.mem_range, Bool.or_eq_true, Bool.not_eq_true']
  constructor
  · rintro ⟨h1, h2⟩
    refine ⟨getD_true h1, fun b hb => ?_⟩
    rcases h2 b (List.getElem?_eq_some_iff.1 hb).1 with h | h
    · rw [getD_at hb] at h; cases h
    · exact h
  · rintro ⟨h1, h2⟩
    refine ⟨by rw [getD_at h1], fun b hb => ?_⟩
    cases hv : left[b]? with
    | none => rw [List.getElem?_eq_none_iff] at hv; omega
    | some v =>
      rw [getD_at hv]
      cases v with
      | false => exact .inl rfl
      | true => exact .inr (h2 b hv)
theorem nxt_some {ed : Nat → Nat → Bool} {left : List Bool} {a : Nat} (h : fre ed left a = true) (hm : ∀ b, b < a → fre ed left b = false) : nxt ed left = some a := by
  have ha := (List.getElem?_eq_some_iff.1 (fre_left h)).1
  unfold nxt
  rw [List.find?_range_eq_some]
  exact ⟨h, by simpa using ha, fun j hj => by simpa using hm j hj⟩
theorem nxt_none {ed : Nat → Nat → Bool} {left : List Bool} (h : ∀ a, a < left.length → fre ed left a = false) : nxt ed left = none := by
  unfold nxt
  rw [List.find?_eq_none]
  intro a ha
  rw [h a (List.mem_range.1 ha)]; simp
/-- Taken one after the other: from left0. -/
inductive Run (ed : Nat → Nat → Bool) (left0 : List Bool) : List Nat → List Bool → Prop
  | nil : Run ed left0 [] left0
  | snoc {out : List Nat} {left : List Bool} {a : Nat} : Run ed left0 out left → nxt ed left = some a → Run ed left0 (out ++ [a]) (left.set a false)
theorem nxt_left {ed : Nat → Nat → Bool} {left : List Bool} {a : Nat} (h : nxt ed left = some a) : left[a]? = some true := fre_left (List.find?_some h)
theorem gr_none {ed : Nat → Nat → Bool} {left : List Bool} (h : nxt ed left = none) : ∀ f, gr ed f left = []
  | 0 => rfl
  | f + 1 => by unfold gr; rw [h]
theorem Run.len {ed : Nat → Nat → Bool} {left0 left : List Bool} {out : List Nat} (h : Run ed left0 out left) : left.length = left0.length ∧ out.length + trues left = trues left0 := by
  induction h with
  | nil => simp
  | snoc h hn ih => rw [List.length_set, List.length_append]; have := trues_set (nxt_left hn); simp; omega
theorem Run.gr {ed : Nat → Nat → Bool} {left0 left : List Bool} {out : List Nat} (h : Run ed left0 out left) : gr ed (trues left0) left0 = out ++ gr ed (trues left) left := by
  induction h with
  | nil => rfl
  | @snoc out left a h hn ih =>
    have h1 := trues_set (nxt_left hn)
    rw [ih, List.append_assoc, ← h1]
    congr 1
    simp only [Go.Proofs.YtnidmlngkpkmlaaG.gr, hn]
    rfl
theorem Run.done {ed : Nat → Nat → Bool} {left0 left : List Bool} {out : List Nat} (h : Run ed left0 out left) (hn : nxt ed left = none) : out = Go.Proofs.YtnidmlngkpkmlaaG.gr ed (trues left0) left0 := by
  rw [h.gr, gr_none hn, List.append_nil]
/-- Edges between members. -/
def edR (g : Graph) (ib : List Bool) (b a : Nat) : Bool := edgeF (withinR g ib) (b : Int) (a : Int)
def seqN (g : Graph) (ib : List Bool) : List Nat := gr (edR g ib) (trues (memL g ib)) (memL g ib)
def okO (g : Graph) (ib : List Bool) : Bool := decide ((seqN g ib).length = trues (memL g ib))
def ordL (g : Graph) (ib : List Bool) : List Int := if okO g ib then (seqN g ib).map Int.ofNat else []
theorem edR_iff {g : Graph} {ib : List Bool} {a b : Nat} (ha : a < g.length) (hb : b < g.length) : edR g ib b a = true ↔ (a : Int) ∈ wp g ib b := by
  have hin : inG g (a : Int) = true := inG_iff.2 ⟨by omega, by omega⟩
  unfold edR
  rw [edge_ends (by rw [withinR_len]; exact hb) (by rw [withinR_len]; exact ha), decide_eq_true_eq, ← ends_PR]
  unfold endsOf
  rw [List.mem_filter, inG_P, hin, withinP_at hb]
  simp
theorem wp_mem {g : Graph} {ib : List Bool} {b : Nat} {x : Int} (h : x ∈ wp g ib b) : memF g ib (b : Int) = true ∧ memF g ib x = true ∧ inG g x = true := by
  obtain ⟨h1, h2⟩ := List.mem_filter.1 h
  unfold inP at h2
  simp only [Bool.and_eq_true] at h2
  exact ⟨h2.1, h2.2, ends_in (cl_mem.1 h1)⟩
theorem wp_nodup (g : Graph) (ib : List Bool) (b : Nat) : (wp g ib b).Pairwise (· < ·) := by
  unfold wp
  exact ((sorted_spec (endsOf g b)).1).sublist List.filter_sublist
end Go.Proofs.YtnidmlngkpkmlaaG
