/-
  Plain laws of package scope: loops with fuel; what the reference's functions give.
-/
import Derived.Test.YtnidmlngkpkmlaaPScopex4
import Derived.Test.YtnidmlngkpkmlaaScop
namespace Go.Proofs.Ytnidmlngkpkmlaa.PScope
open Go.RowKit Go.Proofs.YtnidmlngkpkmlaaW.PrintWords Go.Proofs.YtnidmlngkpkmlaaSl

theorem loop_ex {R : Type} (L : Nat → Int → Option R) (n K0 : Nat) (Q : R → Prop)
    (hstep : ∀ (k i : Nat), K0 ≤ k → i < n → (∃ r, L (k + 1) i = some r ∧ Q r) ∨ L (k + 1) i = L k ((i : Int) + 1)) (hend : ∀ k, K0 ≤ k → ∃ r, L (k + 1) n = some r ∧ Q r) :
    ∀ (d i k : Nat), i + d = n → K0 + d + 1 ≤ k → ∃ r, L k i = some r ∧ Q r
  | 0, i, k, hi, hk => by
    obtain ⟨k, rfl⟩ : ∃ m, k = m + 1 := ⟨k - 1, by omega⟩
    obtain rfl : i = n := by omega
    exact hend k (by omega)
  | d + 1, i, k, hi, hk => by
    obtain ⟨k, rfl⟩ : ∃ m, k = m + 1 := ⟨k - 1, by omega⟩
    rcases hstep k i (by omega) (by omega) with h | h
    · exact h
    · rw [h]
      have := loop_ex L n K0 Q hstep hend d (i + 1) k (by omega) (by omega)
      simpa using this
theorem wrap_succ {i n : Nat} (h : i < n) (hn : n ≤ maxLen) : wrap64 ((i : Int) + 1) = (i : Int) + 1 := by
  have : maxLen = 9223372036854775807 := rfl
  unfold wrap64; omega

theorem few19 (a : List S42) (b : List S114) (c : List S118) (ha : a.length ≤ maxLen) (hb : b.length ≤ maxLen) (hc : c.length ≤ maxLen) (k : Nat) (hk : a.length + b.length + c.length + 3 ≤ k) :
    ∃ r, sheerlegref19_Few.f k a b c = some r ∧ (r = true → a.length ≤ 60) := by
  have f16 : ∀ a0 l1 a2 a3 a4 a5 l6 l7 l8, ∃ r, sheerlegref16_Few.f a0 l1 a2 a3 a4 a5 l6 l7 l8 = some r := by
    intros; unfold sheerlegref16_Few.f; repeat' split
    all_goals exact ⟨_, rfl⟩
  have f15 : ∀ a0 l1 l2, ∃ r, sheerlegref15_Few.f a0 l1 l2 = some r := by
    intros; unfold sheerlegref15_Few.f; repeat' split
    all_goals exact ⟨_, rfl⟩
  have h2 : ∀ k, c.length + 1 ≤ k → ∃ r, sheerlegref19_Few.l2 k 0 a b c = some r ∧ (r = true → a.length ≤ 60) := fun k hk => by
    refine loop_ex (fun k i => sheerlegref19_Few.l2 k i a b c) c.length 0 _ (fun k i _ hi => ?_) (fun k _ => ?_) c.length 0 k (by omega) (by omega)
    · simp only [sheerlegref19_Few.l2]
      rw [if_pos (by omega), wrap_succ hi hc]
      obtain ⟨r, hr⟩ := f15 ((rd_T118 c i).f0) ((rd_T118 c i).f1) ((rd_T118 c i).f2)
      by_cases h20 : (i : Int) ≥ 20
      · rw [if_pos h20]; exact .inl ⟨_, rfl, by simp⟩
      · rw [if_neg h20, if_pos (by omega), hr]
        cases r
        · exact .inl ⟨_, rfl, by simp⟩
        · exact .inr rfl
    · simp only [sheerlegref19_Few.l2]
      rw [if_neg (by omega)]
      exact ⟨_, rfl, by simp; omega⟩
  have h1 : ∀ k, c.length + 1 + b.length + 1 ≤ k → ∃ r, sheerlegref19_Few.l1 k 0 a b c = some r ∧ (r = true → a.length ≤ 60) := fun k hk => by
    refine loop_ex (fun k i => sheerlegref19_Few.l1 k i a b c) b.length (c.length + 1) _ (fun k i _ hi => ?_) (fun k hk => ?_) b.length 0 k (by omega) (by omega)
    · simp only [sheerlegref19_Few.l1]
      rw [if_pos (by omega), wrap_succ hi hb]
      obtain ⟨r, hr⟩ := f16 ((rd_T114 b i).f0) ((rd_T114 b i).f1) ((rd_T114 b i).f2) ((rd_T114 b i).f3) ((rd_T114 b i).f4) ((rd_T114 b i).f5) ((rd_T114 b i).f6) ((rd_T114 b i).f7) ((rd_T114 b i).f8)
      by_cases h20 : (i : Int) ≥ 20
      · rw [if_pos h20]; exact .inl ⟨_, rfl, by simp⟩
      · rw [if_neg h20, if_pos (by omega), hr]
        cases r
        · exact .inl ⟨_, rfl, by simp⟩
        · exact .inr rfl
    · simp only [sheerlegref19_Few.l1]
      rw [if_neg (by omega)]
      exact h2 k hk
  unfold sheerlegref19_Few.f
  refine loop_ex (fun k i => sheerlegref19_Few.l0 k i a b c) a.length (c.length + 1 + b.length + 1) _ (fun k i _ hi => ?_) (fun k hk => ?_) a.length 0 k (by omega) (by omega)
  · simp only [sheerlegref19_Few.l0]
    rw [if_pos (by omega), wrap_succ hi ha, if_pos (by omega)]
    split
    · exact .inl ⟨_, rfl, by simp⟩
    · exact .inr rfl
  · simp only [sheerlegref19_Few.l0]
    rw [if_neg (by omega)]
    exact h1 k hk

def wtF : List S40 → Nat
  | [] => 0
  | o :: l => o.f0.length + o.f1.length + o.f2.length + 3 + wtF l
theorem wtF_get : ∀ (l : List S40) (i : Nat), i < l.length → (l.getD i z40).f0.length + (l.getD i z40).f1.length + (l.getD i z40).f2.length + 3 ≤ wtF l
  | [], i, h => by simp at h
  | o :: l, 0, h => by simp [wtF]
  | o :: l, i + 1, h => by
    have := wtF_get l i (by simpa using h)
    simp only [wtF, List.getD_cons_succ]
    omega
def wtO : List S40 → Nat := fun l => wtF l + l.length + 1
theorem few24 (l : List S40) (hl : l.length ≤ maxLen ∧ ∀ x ∈ l, V40 x) (k : Nat) (hk : wtO l ≤ k) :
    ∃ r, sheerlegref24_Few.f k l = some r ∧ (r = true → l.length ≤ 9 ∧ ∀ o ∈ l, o.f0.length ≤ 60) := by
  unfold sheerlegref24_Few.f
  have key : ∀ (d i k : Nat), i + d = l.length → wtF l + d + 1 ≤ k → (∀ j < i, (l.getD j z40).f0.length ≤ 60) → ∃ r, sheerlegref24_Few.l0 k l (i : Int) = some r ∧ (r = true → l.length ≤ 9 ∧ ∀ o ∈ l, o.f0.length ≤ 60) := by
    intro d
    induction d with
    | zero =>
      intro i k hi hk hj
      obtain ⟨k, rfl⟩ : ∃ m, k = m + 1 := ⟨k - 1, by omega⟩
      simp only [sheerlegref24_Few.l0]
      rw [if_neg (by omega)]
      refine ⟨_, rfl, fun h => ⟨by simp at h; omega, fun o ho => ?_⟩⟩
      obtain ⟨j, hj2⟩ := List.getElem?_of_mem ho
      have hlt := (List.getElem?_eq_some_iff.1 hj2).1
      have := hj j (by omega)
      rw [List.getD_eq_getElem?_getD, hj2] at this
      exact this
    | succ d ih =>
      intro i k hi hk hj
      obtain ⟨k, rfl⟩ : ∃ m, k = m + 1 := ⟨k - 1, by omega⟩
      simp only [sheerlegref24_Few.l0]
      rw [if_pos (by omega), if_pos (by omega), wrap_succ (n := l.length) (by omega) hl.1]
      have hmem : l.getD i z40 ∈ l := by
        rw [List.getD_eq_getElem?_getD, List.getElem?_eq_getElem (show i < l.length by omega)]; exact List.getElem_mem _
      have hw := wtF_get l i (by omega)
      have hV := hl.2 _ hmem
      obtain ⟨r, hr, h60⟩ := few19 (rd_T40 l i).f0 (rd_T40 l i).f1 (rd_T40 l i).f2 hV.1.1 hV.2.1.1 hV.2.2.1 k (by simp only [rd_T40, Int.toNat_natCast]; omega)
      rw [hr]
      cases r with
      | false => exact ⟨_, rfl, by simp⟩
      | true =>
        have := ih (i + 1) k (by omega) (by omega) (fun j hji => by
          rcases Nat.lt_succ_iff_lt_or_eq.1 hji with h | rfl
          · exact hj j h
          · have := h60 rfl; simpa [rd_T40] using this)
        simpa using this
  have := key l.length 0 k (by omega) (by unfold wtO at hk; omega) (fun j h => by omega)
  simpa using this
end Go.Proofs.Ytnidmlngkpkmlaa.PScope
