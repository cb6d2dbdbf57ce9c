/-
  Plain laws of package scope: two loops, one in the other, that look for the first.
-/
import Derived.Test.YtnidmlngkpkmlaaPu1
namespace Go.Proofs.Ytnidmlngkpkmlaa.PScope
open Go.RowKit Go.Proofs.YtnidmlngkpkmlaaW.PrintWords Go.Proofs.YtnidmlngkpkmlaaSl

def wtS : List S40 → Nat
  | [] => 0
  | o :: l => o.f0.length + 2 + wtS l
theorem wtS_le : ∀ l, wtS l ≤ wtF l
  | [] => Nat.le_refl _
  | o :: l => by have := wtS_le l; simp only [wtS, wtF]; omega
theorem drop_obj (l : List S40) (i : Nat) (h : i < l.length) : l.drop i = l.getD i z40 :: l.drop (i + 1) := by
  rw [List.drop_eq_getElem_cons h, List.getD_eq_getElem?_getD, List.getElem?_eq_getElem h]; rfl
def outOf {R : Type} (res : Nat × Nat × S42 → R) (done : R) : Option (Nat × Nat × S42) → R
  | some y => res y
  | none => done
theorem nest {R : Type} (l : List S40) (L0 : Nat → Int → Option R) (L1 : Nat → Int → Int → Option R) (P : Nat × Nat × S42 → Bool) (res : Nat × Nat × S42 → R) (done : R) (K0 : Nat)
    (h0 : ∀ (k i : Nat), K0 ≤ k → i < l.length → L0 (k + 1) i = L1 k i 0) (h0e : ∀ (k : Nat), K0 ≤ k → L0 (k + 1) l.length = some done)
    (h1 : ∀ (k i j : Nat) (x : S42), K0 ≤ k → i < l.length → (l.getD i z40).f0[j]? = some x → L1 (k + 1) i j = if P (i, j, x) then some (res (i, j, x)) else L1 k i ((j : Int) + 1))
    (h1e : ∀ (k i : Nat), K0 ≤ k → i < l.length → L1 (k + 1) i (l.getD i z40).f0.length = L0 k ((i : Int) + 1)) (k : Nat) (hk : K0 + wtO l ≤ k) :
    L0 k 0 = some (outOf res done ((symsFrom 0 l).find? P)) := by
  have key : ∀ (d i k : Nat), i + d = l.length → K0 + wtS (l.drop i) + 1 ≤ k → L0 k (i : Int) = some (outOf res done ((symsFrom i (l.drop i)).find? P)) := by
    intro d
    induction d with
    | zero =>
      intro i k hi hk
      obtain ⟨k, rfl⟩ : ∃ m, k = m + 1 := ⟨k - 1, by omega⟩
      obtain rfl : i = l.length := by omega
      rw [h0e k (by omega), List.drop_length]
      rfl
    | succ d ih =>
      intro i k hi hk
      obtain ⟨k, rfl⟩ : ∃ m, k = m + 1 := ⟨k - 1, by omega⟩
      have hil : i < l.length := by omega
      rw [h0 k i (by omega) hil]
      rw [drop_obj l i hil] at hk ⊢
      obtain ⟨o, ho⟩ : ∃ o, l.getD i z40 = o := ⟨_, rfl⟩
      rw [ho] at hk ⊢
      simp only [wtS] at hk
      have inner : ∀ (e j k : Nat), j + e = o.f0.length → K0 + e + 2 + wtS (l.drop (i + 1)) ≤ k → L1 k i j = some (outOf res done (((o.f0.mapIdx (fun q x => (i, q, x))).drop j ++ symsFrom (i + 1) (l.drop (i + 1))).find? P)) := by
        intro e
        induction e with
        | zero =>
          intro j k hj hk
          obtain ⟨k, rfl⟩ : ∃ m, k = m + 1 := ⟨k - 1, by omega⟩
          obtain rfl : j = o.f0.length := by omega
          have := h1e k i (by omega) hil
          rw [ho] at this
          rw [this, List.drop_eq_nil_of_le (by simp), List.nil_append]
          have := ih (i + 1) k (by omega) (by omega)
          simpa using this
        | succ e ih2 =>
          intro j k hj hk
          obtain ⟨k, rfl⟩ : ∃ m, k = m + 1 := ⟨k - 1, by omega⟩
          have hjl : j < o.f0.length := by omega
          have hx : o.f0[j]? = some o.f0[j] := List.getElem?_eq_getElem hjl
          rw [h1 k i j o.f0[j] (by omega) hil (by rw [ho]; exact hx)]
          rw [List.drop_eq_getElem_cons (by simpa using hjl), List.cons_append, List.find?_cons]
          simp only [List.getElem_mapIdx]
          cases P (i, j, o.f0[j]) with
          | true => rfl
          | false =>
            have := ih2 (j + 1) k (by omega) (by omega)
            simpa using this
      have := inner o.f0.length 0 k (by omega) (by omega)
      simpa [symsFrom, fileSyms] using this
  have := wtS_le l
  have := key l.length 0 k (by omega) (by simp; unfold wtO at hk; omega)
  simpa using this

theorem toList_inj {a b : ByteArray} (h : a.toList = b.toList) : a = b := by
  rw [ByteArray.toList_eq, ByteArray.toList_eq] at h
  exact Go.WideShapes.bytes_inj h
/-- What the bounds give. -/
structure Fits (l : List S40) : Prop where
  len : l.length ≤ maxLen
  syms : ∀ i, i < l.length → (l.getD i z40).f0.length ≤ maxLen
theorem rdO (l : List S40) (i : Nat) : rd_T40 l (i : Int) = l.getD i z40 := by simp [rd_T40]
theorem rdY (l : List S42) (i : Nat) (x : S42) (h : l[i]? = some x) : rd_T42 l (i : Int) = x := by simp [rd_T42, List.getD_eq_getElem?_getD, h]
theorem lt_of_some {α : Type} {l : List α} {i : Nat} {x : α} (h : l[i]? = some x) : i < l.length := (List.getElem?_eq_some_iff.1 h).1
def findS (l : List S40) (s : ByteArray) : Int × Int × Bool := outOf (fun y => ((y.1 : Int), (y.2.1 : Int), true)) (0, 0, false) ((symsFrom 0 l).find? (isFirst s))
theorem ref_find (l : List S40) (hl : Fits l) (s : ByteArray) (k : Nat) (hk : wtO l ≤ k) : sheerlegref23_Find.f k l s = some (findS l s) := by
  unfold sheerlegref23_Find.f findS
  refine nest l (fun k i => sheerlegref23_Find.l0 k l s i) (fun k i j => sheerlegref23_Find.l1 k l s i j) _ _ _ 0 (fun k i _ hi => ?_) (fun k _ => ?_) (fun k i j x _ hi hx => ?_) (fun k i _ hi => ?_) k (by omega)
  · simp only [sheerlegref23_Find.l0]; rw [if_pos (by omega)]
  · simp only [sheerlegref23_Find.l0]; rw [if_neg (by omega)]
  · have hj := lt_of_some hx
    have hs := hl.syms i hi
    simp only [sheerlegref23_Find.l1]
    rw [if_pos (by omega), if_pos (by omega), rdO, if_pos (by omega), if_pos (by omega), rdY _ _ _ hx, wrap_succ hj hs]
    simp only [sheerlegref23_global.f, isFirst, isGlobal]
    by_cases he : x.f0 = s
    · by_cases hx1 : x.f1 = true
      · simp [hx1]
      · by_cases h4 : x.f4 = -1 <;> simp [hx1, h4, he]
    · have : ¬ x.f0.toList = s.toList := fun h => he (toList_inj h)
      by_cases hx1 : x.f1 = true
      · simp [hx1]
      · by_cases h4 : x.f4 = -1 <;> simp [hx1, h4, he, this]
  · simp only [sheerlegref23_Find.l1]
    rw [if_pos (by omega), if_pos (by omega), rdO, if_neg (by omega), wrap_succ hi hl.len]
theorem findS_eq (l : List S40) (s : ByteArray) : findS l s = ((((firstOf l s).getD (0, 0)).1 : Int), (((firstOf l s).getD (0, 0)).2 : Int), (firstOf l s).isSome) := by
  rw [firstOf_eq, findS]
  cases (symsFrom 0 l).find? (isFirst s) <;> rfl
end Go.Proofs.Ytnidmlngkpkmlaa.PScope
