/-
  Plain laws of package scope.
-/
import Derived.Test.YtnidmlngkpkmlaaSb
namespace Go.Proofs.YtnidmlngkpkmlaaS
set_option linter.unusedVariables false
set_option linter.unusedSimpArgs false
open Go.RowKit Go.Proofs.YtnidmlngkpkmlaaK Go.Proofs.YtnidmlngkpkmlaaT

def firstOf (l : List ApiObject) (s : ByteArray) : Option (Nat × Nat) := fst_ (symsFrom 0 l) s
def isFirst (s : ByteArray) (y : Nat × Nat × ApiSymbol) : Bool := isGlobal y.2.2 && decide (y.2.2.fName = s)
theorem firstOf_eq (l : List ApiObject) (s : ByteArray) : firstOf l s = ((symsFrom 0 l).find? (isFirst s)).map (fun y => (y.1, y.2.1)) := rfl
theorem mem_symsFrom {y : Nat × Nat × ApiSymbol} : ∀ (i : Nat) (l : List ApiObject), y ∈ symsFrom i l ↔ ∃ j, y.1 = i + j ∧ j < l.length ∧ y.2.1 < (l.getD j default).fSymbols.length ∧ (l.getD j default).fSymbols.getD y.2.1 default = y.2.2
  | i, [] => by simp [symsFrom]
  | i, o :: l => by
    obtain ⟨y1, y2, x⟩ := y
    rw [symsFrom, List.mem_append, mem_symsFrom (i + 1) l]
    constructor
    · rintro (h | ⟨j, h1, h2, h3, h4⟩)
      · obtain ⟨k, hk, he⟩ := List.mem_mapIdx.1 h
        injection he with e1 e2
        injection e2 with e2 e3
        subst e1; subst e2; subst e3
        exact ⟨0, rfl, by simp, by simpa using hk, by simp [hk]⟩
      · exact ⟨j + 1, by simp only at h1 ⊢; omega, by simp; omega, by simpa using h3, by simpa using h4⟩
    · rintro ⟨j, h1, h2, h3, h4⟩
      cases j with
      | zero =>
        left
        have h3' : y2 < o.fSymbols.length := by simpa using h3
        refine List.mem_mapIdx.2 ⟨y2, h3', ?_⟩
        have : o.fSymbols[y2] = x := by simpa [h3'] using h4
        simp only [Nat.add_zero] at h1
        simp [h1, this]
      | succ j => exact .inr ⟨j, by simp only at h1 ⊢; omega, by simpa using h2, by simpa using h3, by simpa using h4⟩
def badAt (l : List ApiObject) (i k : Int) : Bool := decide (i < 0) || decide ((l.length : Int) ≤ i) || decide (k < 0) || decide (((l.getD i.toNat default).fSymbols.length : Int) ≤ k)
def symAt (l : List ApiObject) (i k : Int) : ApiSymbol := (l.getD i.toNat default).fSymbols.getD k.toNat default
def boundS (l : List ApiObject) (i k : Int) : Int × Int × Int :=
  if badAt l i k then (0, 0, 2) else
  if (symAt l i k).fDef ≠ -1 then (i, k, 0) else
  match firstOf l (symAt l i k).fName with
  | none => (0, 0, 13)
  | some p => if (symAt l p.1 p.2).fSort ≠ (symAt l i k).fSort ∨ (symAt l p.1 p.2).fKind ≠ (symAt l i k).fKind then (0, 0, 14) else (p.1, p.2, 0)
def twiceP (l : List ApiObject) (y : Nat × Nat × ApiSymbol) : Bool := isGlobal y.2.2 && !decide (((firstOf l y.2.2.fName).getD (0, 0)) = (y.1, y.2.1))
def twiceS (l : List ApiObject) : Option (Nat × Nat) := ((symsFrom 0 l).find? (twiceP l)).map (fun y => (y.1, y.2.1))

def NoneTo {α : Type} (P : α → Bool) (L : List α) (j : Nat) : Prop := (L.take j).find? P = none
theorem NoneTo.zero {α : Type} (P : α → Bool) (L : List α) : NoneTo P L 0 := rfl
theorem NoneTo.all {α : Type} {P : α → Bool} {L : List α} (h : NoneTo P L L.length) : L.find? P = none := by rw [NoneTo, List.take_length] at h; exact h
theorem NoneTo.next {α : Type} {P : α → Bool} {L : List α} {j : Nat} (h : NoneTo P L j) (hj : j < L.length) (hp : P L[j] = false) : NoneTo P L (j + 1) := by
  unfold NoneTo at *
  rw [List.take_succ_eq_append_getElem hj, List.find?_append, h]; simp [hp]
theorem NoneTo.found {α : Type} {P : α → Bool} {L : List α} {j : Nat} (h : NoneTo P L j) (hj : j < L.length) (hp : P L[j] = true) : L.find? P = some L[j] := by
  have e : L.find? P = (L.take j ++ L.drop j).find? P := by rw [List.take_append_drop]
  rw [e, List.find?_append, h, List.drop_eq_getElem_cons hj, List.find?_cons, hp]; rfl
def unboundP (l : List ApiObject) (y : Nat × Nat × ApiSymbol) : Bool := !decide ((boundS l y.1 y.2.1).2.2 = 0)
def checkS (l : List ApiObject) : Int × Int × Int :=
  if l.length = 0 ∨ 6 < l.length then (19, -1, -1) else
  match twiceS l with
  | some p => (12, p.1, p.2)
  | none => match (symsFrom 0 l).find? (unboundP l) with
    | some y => ((boundS l y.1 y.2.1).2.2, y.1, y.2.1)
    | none => (0, 0, 0)
theorem mem_syms {l : List ApiObject} {i k : Nat} {x : ApiSymbol} : (i, k, x) ∈ symsFrom 0 l ↔ i < l.length ∧ k < (l.getD i default).fSymbols.length ∧ (l.getD i default).fSymbols.getD k default = x := by
  rw [mem_symsFrom]
  constructor
  · rintro ⟨j, h1, h2, h3, h4⟩
    simp only [Nat.zero_add] at h1
    subst h1
    exact ⟨h2, h3, h4⟩
  · rintro ⟨h2, h3, h4⟩; exact ⟨i, by simp, h2, h3, h4⟩
/-- There is one global of a name. -/
def Uniq (l : List ApiObject) : Prop := ∀ i k x i' k' x', (i, k, x) ∈ symsFrom 0 l → (i', k', x') ∈ symsFrom 0 l → isGlobal x = true → isGlobal x' = true → x.fName = x'.fName → i = i' ∧ k = k'
theorem first_some {l : List ApiObject} {s : ByteArray} {p : Nat × Nat} (h : firstOf l s = some p) : ∃ x, (p.1, p.2, x) ∈ symsFrom 0 l ∧ isGlobal x = true ∧ x.fName = s := by
  rw [firstOf_eq] at h
  obtain ⟨⟨i, k, x⟩, hy, rfl⟩ := Option.map_eq_some_iff.1 h
  have h1 := List.mem_of_find?_eq_some hy
  have h2 := List.find?_some hy
  simp only [isFirst, Bool.and_eq_true, decide_eq_true_eq] at h2
  exact ⟨x, h1, h2⟩
theorem first_none {l : List ApiObject} {s : ByteArray} (h : firstOf l s = none) {i k : Nat} {x : ApiSymbol} (hm : (i, k, x) ∈ symsFrom 0 l) (hg : isGlobal x = true) : x.fName ≠ s := by
  rw [firstOf_eq, Option.map_eq_none_iff, List.find?_eq_none] at h
  have := h _ hm
  simpa [isFirst, hg] using this
theorem uniq_first {l : List ApiObject} (hu : Uniq l) {i k : Nat} {x : ApiSymbol} (hm : (i, k, x) ∈ symsFrom 0 l) (hg : isGlobal x = true) : firstOf l x.fName = some (i, k) := by
  cases h : firstOf l x.fName with
  | none => exact absurd rfl (first_none h hm hg)
  | some p =>
    obtain ⟨x', h1, h2, h3⟩ := first_some h
    obtain ⟨e1, e2⟩ := hu _ _ _ _ _ _ h1 hm h2 hg h3
    rw [← e1, ← e2]
theorem uniq_of_twice {l : List ApiObject} (h : twiceS l = none) : Uniq l := by
  have ht : ∀ i k x, (i, k, x) ∈ symsFrom 0 l → isGlobal x = true → (firstOf l x.fName).getD (0, 0) = (i, k) := fun i k x hm hg => by
    rw [twiceS, Option.map_eq_none_iff, List.find?_eq_none] at h
    have := h _ hm
    simpa [twiceP, hg] using this
  intro i k x i' k' x' hm hm' hg hg' he
  have h1 := ht _ _ _ hm hg
  have h2 := ht _ _ _ hm' hg'
  rw [he, h2] at h1
  injection h1 with e1 e2
  exact ⟨e1.symm, e2.symm⟩
theorem twice_of_uniq {l : List ApiObject} (h : Uniq l) : twiceS l = none := by
  rw [twiceS, Option.map_eq_none_iff, List.find?_eq_none]
  rintro ⟨i, k, x⟩ hm
  simp only [twiceP, Bool.and_eq_true, Bool.not_eq_true', decide_eq_false_iff_not, not_and, Classical.not_not]
  intro hg
  rw [uniq_first h hm hg]; rfl
/-- What is right. -/
structure Right (l : List ApiObject) : Prop where
  pos : 0 < l.length
  six : l.length ≤ 6
  uniq : Uniq l
  bound : ∀ i k x, (i, k, x) ∈ symsFrom 0 l → (boundS l i k).2.2 = 0
theorem right_of_check {l : List ApiObject} (h : (checkS l).1 = 0) : Right l := by
  unfold checkS at h
  split at h
  · simp at h
  · rename_i hn
    split at h
    · simp at h
    · rename_i ht
      split at h
      · rename_i y hy
        have := List.find?_some hy
        simp only [unboundP, Bool.not_eq_true', decide_eq_false_iff_not] at this
        exact absurd h this
      · rename_i hy
        refine ⟨by omega, by omega, uniq_of_twice ht, fun i k x hm => ?_⟩
        have := (List.find?_eq_none.1 hy) _ hm
        simpa [unboundP] using this
theorem check_of_right {l : List ApiObject} (h : Right l) : checkS l = (0, 0, 0) := by
  unfold checkS
  rw [if_neg (by have := h.pos; have := h.six; omega), twice_of_uniq h.uniq]
  have : (symsFrom 0 l).find? (unboundP l) = none := by
    rw [List.find?_eq_none]
    rintro ⟨i, k, x⟩ hm
    simp [unboundP, h.bound i k x hm]
  rw [this]

theorem rev_get (l : List ApiObject) (i : Nat) (h : i < l.length) : l.reverse.getD (l.length - 1 - i) default = l.getD i default := by
  rw [List.getD_eq_getElem?_getD, List.getD_eq_getElem?_getD, List.getElem?_reverse (by omega)]
  congr 2; omega
theorem mem_rev {l : List ApiObject} {i k : Nat} {x : ApiSymbol} (hi : i < l.length) : (l.length - 1 - i, k, x) ∈ symsFrom 0 l.reverse ↔ (i, k, x) ∈ symsFrom 0 l := by
  rw [mem_syms, mem_syms, rev_get l i hi, List.length_reverse]
  constructor
  · rintro ⟨_, h⟩; exact ⟨hi, h⟩
  · rintro ⟨_, h⟩; exact ⟨by omega, h⟩
theorem mem_rev' {l : List ApiObject} {i k : Nat} {x : ApiSymbol} (hm : (i, k, x) ∈ symsFrom 0 l.reverse) : i < l.length ∧ (l.length - 1 - i, k, x) ∈ symsFrom 0 l := by
  have hi : i < l.length := by have := (mem_syms.1 hm).1; simpa using this
  refine ⟨hi, (mem_rev (i := l.length - 1 - i) (by omega)).1 ?_⟩
  rw [show l.length - 1 - (l.length - 1 - i) = i by omega]
  exact hm
theorem uniq_rev {l : List ApiObject} (h : Uniq l) : Uniq l.reverse := by
  intro i k x i' k' x' hm hm' hg hg' he
  obtain ⟨h1, h2⟩ := mem_rev' hm
  obtain ⟨h1', h2'⟩ := mem_rev' hm'
  obtain ⟨e1, e2⟩ := h _ _ _ _ _ _ h2 h2' hg hg' he
  exact ⟨by omega, e2⟩
theorem first_rev {l : List ApiObject} (h : Uniq l) (s : ByteArray) : firstOf l.reverse s = (firstOf l s).map (fun p => (l.length - 1 - p.1, p.2)) := by
  cases hf : firstOf l s with
  | some p =>
    obtain ⟨x, hm, hg, rfl⟩ := first_some hf
    have hi := (mem_syms.1 hm).1
    exact uniq_first (uniq_rev h) ((mem_rev hi).2 hm) hg
  | none =>
    cases hr : firstOf l.reverse s with
    | none => rfl
    | some p =>
      obtain ⟨x, hm, hg, rfl⟩ := first_some hr
      exact absurd rfl (first_none hf (mem_rev' hm).2 hg)
theorem symAt_eq {l : List ApiObject} {i k : Nat} {x : ApiSymbol} (hm : (i, k, x) ∈ symsFrom 0 l) : symAt l i k = x ∧ badAt l i k = false := by
  obtain ⟨h1, h2, h3⟩ := mem_syms.1 hm
  refine ⟨by simpa [symAt] using h3, ?_⟩
  unfold badAt
  rw [Int.toNat_natCast, decide_eq_false (show ¬ (i : Int) < 0 by omega), decide_eq_false (show ¬ (k : Int) < 0 by omega), decide_eq_false (show ¬ (l.length : Int) ≤ i by omega), decide_eq_false (by omega)]
  rfl
/-- To what a symbol is bound, where nothing is wrong. -/
theorem bound_right {l : List ApiObject} {i k : Nat} {x : ApiSymbol} (hm : (i, k, x) ∈ symsFrom 0 l) (h0 : (boundS l i k).2.2 = 0) :
    ∃ a b y, (a, b, y) ∈ symsFrom 0 l ∧ boundS l i k = ((a : Int), (b : Int), (0 : Int)) ∧ y.fDef ≠ -1 ∧ y.fName = x.fName ∧ y.fSort = x.fSort ∧ y.fKind = x.fKind ∧ ((x.fDef ≠ -1 ∧ a = i ∧ b = k) ∨ (x.fDef = -1 ∧ firstOf l x.fName = some (a, b))) := by
  obtain ⟨hs, hb⟩ := symAt_eq hm
  have hu : boundS l i k = if x.fDef ≠ -1 then ((i : Int), (k : Int), (0 : Int)) else match firstOf l x.fName with
    | none => (0, 0, 13)
    | some p => if (symAt l p.1 p.2).fSort ≠ x.fSort ∨ (symAt l p.1 p.2).fKind ≠ x.fKind then (0, 0, 14) else ((p.1 : Int), (p.2 : Int), (0 : Int)) := by
    unfold boundS; rw [hb, hs]; simp only [Bool.false_eq_true, if_false]
  by_cases h4 : x.fDef = -1
  · rw [if_neg (by simpa using h4)] at hu
    cases hf : firstOf l x.fName with
    | none => rw [hf] at hu; rw [hu] at h0; simp at h0
    | some p =>
      obtain ⟨a, b⟩ := p
      rw [hf] at hu
      obtain ⟨y, hm', hg, hn⟩ := first_some hf
      obtain ⟨hs', _⟩ := symAt_eq hm'
      dsimp only at hu hm'
      rw [hs'] at hu
      by_cases hc : y.fSort ≠ x.fSort ∨ y.fKind ≠ x.fKind
      · rw [if_pos hc] at hu; rw [hu] at h0; simp at h0
      · rw [if_neg hc] at hu
        simp only [not_or, Classical.not_not] at hc
        refine ⟨a, b, y, hm', hu, ?_, hn, hc.1, hc.2, .inr ⟨h4, rfl⟩⟩
        simp only [isGlobal, Bool.and_eq_true] at hg
        simpa using hg.2
  · rw [if_pos h4] at hu
    exact ⟨i, k, x, hm, hu, h4, rfl, rfl, rfl, .inl ⟨h4, rfl, rfl⟩⟩
theorem bound_rev {l : List ApiObject} (hr : Right l) {i k : Nat} {x : ApiSymbol} (hm : (i, k, x) ∈ symsFrom 0 l) {a b : Nat} (hb : boundS l i k = ((a : Int), (b : Int), (0 : Int))) :
    boundS l.reverse ((l.length - 1 - i : Nat) : Int) k = (((l.length - 1 - a : Nat) : Int), (b : Int), (0 : Int)) := by
  have hi := (mem_syms.1 hm).1
  obtain ⟨a', b', y, hm', hb', h4, hn, h2, h3, hor⟩ := bound_right hm (by rw [hb])
  rw [hb] at hb'
  injection hb' with e1 e2
  injection e2 with e2 _
  obtain rfl : a = a' := by omega
  obtain rfl : b = b' := by omega
  obtain ⟨hs, hbad⟩ := symAt_eq ((mem_rev hi).2 hm)
  unfold boundS
  rw [hbad, hs]
  simp only [Bool.false_eq_true, if_false]
  rcases hor with ⟨h, rfl, rfl⟩ | ⟨h, hf⟩
  · rw [if_pos h]
  · rw [if_neg (by simpa using h), first_rev hr.uniq, hf]
    have ha := (mem_syms.1 hm').1
    obtain ⟨hs', _⟩ := symAt_eq ((mem_rev ha).2 hm')
    simp only [Option.map_some]
    rw [hs', if_neg (by simp [h2, h3])]
theorem right_rev {l : List ApiObject} (hr : Right l) : Right l.reverse := by
  refine ⟨by simpa using hr.pos, by simpa using hr.six, uniq_rev hr.uniq, fun i k x hm => ?_⟩
  obtain ⟨hi, hm'⟩ := mem_rev' hm
  obtain ⟨a, b, y, _, hb, _⟩ := bound_right hm' (hr.bound _ _ _ hm')
  have := bound_rev hr hm' hb
  rw [show l.length - 1 - (l.length - 1 - i) = i by omega] at this
  rw [this]
end Go.Proofs.YtnidmlngkpkmlaaS
