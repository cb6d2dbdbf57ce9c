import Derived.Test.YtogaiijhicfoaaaGreatVa

/-
  Package instr: numbers, Operand, Check; package fun: rising, slots, lines, relocs.
-/
namespace Go.Proofs.YtogaiijhicfoaaaGreatV
set_option linter.unusedVariables false
set_option linter.unusedSimpArgs false
open Go.RowKit Go.Proofs.YtogaiijhicfoaaaGreatK Go.Proofs.YtogaiijhicfoaaaGreatT Go.Proofs.YtogaiijhicfoaaaGreatL

theorem any_T {n j : Nat} {p : Nat → Bool} (hj : j < n) (h : p j = true) : (List.range n).any p = true := List.any_eq_true.2 ⟨j, List.mem_range.2 hj, h⟩
theorem any_F {n : Nat} {p : Nat → Bool} (h : ∀ j, j < n → p j = false) : (List.range n).any p = false := List.any_eq_false.2 (fun j hj => by rw [h j (List.mem_range.1 hj)]; simp)
def fstE : List Int → Int
  | [] => 0
  | e :: l => if e ≠ 0 then e else fstE l
theorem fstE_app {l l' : List Int} (h : fstE l = 0) : fstE (l ++ l') = fstE l' := by
  induction l with
  | nil => rfl
  | cons e l ih =>
    unfold fstE at h
    split at h
    · next k => exact absurd h k
    · next k => show (if e ≠ 0 then e else fstE (l ++ l')) = _; rw [if_neg k]; exact ih h
theorem fstE_stop {l : List Int} {i : Nat} {e : Int} (h : fstE (l.take i) = 0) (hi : l[i]? = some e) (he : e ≠ 0) : fstE l = e := by
  obtain ⟨hl, he0⟩ := List.getElem?_eq_some_iff.1 hi
  have h1 : l = l.take i ++ (e :: l.drop (i + 1)) := by rw [← he0, ← List.drop_eq_getElem_cons hl, List.take_append_drop]
  have h2 : fstE (l.take i ++ (e :: l.drop (i + 1))) = e := by
    rw [fstE_app h]
    show (if e ≠ 0 then e else _) = _
    rw [if_pos he]
  rw [← h1] at h2
  exact h2
theorem fstE_next {l : List Int} {i : Nat} {e : Int} (h : fstE (l.take i) = 0) (hi : l[i]? = some e) (he : e = 0) : fstE (l.take (i + 1)) = 0 := by
  rw [List.take_add_one, hi, fstE_app h]
  subst he; rfl
theorem fstE_zero {l : List Int} : fstE l = 0 ↔ ∀ e ∈ l, e = 0 := by
  induction l with
  | nil => simp [fstE]
  | cons e l ih =>
    unfold fstE
    split
    · next k => constructor
                · intro h; exact absurd h k
                · intro h; exact absurd (h e List.mem_cons_self) k
    · next k => rw [ih]; constructor
                · intro h x hx
                  rcases List.mem_cons.1 hx with rfl | hx
                  · omega
                  · exact h x hx
                · intro h x hx; exact h x (List.mem_cons_of_mem _ hx)
def numsL (x : ApiInstr) : List Int := [x.fOp, x.fA, x.fB, x.fC, x.fN]
def opdF (x : ApiInstr) (i : Int) : Int := if i < 0 ∨ 3 < i then 0 else (numsL x).getD (1 + i.toNat) 0
def badA (x : ApiInstr) (j : Nat) : Bool := decide ((numsL x).getD (1 + j) 0 < 0 ∨ 255 < (numsL x).getD (1 + j) 0)
def badS (x : ApiInstr) (j : Nat) : Bool := decide (byteAt (shapeF x.fOp) j = 45) && decide ((numsL x).getD (1 + j) 0 ≠ 0)
def icF (x : ApiInstr) : Int := if nameF x.fOp = ByteArray.empty then 8 else if (List.range 3).any (badA x) then 9 else if x.fN < -2147483648 ∨ 2147483647 < x.fN then 9 else if (List.range (shapeF x.fOp).size).any (badS x) then 2 else 0
def risF (n last : Int) : List Int → Bool
  | [] => true
  | a :: l => if a ≤ last ∨ n ≤ a then false else risF n a l
end Go.Proofs.YtogaiijhicfoaaaGreatV
