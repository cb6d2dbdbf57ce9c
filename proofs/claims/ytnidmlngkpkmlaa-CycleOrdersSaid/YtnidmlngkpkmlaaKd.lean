/-
  Lists of cells: what is read, set, cut and built, as relations whose proofs spell the outcome.
-/
import Derived.Test.YtnidmlngkpkmlaaKc
namespace Go.Proofs.YtnidmlngkpkmlaaK
set_option linter.unusedVariables false
set_option linter.unusedSimpArgs false
open Go.RowKit
section
variable {α : Type}
inductive SetAt : List α → Nat → α → List α → Prop
  | here {c v : α} {cs : List α} : SetAt (c :: cs) 0 v (v :: cs)
  | there {c v : α} {cs ds : List α} {n : Nat} (h : SetAt cs n v ds) : SetAt (c :: cs) (n + 1) v (c :: ds)
theorem SetAt.spec {cs ds : List α} {n : Nat} {v : α} (h : SetAt cs n v ds) : n < cs.length ∧ cs.set n v = ds := by
  induction h with
  | here => simp
  | there _ ih => simp [ih.1, ih.2]
inductive SubL : List α → Nat → Nat → List α → Prop
  | done {cs : List α} : SubL cs 0 0 []
  | take {c : α} {cs ds : List α} {n : Nat} (h : SubL cs 0 n ds) : SubL (c :: cs) 0 (n + 1) (c :: ds)
  | drop {c : α} {cs ds : List α} {i n : Nat} (h : SubL cs i n ds) : SubL (c :: cs) (i + 1) n ds
theorem SubL.spec {cs ds : List α} {i n : Nat} (h : SubL cs i n ds) : (cs.drop i).take n = ds ∧ ds.length = n := by
  induction h with
  | done => simp
  | take _ ih => simp [ih.1, ih.2]; simpa using ih.1
  | drop _ ih => simpa using ih
inductive PutL : List α → Nat → List α → List α → Prop
  | done {cs : List α} : PutL cs 0 [] cs
  | put {c v : α} {cs vs ds : List α} (h : PutL cs 0 vs ds) : PutL (c :: cs) 0 (v :: vs) (v :: ds)
  | skip {c : α} {cs vs ds : List α} {n : Nat} (h : PutL cs n vs ds) : PutL (c :: cs) (n + 1) vs (c :: ds)
theorem PutL.len {cs vs ds : List α} {n : Nat} (h : PutL cs n vs ds) : n + vs.length ≤ cs.length ∧ ds.length = cs.length := by
  induction h with
  | done => simp
  | put _ ih => simp; omega
  | skip _ ih => simp; omega
theorem PutL.step {cs vs ds : List α} {v : α} {n : Nat} (h : PutL cs n (v :: vs) ds) : PutL (cs.set n v) (n + 1) vs ds := by
  generalize he : v :: vs = us at h
  induction h with
  | done => cases he
  | put h ih =>
    injection he with e1 e2
    subst e1 e2
    exact .skip h
  | skip h ih => exact .skip (ih he)
theorem PutL.nil {cs ds : List α} {n : Nat} (h : PutL cs n [] ds) : cs = ds := by
  generalize he : ([] : List α) = us at h
  induction h with
  | done => rfl
  | put h ih => cases he
  | skip h ih => rw [ih he]
theorem PutL.fold {off : Nat} : ∀ {vs cs ds : List α} (k : Nat), PutL cs (off + k) vs ds → (vs.zipIdx k).foldl (fun (cs : Array α) (p : α × Nat) => cs.setIfInBounds (off + p.2) p.1) cs.toArray = ds.toArray
  | [], cs, ds, k, h => by rw [h.nil]; rfl
  | v :: vs, cs, ds, k, h => by
    rw [List.zipIdx_cons, List.foldl_cons]
    simp only [List.setIfInBounds_toArray]
    exact PutL.fold (k + 1) h.step
end
/-- The cells of a value. -/
inductive CellsOf : Value → List Value → Prop
  | agg {vs : List Value} : CellsOf (.agg vs.toArray) vs
  | one {v : Value} (h : v.cells = #[v]) : CellsOf v [v]
theorem CellsOf.spec {v : Value} {vs : List Value} (h : CellsOf v vs) : v.cells = vs.toArray := by
  cases h with
  | agg => rfl
  | one h => exact h
inductive Built (place : Nat → Option (Nat × Nat)) : List Value → List (Nat × Value) → List Value → Prop
  | nil {cs : List Value} : Built place cs [] cs
  | cons {cs ds es vs : List Value} {i off s : Nat} {v : Value} {rest : List (Nat × Value)} (h : place i = some (off, s)) (hc : CellsOf v vs) (hl : vs.length = s) (hp : PutL cs off vs ds) (k : Built place ds rest es) : Built place cs ((i, v) :: rest) es
theorem Built.spec {place : Nat → Option (Nat × Nat)} {cs es : List Value} {ps : List (Nat × Value)} (h : Built place cs ps es) : Instr.fill place cs.toArray ps = some es.toArray := by
  induction h with
  | nil => rfl
  | @cons cs ds es vs i off s v rest h hc hl hp k ih =>
    have h1 := hc.spec
    have h2 := hp.len
    rw [Instr.fill, h]
    simp only []
    rw [if_neg (by rw [h1]; simp; omega), h1]
    have h3 := PutL.fold (off := off) 0 (by simpa using hp)
    rw [show vs.toArray.zipIdx = (vs.zipIdx 0).toArray by simp, List.foldl_toArray']
    · exact h3 ▸ ih
    · simp
/-- Operands with their places, as values. -/
inductive Parts (E : Env) : List (Nat × Operand) → List (Nat × Value) → Prop
  | nil : Parts E [] []
  | cons {i : Nat} {x : Operand} {v : Value} {ps : List (Nat × Operand)} {vs : List (Nat × Value)} (h : E.op x = some v) (k : Parts E ps vs) : Parts E ((i, x) :: ps) ((i, v) :: vs)
theorem Parts.spec {E : Env} {a : Act} (ha : Fits E a) {ps : List (Nat × Operand)} {vs : List (Nat × Value)} (h : Parts E ps vs) : ps.map (fun p => (p.1, a.eval p.2)) = vs := by
  induction h with
  | nil => rfl
  | cons h _ ih => simp [ha.op h, ih]
end Go.Proofs.YtnidmlngkpkmlaaK
