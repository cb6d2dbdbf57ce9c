import Derived.Test.YtogaiijhicfoaaaGreatVe

/-
  Package verify: operands, references, Instr, Check, Class.
-/
namespace Go.Proofs.YtogaiijhicfoaaaGreatV
set_option linter.unusedVariables false
set_option linter.unusedSimpArgs false
open Go.RowKit Go.Proofs.YtogaiijhicfoaaaGreatK Go.Proofs.YtogaiijhicfoaaaGreatT Go.Proofs.YtogaiijhicfoaaaGreatL

def hasL (j : Nat) (letter : Int) : Bool := (runesL (looksL.getD j (ByteArray.empty, 0)).1).any fun y => decide (letter = y)
def lookE (f : ApiFunc) (k letter n : Int) (j : Nat) : Int := if hasL j letter then lookV f k n j else 0
def letE (f : ApiFunc) (k letter n : Int) : Int := fstE ((List.range 6).map (lookE f k letter n))
def opsE (f : ApiFunc) (x : ApiInstr) (k : Int) (i : Nat) : Int := letE f k (byteAt (shapeF x.fOp) i) (opdF x i)
def operF (f : ApiFunc) (x : ApiInstr) (k : Int) : Int := fstE ((List.range (shapeF x.fOp).size).map (opsE f x k))
theorem rmap_at {n i : Nat} {e : Nat → Int} (h : i < n) : ((List.range n).map e)[i]? = some (e i) := by rw [List.getElem?_map, List.getElem?_range h]; rfl
theorem rmap_all {n : Nat} {e : Nat → Int} : ((List.range n).map e).take n = (List.range n).map e := List.take_of_length_le (by simp)
end Go.Proofs.YtogaiijhicfoaaaGreatV
