/-
  Values of methods.
-/
import Derived.Test.YtnidmlngkpkmlaaKga
namespace Go.Proofs.YtnidmlngkpkmlaaK
set_option linter.unusedVariables false
set_option linter.unusedSimpArgs false
open Go.RowKit
section
variable {c : Cx} {N : Md c} {d : Nat} {ty : TypeId} {pos : String} {af : Array Edge} {rest : List Oper} {E : Env} {D : List Deferred} {H : List Res}
theorem oMakeFuncB {n : Nat} {fst cap : Array Operand} {us vs : List Value} (hf : E.ops fst.toList = some us) (hc : E.ops cap.toList = some vs) (h : O N rest ((d, .func (.func n) us.toArray vs.toArray) :: E) D H) (hN : Nat.blt d c.N = true := by rfl) : O N (⟨some d, .makeFunc (.func n) fst cap, ty, pos, af, none⟩ :: rest) E D H :=
  oC _ rfl hN (fun u w ha hw => by
    have h1 : cap.map u.eval = vs.toArray := by
      apply Array.toList_inj.1
      simpa using ha.ops hc
    have h2 : fst.map u.eval = us.toArray := by
      apply Array.toList_inj.1
      simpa using ha.ops hf
    simp [execOp, h1, h2, Instr.makeFunc]) h
end
end Go.Proofs.YtnidmlngkpkmlaaK
