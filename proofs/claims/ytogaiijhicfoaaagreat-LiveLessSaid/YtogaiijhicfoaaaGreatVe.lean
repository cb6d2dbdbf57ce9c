import Derived.Test.YtogaiijhicfoaaaGreatVd

/-
  Package verify: what a checker tells of operands.
-/
namespace Go.Proofs.YtogaiijhicfoaaaGreatV
set_option linter.unusedVariables false
set_option linter.unusedSimpArgs false
open Go.RowKit Go.Proofs.YtogaiijhicfoaaaGreatK Go.Proofs.YtogaiijhicfoaaaGreatT Go.Proofs.YtogaiijhicfoaaaGreatL

structure FunA where
  A0 : Option Addr
  c0 : Nat
  A1 : Option Addr
  c1 : Nat
  A2 : Option Addr
  c2 : Nat
  A3 : Option Addr
  c3 : Nat
abbrev symL (s : ApiSymbol) : List Value := [.string s.fName, .bool s.fLocal, .int .i64 s.fSort, .int .i64 s.fKind, .int .i64 s.fDef]
def slotF (kinds : List Int) (at_ kind : Int) : Int := if at_ < 0 ∨ (kinds.length : Int) ≤ at_ then 9 else if kinds.getD at_.toNat 0 ≠ kind then 8 else 0
def zeroF (at_ : Int) : Int := if at_ ≠ 0 then 2 else 0
def nCall (k : Int) : Int := if parF k = 0 ∧ ansF k = true then 1 else parF k
def callF (kinds : List Int) (k at_ : Int) : Int := if nCall k = 0 then zeroF at_ else fstE ((List.range (nCall k).toNat).map fun i : Nat => slotF kinds (IntKind.i64.wrap (at_ + (i : Int))) 0)
def lateF (kinds : List Int) (k at_ : Int) : Int := if parF k = 0 then zeroF at_ else slotF kinds at_ 0
def answF (kinds : List Int) (c at_ : Int) : Int := if ansF c then slotF kinds at_ 0 else zeroF at_
theorem nCall_in (k : Int) : 0 ≤ nCall k ∧ nCall k ≤ 3 := by
  have := parF_in k
  unfold nCall
  split <;> omega
section
variable {B : Base} {w : World} {b : Nat} {f : ApiFunc} {a : FunA} {x : ApiInstr} {s : ApiSymbol} {k : Int}
end
def looksL : List (ByteArray × Nat) := [(⟨#[119, 114]⟩, 306), (⟨#[103, 102]⟩, 307), (⟨#[99]⟩, 308), (⟨#[100]⟩, 309), (⟨#[118]⟩, 310), (⟨#[116, 110, 107, 45]⟩, 311)]
def lookV (f : ApiFunc) (k n : Int) (j : Nat) : Int := [slotF f.fKinds n 0, slotF f.fKinds n (IntKind.i64.wrap (1 + k)), callF f.fKinds k n, lateF f.fKinds k n, answF f.fKinds f.fClass n, 0].getD j 0
end Go.Proofs.YtogaiijhicfoaaaGreatV
