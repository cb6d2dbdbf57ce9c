import Derived.Test.YtogaiijhicfoaaaGreatVc

/-
  Package fun: Check.
-/
namespace Go.Proofs.YtogaiijhicfoaaaGreatV
set_option linter.unusedVariables false
set_option linter.unusedSimpArgs false
open Go.RowKit Go.Proofs.YtogaiijhicfoaaaGreatK Go.Proofs.YtogaiijhicfoaaaGreatT Go.Proofs.YtogaiijhicfoaaaGreatL

def kindBad (par : Int) (i : Nat) (k : Int) : Bool := decide (textF k = ByteArray.empty) || (decide ((i : Int) < par) && decide (k ≠ 0))
def slotsF (f : ApiFunc) : Int := if isC f.fClass then (if 16 < f.fKinds.length then 6 else if (f.fKinds.length : Int) < parF f.fClass then 2 else if (List.range f.fKinds.length).any (fun i => kindBad (parF f.fClass) i (f.fKinds.getD i 0)) then 8 else 0) else 14
theorem getDat {α : Type} {l : List α} {i : Nat} {o d : α} (h : l[i]? = some o) : l.getD i d = o := by rw [List.getD_eq_getElem?_getD, h]; rfl
def ceF (x : ApiInstr) : Int := if icF x ≠ 0 then icF x else if ownF x.fOp then 0 else 8
def codeF (f : ApiFunc) : Int := if flowF f.fCode ≠ 0 then flowF f.fCode else fstE (f.fCode.map ceF)
def lineBad (x : ApiLine) : Bool := decide (x.fLine < 0 ∨ 65535 < x.fLine)
def linesF (f : ApiFunc) : Int := if 16 < f.fLines.length then 6 else if f.fLines.any lineBad then 9 else if (f.fLines.map (·.fAt)).getD 0 0 ≠ 0 ∨ risF f.fCode.length (-1) (f.fLines.map (·.fAt)) = false then 9 else 0
def relBad (x : ApiReloc) : Bool := decide (x.fSym < 0 ∨ 32 ≤ x.fSym)
def relocsF (f : ApiFunc) : Int := if f.fRelocs.any relBad then 11 else if risF f.fCode.length (-1) (f.fRelocs.map (·.fAt)) then 0 else 11
def funF (f : ApiFunc) : Int := if slotsF f ≠ 0 then slotsF f else if f.fPad < 0 ∨ 4096 < f.fPad then 9 else if codeF f ≠ 0 then codeF f else if f.fFrom < 0 ∨ f.fTo < f.fFrom ∨ (f.fCode.length : Int) < f.fTo then 9 else if linesF f ≠ 0 then linesF f else relocsF f
end Go.Proofs.YtogaiijhicfoaaaGreatV
