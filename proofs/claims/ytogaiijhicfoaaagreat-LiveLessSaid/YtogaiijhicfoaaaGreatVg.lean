import Derived.Test.YtogaiijhicfoaaaGreatVf

/-
  Package verify: references, Instr, Check, Class.
-/
namespace Go.Proofs.YtogaiijhicfoaaaGreatV
set_option linter.unusedVariables false
set_option linter.unusedSimpArgs false
open Go.RowKit Go.Proofs.YtogaiijhicfoaaaGreatK Go.Proofs.YtogaiijhicfoaaaGreatT Go.Proofs.YtogaiijhicfoaaaGreatL

def fitsF (need : Int) (s : ApiSymbol) : Bool := if need = 3 then decide (s.fSort = 2) && decide (s.fKind = 0) else if need = 4 then decide (s.fSort = 2) && isC (IntKind.i64.wrap (s.fKind - 1)) else decide (s.fSort = 1)
abbrev atR (i : Int) (r : ApiReloc) : Bool := decide (r.fAt = i)
def markF (f : ApiFunc) (i : Int) : Int := idxI (atR i) f.fRelocs
def symF (f : ApiFunc) (i : Int) : Int := if markF f i < 0 then -1 else (f.fRelocs.getD (markF f i).toNat default).fSym
def symAtF (f : ApiFunc) (l : List ApiSymbol) (i : Int) : ApiSymbol := l.getD (symF f i).toNat default
def codeAt (f : ApiFunc) (i : Int) : ApiInstr := f.fCode.getD i.toNat default
def refE (f : ApiFunc) (l : List ApiSymbol) (i : Int) : Int := if needF (codeAt f i).fOp = 0 ∧ markF f i < 0 then 0 else if needF (codeAt f i).fOp = 0 ∨ markF f i < 0 ∨ symF f i < 0 ∨ (l.length : Int) ≤ symF f i then 11 else if fitsF (needF (codeAt f i).fOp) (symAtF f l i) then 0 else 8
def refS (f : ApiFunc) (l : List ApiSymbol) (i : Int) : ApiSymbol := if needF (codeAt f i).fOp = 0 ∨ refE f l i ≠ 0 then default else symAtF f l i
end Go.Proofs.YtogaiijhicfoaaaGreatV
