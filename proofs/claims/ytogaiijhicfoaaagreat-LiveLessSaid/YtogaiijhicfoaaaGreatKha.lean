import Derived.Test.YtogaiijhicfoaaaGreatKhb
import Derived.Laws.RangeAny
import Derived.Laws.IdiomStrings

/-
  The walk's rules: strings (bytes, runes, ranges), arrays by value, slices of arrays, shifts and bits by one.
-/
namespace Go.Proofs.YtogaiijhicfoaaaGreatK
set_option linter.unusedVariables false
set_option linter.unusedSimpArgs false
open Go.RowKit
section
variable {c : Cx} {M : Md c} {d : Nat} {ty : TypeId} {pos : String} {af : Array Edge} {rest : List Oper} {E : Env} {D : List Deferred} {H H' : List Res} {x y : Operand} {t t' : TypeId} {v : Value}
def byteAt (s : ByteArray) (i : Nat) : Int := ((s[i]?).map fun b => (b.toNat : Int)).getD 0
theorem byteAt_eq {s : ByteArray} {i : Nat} (h : i < s.size) : byteAt s i = ((s[i]'h).toNat : Int) := by
  unfold byteAt
  rw [getElem?_pos s i h]; rfl
theorem oIndexStr {s : ByteArray} {k : IntKind} {i : Nat} (hx : E.op x = some (.string s)) (hy : E.op y = some (.int k (i : Int))) (ht : c.P.underlying t = some .string) (hi : i < s.size) (h : O M rest ((d, .int .u8 (byteAt s i)) :: E) D H) (hN : Nat.blt d c.N = true := by rfl) : O M (⟨some d, .index t x y, ty, pos, af, none⟩ :: rest) E D H :=
  oC _ rfl hN (fun u w ha hw => by
    have e1 : s[i]? = some (s[i]'hi) := getElem?_pos s i hi
    simp [execOp, ha.op hx, ha.op hy, Instr.index, asIntOf, run_underlying ht, e1, byteAt_eq hi]) h
theorem wCondTd {x' y' : Code} {Q : Post} {D' : List Deferred} {H' : List Res} {o : Operand} {p : Prop} [Decidable p] (hp : p) (hc : E.op o = some (.bool (decide p))) (h : W c x' Q E D' H') : W c (.cond o x' y') Q E D' H' := wCondT (by rw [hc, decide_eq_true hp]) h
theorem wCondFd {x' y' : Code} {Q : Post} {D' : List Deferred} {H' : List Res} {o : Operand} {p : Prop} [Decidable p] (hp : ¬ p) (hc : E.op o = some (.bool (decide p))) (h : W c y' Q E D' H') : W c (.cond o x' y') Q E D' H' := wCondF (by rw [hc, decide_eq_false hp]) h
theorem wCondTb {x' y' : Code} {Q : Post} {D' : List Deferred} {H' : List Res} {o : Operand} {b : Bool} (hp : b = true) (hc : E.op o = some (.bool b)) (h : W c x' Q E D' H') : W c (.cond o x' y') Q E D' H' := wCondT (by rw [hc, hp]) h
theorem wCondFb {x' y' : Code} {Q : Post} {D' : List Deferred} {H' : List Res} {o : Operand} {b : Bool} (hp : b = false) (hc : E.op o = some (.bool b)) (h : W c y' Q E D' H') : W c (.cond o x' y') Q E D' H' := wCondF (by rw [hc, hp]) h
def runesL (s : ByteArray) : List Int := (List.range s.size).map (byteAt s)
end
end Go.Proofs.YtogaiijhicfoaaaGreatK
