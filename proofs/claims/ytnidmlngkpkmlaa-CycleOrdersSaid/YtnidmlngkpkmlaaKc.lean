/-
  The walk's rules for operations that leave the world alone.
-/
import Derived.Test.YtnidmlngkpkmlaaKb
import Derived.IntWalk
import Derived.WideLaws
import Derived.Laws.Strings
namespace Go.Proofs.YtnidmlngkpkmlaaK
set_option linter.unusedVariables false
set_option linter.unusedSimpArgs false
open Go.RowKit
variable {c : Cx} {M : Md c} {d : Nat} {ty : TypeId} {pos : String} {af : Array Edge} {rest : List Oper} {E : Env} {D : List Deferred} {H H' : List Res} {v : Value} {x y z : Operand} {k : IntKind} {t t' : TypeId}

theorem oC {op : Op} (v : Value) (hp : plain op = true) (hN : Nat.blt d c.N = true) (hy : ∀ a w, Fits E a → St c.B H w → (execOp a.eval ⟨some d, op, ty, pos, af, none⟩).run c.P w = .ok (.value v) w)
    (k : O M rest ((d, v) :: E) D H) : O M (⟨some d, op, ty, pos, af, none⟩ :: rest) E D H :=
  fun a w ha hw => M.calm _ _ _ _ v rfl hp (hy a w ha.fit hw) (k _ _ (ha.put hN) hw)

/-! ### guards -/
theorem bool_find {E : Env} {a : Act} (h : Fits E a) {t : Nat} {b : Bool} (hf : E.find t = some (.bool b)) : a.tmps[t]? = some (.bool b) := by
  have := h t _ hf
  rw [Array.getD_eq_getD_getElem?] at this
  cases hx : a.tmps[t]? with
  | none => rw [hx] at this; simp [undef] at this
  | some u => rw [hx] at this; simp at this; rw [this]
theorem yielded_of {E : Env} {a : Act} (h : Fits E a) {ops : Array Oper} {j t : Nat} {b : Bool} (hj : (ops[j]?).bind (·.dst) = some t) (hf : E.find t = some (.bool b)) : yielded ops a.tmps j = some b := by
  unfold yielded
  rw [hj]
  simp only [Option.bind_some, bool_find h hf]
theorem oSkip {op : Op} {j t : Nat} {b b' : Bool} (hj : (M.ops[j]?).bind (·.dst) = some t) (hf : E.find t = some (.bool b)) (hb : (b == b') = false) (hN : Nat.blt d c.N = true)
    (k : O M rest ((d, undef) :: E) D H) : O M (⟨some d, op, ty, pos, af, some (j, b')⟩ :: rest) E D H :=
  fun a w ha hw => M.skip _ _ _ _ (by
    simp only [Region.wanted, yielded_of ha.fit hj hf]
    simpa using hb) (k _ _ (ha.put hN) hw)
/-- What hangs on a thing that was not reckoned isn't either. -/
theorem oSkipU {op : Op} {j t : Nat} {b' : Bool} (hj : (M.ops[j]?).bind (·.dst) = some t) (hf : E.find t = some undef) (hN : Nat.blt d c.N = true)
    (k : O M rest ((d, undef) :: E) D H) : O M (⟨some d, op, ty, pos, af, some (j, b')⟩ :: rest) E D H :=
  fun a w ha hw => M.skip _ _ _ _ (by
    have h1 := ha.fit t _ hf
    rw [Array.getD_eq_getD_getElem?] at h1
    simp only [Region.wanted, yielded, hj, Option.bind_some]
    cases hx : a.tmps[t]? with
    | none => simp
    | some u =>
      rw [hx] at h1
      simp only [Option.getD_some] at h1
      subst h1
      simp [undef]) (k _ _ (ha.put hN) hw)
theorem oWant {op : Op} {dst : Option Tmp} {j t : Nat} {b' : Bool} (hj : (M.ops[j]?).bind (·.dst) = some t) (hf : E.find t = some (.bool b'))
    (k : O M (⟨dst, op, ty, pos, af, none⟩ :: rest) E D H) : O M (⟨dst, op, ty, pos, af, some (j, b')⟩ :: rest) E D H :=
  fun a w ha hw => M.want _ _ _ _ _ _ _ _ _ (by
    simp only [Region.wanted, yielded_of ha.fit hj hf]
    simp) (k a w ha hw)
theorem Ok.over {N : Nat} {a : Act} (h : Ok N E D a) {t : Nat} {v : Value} (hf : E.find t = some v) : Ok N ((t, v) :: E) D a := ⟨h.size, fun s u hu => by
  rw [Env.find_cons] at hu
  split at hu
  · rename_i e; subst e; injection hu with hu; subst hu; exact h.fit _ _ hf
  · exact h.fit _ _ hu, h.dfr⟩
theorem oSplit {l : List Oper} {t : Nat} {p : Prop} [Decidable p] (hf : E.find t = some (.bool (decide p))) (k1 : p → O M l ((t, .bool true) :: E) D H) (k0 : ¬ p → O M l ((t, .bool false) :: E) D H) : O M l E D H := by
  intro a w ha hw
  by_cases hp : p
  · exact k1 hp a w (ha.over (by rw [hf]; simp [hp])) hw
  · exact k0 hp a w (ha.over (by rw [hf]; simp [hp])) hw
theorem oSplitB {l : List Oper} {t : Nat} {p : Bool} (hf : E.find t = some (.bool p)) (k1 : p = true → O M l ((t, .bool true) :: E) D H) (k0 : p = false → O M l ((t, .bool false) :: E) D H) : O M l E D H := by
  intro a w ha hw
  cases p
  · exact k0 rfl a w (ha.over hf) hw
  · exact k1 rfl a w (ha.over hf) hw
/-- A value, spelled otherwise. -/
theorem oSet {l : List Oper} {t : Nat} {v' : Value} (hf : E.find t = some v) (e : v = v') (k : O M l ((t, v') :: E) D H) : O M l E D H := fun a w ha hw => k a w (ha.over (by rw [hf, e])) hw

/-! ### values -/
theorem oMove (h : E.op x = some v) (k : O M rest ((d, v) :: E) D H) (hN : Nat.blt d c.N = true := by rfl) : O M (⟨some d, .move x, ty, pos, af, none⟩ :: rest) E D H :=
  oC v rfl hN (fun a w ha hw => by simp [execOp, ha.op h]) k
theorem oAssign (h : E.op x = some v) (k : O M rest ((d, v) :: E) D H) (hN : Nat.blt d c.N = true := by rfl) : O M (⟨some d, .assign x, ty, pos, af, none⟩ :: rest) E D H :=
  oC v rfl hN (fun a w ha hw => by simp [execOp, ha.op h]) k
theorem oPickT (hx : E.op x = some (.bool true)) (h : E.op y = some v) (k : O M rest ((d, v) :: E) D H) (hN : Nat.blt d c.N = true := by rfl) : O M (⟨some d, .pick x y z, ty, pos, af, none⟩ :: rest) E D H :=
  oC v rfl hN (fun a w ha hw => by simp [execOp, ha.op hx, ha.op h, asBool]) k
theorem oPickF (hx : E.op x = some (.bool false)) (h : E.op z = some v) (k : O M rest ((d, v) :: E) D H) (hN : Nat.blt d c.N = true := by rfl) : O M (⟨some d, .pick x y z, ty, pos, af, none⟩ :: rest) E D H :=
  oC v rfl hN (fun a w ha hw => by simp [execOp, ha.op hx, ha.op h, asBool]) k
theorem oNotT (hx : E.op x = some (.bool true)) (k : O M rest ((d, .bool false) :: E) D H) (hN : Nat.blt d c.N = true := by rfl) : O M (⟨some d, .unOp .not t x, ty, pos, af, none⟩ :: rest) E D H :=
  oC _ rfl hN (fun a w ha hw => by simp [execOp, ha.op hx, Op.unary]) k
theorem oNotF (hx : E.op x = some (.bool false)) (k : O M rest ((d, .bool true) :: E) D H) (hN : Nat.blt d c.N = true := by rfl) : O M (⟨some d, .unOp .not t x, ty, pos, af, none⟩ :: rest) E D H :=
  oC _ rfl hN (fun a w ha hw => by simp [execOp, ha.op hx, Op.unary]) k
theorem oNot {p : Prop} [Decidable p] (hx : E.op x = some (.bool (decide p))) (k : O M rest ((d, .bool (decide (¬ p))) :: E) D H) (hN : Nat.blt d c.N = true := by rfl) : O M (⟨some d, .unOp .not t x, ty, pos, af, none⟩ :: rest) E D H :=
  oC _ rfl hN (fun a w ha hw => by simp [execOp, ha.op hx, Op.unary]) k
theorem oNotB {p : Bool} (hx : E.op x = some (.bool p)) (k : O M rest ((d, .bool (!p)) :: E) D H) (hN : Nat.blt d c.N = true := by rfl) : O M (⟨some d, .unOp .not t x, ty, pos, af, none⟩ :: rest) E D H :=
  oC _ rfl hN (fun a w ha hw => by simp [execOp, ha.op hx, Op.unary]) k
theorem run_eqGuard (op : BinOp) (t : TypeId) (x y : Operand) (k k' : IntKind) (a b : Int) (P : Program) (w : World) : (eqGuard op t x y (.int k a) (.int k' b)).run P w = .ok () w := by
  unfold eqGuard; split <;> simp
section
variable {a b : Int}
theorem oCmp {op : BinOp} (r : Bool) (hx : E.op x = some (.int k a)) (hy : E.op y = some (.int k b)) (hr : ∀ P w, (binOp op t (.int k a) (.int k b)).run P w = .ok (.bool r) w) (k : O M rest ((d, .bool r) :: E) D H) (hN : Nat.blt d c.N = true := by rfl) : O M (⟨some d, .binOp op t x y t', ty, pos, af, none⟩ :: rest) E D H :=
  oC _ rfl hN (fun u w ha hw => by simp [execOp, ha.op hx, ha.op hy, run_eqGuard, hr]) k
theorem oLss (hx : E.op x = some (.int k a)) (hy : E.op y = some (.int k b)) (k : O M rest ((d, .bool (decide (a < b))) :: E) D H) (hN : Nat.blt d c.N = true := by rfl) : O M (⟨some d, .binOp .lss t x y t', ty, pos, af, none⟩ :: rest) E D H :=
  oCmp _ hx hy (fun P w => by simp [binOp, Op.intCmp]) k hN
theorem oLeq (hx : E.op x = some (.int k a)) (hy : E.op y = some (.int k b)) (k : O M rest ((d, .bool (decide (a ≤ b))) :: E) D H) (hN : Nat.blt d c.N = true := by rfl) : O M (⟨some d, .binOp .leq t x y t', ty, pos, af, none⟩ :: rest) E D H :=
  oCmp _ hx hy (fun P w => by simp [binOp, Op.intCmp]) k hN
theorem oGtr (hx : E.op x = some (.int k a)) (hy : E.op y = some (.int k b)) (k : O M rest ((d, .bool (decide (b < a))) :: E) D H) (hN : Nat.blt d c.N = true := by rfl) : O M (⟨some d, .binOp .gtr t x y t', ty, pos, af, none⟩ :: rest) E D H :=
  oCmp _ hx hy (fun P w => by simp [binOp, Op.intCmp]) k hN
theorem oGeq (hx : E.op x = some (.int k a)) (hy : E.op y = some (.int k b)) (k : O M rest ((d, .bool (decide (b ≤ a))) :: E) D H) (hN : Nat.blt d c.N = true := by rfl) : O M (⟨some d, .binOp .geq t x y t', ty, pos, af, none⟩ :: rest) E D H :=
  oCmp _ hx hy (fun P w => by simp [binOp, Op.intCmp]) k hN
theorem oEql (hx : E.op x = some (.int k a)) (hy : E.op y = some (.int k b)) (k : O M rest ((d, .bool (decide (a = b))) :: E) D H) (hN : Nat.blt d c.N = true := by rfl) : O M (⟨some d, .binOp .eql t x y t', ty, pos, af, none⟩ :: rest) E D H :=
  oCmp _ hx hy (fun P w => by simp [binOp, Op.intCmp]; rfl) k hN
theorem oNeq (hx : E.op x = some (.int k a)) (hy : E.op y = some (.int k b)) (k : O M rest ((d, .bool (decide (¬ a = b))) :: E) D H) (hN : Nat.blt d c.N = true := by rfl) : O M (⟨some d, .binOp .neq t x y t', ty, pos, af, none⟩ :: rest) E D H :=
  oCmp _ hx hy (fun P w => by simp [binOp, Op.intCmp, bne]; rfl) k hN
theorem oAri {op : BinOp} (r : Int) (hx : E.op x = some (.int k a)) (hy : E.op y = some (.int k b)) (hr : ∀ P w, (binOp op t (.int k a) (.int k b)).run P w = .ok (.int k r) w) (k : O M rest ((d, .int k r) :: E) D H) (hN : Nat.blt d c.N = true := by rfl) : O M (⟨some d, .binOp op t x y t', ty, pos, af, none⟩ :: rest) E D H :=
  oC _ rfl hN (fun u w ha hw => by simp [execOp, ha.op hx, ha.op hy, run_eqGuard, hr]) k
theorem oAddW (hx : E.op x = some (.int k a)) (hy : E.op y = some (.int k b)) (h : O M rest ((d, .int k (k.wrap (a + b))) :: E) D H) (hN : Nat.blt d c.N = true := by rfl) : O M (⟨some d, .binOp .add t x y t', ty, pos, af, none⟩ :: rest) E D H :=
  oAri _ hx hy (fun P w => by simp [binOp, Op.intArith]) h hN
theorem oSubW (hx : E.op x = some (.int k a)) (hy : E.op y = some (.int k b)) (h : O M rest ((d, .int k (k.wrap (a - b))) :: E) D H) (hN : Nat.blt d c.N = true := by rfl) : O M (⟨some d, .binOp .sub t x y t', ty, pos, af, none⟩ :: rest) E D H :=
  oAri _ hx hy (fun P w => by simp [binOp, Op.intArith]) h hN
theorem oMulW (hx : E.op x = some (.int k a)) (hy : E.op y = some (.int k b)) (h : O M rest ((d, .int k (k.wrap (a * b))) :: E) D H) (hN : Nat.blt d c.N = true := by rfl) : O M (⟨some d, .binOp .mul t x y t', ty, pos, af, none⟩ :: rest) E D H :=
  oAri _ hx hy (fun P w => by simp [binOp, Op.intArith]) h hN
/-- Within an int's bounds. -/
def in64 (n : Int) : Prop := -9223372036854775808 ≤ n ∧ n ≤ 9223372036854775807
theorem wrap_in {n : Int} (h : in64 n) : IntKind.i64.wrap n = n := by
  obtain ⟨h1, h2⟩ := h
  exact IntWalk.i64_in n (by omega)
theorem oAdd (hx : E.op x = some (.int .i64 a)) (hy : E.op y = some (.int .i64 b)) (hr : -9223372036854775808 ≤ a + b ∧ a + b ≤ 9223372036854775807) (h : O M rest ((d, .int .i64 (a + b)) :: E) D H) (hN : Nat.blt d c.N = true := by rfl) : O M (⟨some d, .binOp .add t x y t', ty, pos, af, none⟩ :: rest) E D H :=
  oAddW hx hy (by rw [wrap_in hr]; exact h) hN
theorem oSub (hx : E.op x = some (.int .i64 a)) (hy : E.op y = some (.int .i64 b)) (hr : -9223372036854775808 ≤ a - b ∧ a - b ≤ 9223372036854775807) (h : O M rest ((d, .int .i64 (a - b)) :: E) D H) (hN : Nat.blt d c.N = true := by rfl) : O M (⟨some d, .binOp .sub t x y t', ty, pos, af, none⟩ :: rest) E D H :=
  oSubW hx hy (by rw [wrap_in hr]; exact h) hN
theorem oMul (hx : E.op x = some (.int .i64 a)) (hy : E.op y = some (.int .i64 b)) (hr : -9223372036854775808 ≤ a * b ∧ a * b ≤ 9223372036854775807) (h : O M rest ((d, .int .i64 (a * b)) :: E) D H) (hN : Nat.blt d c.N = true := by rfl) : O M (⟨some d, .binOp .mul t x y t', ty, pos, af, none⟩ :: rest) E D H :=
  oMulW hx hy (by rw [wrap_in hr]; exact h) hN
/-- A count's successor. -/
theorem oSucc {n : Nat} (hx : E.op x = some (.int .i64 (n : Int))) (hy : E.op y = some (.int .i64 1)) (hr : n ≤ 9223372036854775806) (h : O M rest ((d, .int .i64 ((n + 1 : Nat) : Int)) :: E) D H) (hN : Nat.blt d c.N = true := by rfl) : O M (⟨some d, .binOp .add t x y t', ty, pos, af, none⟩ :: rest) E D H :=
  oAdd hx hy (by omega) (by simpa using h) hN
theorem oQuo (hx : E.op x = some (.int .i64 a)) (hy : E.op y = some (.int .i64 b)) (hr : 0 < b ∧ -9223372036854775808 ≤ a ∧ a ≤ 9223372036854775807) (h : O M rest ((d, .int .i64 (a.tdiv b)) :: E) D H) (hN : Nat.blt d c.N = true := by rfl) : O M (⟨some d, .binOp .quo t x y t', ty, pos, af, none⟩ :: rest) E D H := by
  obtain ⟨h0, h1, h2⟩ := hr
  have hw : IntKind.i64.wrap (a.tdiv b) = a.tdiv b := by
    apply wrap_in
    have h5 : (a.tdiv b).natAbs ≤ a.natAbs := by rw [Int.natAbs_tdiv]; exact Nat.div_le_self _ _
    unfold in64
    rcases Int.le_total 0 a with ha | ha
    · have := Int.tdiv_nonneg ha (Int.le_of_lt h0); omega
    · have h6 := Int.tdiv_nonneg (show 0 ≤ -a by omega) (Int.le_of_lt h0)
      rw [Int.neg_tdiv] at h6
      omega
  refine oAri _ hx hy (fun P w => ?_) h hN
  have hb : b ≠ 0 := by omega
  simp [binOp, Op.intDiv, hb, hw]
theorem oRem (hx : E.op x = some (.int k a)) (hy : E.op y = some (.int k b)) (hr : b ≠ 0) (h : O M rest ((d, .int k (a.tmod b)) :: E) D H) (hN : Nat.blt d c.N = true := by rfl) : O M (⟨some d, .binOp .rem t x y t', ty, pos, af, none⟩ :: rest) E D H :=
  oAri _ hx hy (fun P w => by simp [binOp, Op.intDiv, hr]) h hN
end
section
variable {s r : ByteArray}
theorem toList_eq (s r : ByteArray) : (s.toList == r.toList) = decide (s = r) := by
  rw [Bool.eq_iff_iff]
  simp only [beq_iff_eq, decide_eq_true_eq]
  constructor
  · intro h
    rw [ByteArray.toList_eq, ByteArray.toList_eq] at h
    cases s; cases r; simp_all [Array.toList_inj]
  · rintro rfl; rfl
theorem oStr {op : BinOp} (p : Bool) (hx : E.op x = some (.string s)) (hy : E.op y = some (.string r)) (hr : ∀ P w, (binOp op t (.string s) (.string r)).run P w = .ok (.bool p) w) (k : O M rest ((d, .bool p) :: E) D H) (hN : Nat.blt d c.N = true := by rfl) : O M (⟨some d, .binOp op t x y t', ty, pos, af, none⟩ :: rest) E D H :=
  oC _ rfl hN (fun u w ha hw => by
    have : (eqGuard op t x y (.string s) (.string r)).run c.P w = .ok () w := by unfold eqGuard; split <;> simp
    simp [execOp, ha.op hx, ha.op hy, this, hr]) k
theorem oSEq (hx : E.op x = some (.string s)) (hy : E.op y = some (.string r)) (k : O M rest ((d, .bool (decide (s = r))) :: E) D H) (hN : Nat.blt d c.N = true := by rfl) : O M (⟨some d, .binOp .eql t x y t', ty, pos, af, none⟩ :: rest) E D H :=
  oStr _ hx hy (fun P w => by simp [binOp, Op.stringOp, toList_eq]) k hN
theorem oSNe (hx : E.op x = some (.string s)) (hy : E.op y = some (.string r)) (k : O M rest ((d, .bool (decide (¬ s = r))) :: E) D H) (hN : Nat.blt d c.N = true := by rfl) : O M (⟨some d, .binOp .neq t x y t', ty, pos, af, none⟩ :: rest) E D H :=
  oStr _ hx hy (fun P w => by simp [binOp, Op.stringOp, toList_eq]) k hN
end
end Go.Proofs.YtnidmlngkpkmlaaK
