/-
  The walk's rules: stores into rows, a row's beginning, methods of an interface's value, other operations.
-/
import Derived.Test.YtnidmlngkpkmlaaKh
namespace Go.Proofs.YtnidmlngkpkmlaaK
set_option linter.unusedVariables false
set_option linter.unusedSimpArgs false
open Go.RowKit
section
variable {c : Cx} {N : Md c} {M : Me c} {d : Nat} {ty : TypeId} {pos : String} {af : Array Edge} {rest : List Oper} {E : Env} {D : List Deferred} {H H' H'' : List Res} {v : Value} {x y z : Operand} {k : IntKind} {t t' : TypeId}
variable {B : Base} {w w' : World} {Φ Φ' Φ'' Ψ : List Res} {P : Program}

theorem Cat.scal {α : Type} {enc : α → Value} {h1 : ∀ x, (enc x).oneCell' = true} {W : World} : ∀ {xs : List α} {cs : List Value}, Cat (Kd.scalar enc h1) W xs cs ↔ cs = xs.map enc
  | [], cs => Iff.rfl
  | x :: xs, cs => by
    constructor
    · rintro ⟨a, rest, rfl, rfl, hR⟩
      rw [Cat.scal.1 hR]; rfl
    · rintro rfl
      exact ⟨[enc x], xs.map enc, rfl, rfl, Cat.scal.2 rfl⟩
/-- A store into a row of elements of one cell. -/
theorem oStR {α : Type} {enc : α → Value} {h1 : ∀ x, (enc x).oneCell' = true} {W : World} {e : TypeId} {g n cp i : Nat} {xs : List α} (u : α) (hx : E.op x = some (.pointer (some (elt g i 1 0)))) (hy : E.op y = some (enc u)) (hv : (enc u).cells = #[enc u]) (hs : (c.P.info? t).map (·.size) = some 1)
    (hp : Pick H (row (Kd.scalar enc h1) W e (.slice (some ⟨g, 0, none⟩) n cp) xs) H') (hi : i < xs.length)
    (h : O M.toMd rest E D (row (Kd.scalar enc h1) W e (.slice (some ⟨g, 0, none⟩) n cp) (xs.set i u) :: H')) : O M.toMd (⟨none, .store t x y, ty, pos, af, none⟩ :: rest) E D H :=
  oEffs rfl fun a w ha hw => by
    obtain ⟨cs, ho, hr⟩ : (row (Kd.scalar enc h1) W e (.slice (some ⟨g, 0, none⟩) n cp) xs).q w := hw.get hp
    have hcs := Cat.scal.1 hr
    obtain ⟨hl, ho⟩ := ho
    rcases ho with ⟨e1, _⟩ | ⟨g', cap, cur, e1, _, hb, g2, g3, g4, g5⟩
    · injection e1 with e1 _ _; cases e1
    · injection e1 with e1 e2 e3
      injection e1 with e1; injection e1 with e1 _ _
      subst e1 e2 e3
      have hs1 : (Kd.scalar enc h1).sz = 1 := rfl
      rw [hs1] at g4 g5 hl
      have e1 : elt g i 1 0 = ⟨g, i, none⟩ := by unfold elt; simp
      have hb' : w.heap[g]? = some (.cells cur.toList.toArray e (0, 0)) := by simpa using hb
      have hic : i < cur.toList.length := by simp; omega
      have hrun := run_store1 (P := c.P) (t := t) hb' hic hv (h1 u) hs
      refine ⟨w.setCell ⟨g, i, none⟩ (enc u), row (Kd.scalar enc h1) W e (.slice (some ⟨g, 0, none⟩) xs.length cp) (xs.set i u) :: H', ?_, hw.upd' hp ((Chg.setCell w ⟨g, i, none⟩ (enc u)).mono (fun k hk => by subst hk; rfl)) ⟨(xs.set i u).map enc, ?_, Cat.scal.2 rfl⟩ (fun k hk => .inl hk), h⟩
      · simp [execOp, ha.op hx, ha.op hy, e1, hrun]
      · refine ⟨by simp [hs1], .inr ⟨g, cp, (cur.toList.set i (enc u)).toArray, by simp, Nat.zero_le _, set_heap hb', by simpa using g2, g3, by simp [hs1]; omega, ?_⟩⟩
        rw [hs1, List.length_set]
        show (cur.toList.set i (enc u)).take _ = _
        rw [List.take_set, g5, hcs, List.map_set]
/-- The first elements of a row. -/
theorem oSliceTo {α : Type} {kd : Kd α} {W : World} {e e' : TypeId} {A : Option Addr} {n cp m s : Nat} {xs : List α} (hx : E.op x = some (.slice A n cp)) (hy : E.op y = some (.int k (m : Int))) (hm : m ≤ n) (ht : elemT c.P t = some (e', s))
    (hp : Pick H (row kd W e (.slice A n cp) xs) H') (h : O M.toMd rest ((d, .slice A m cp) :: E) D (row kd W e (.slice A m cp) (xs.take m) :: H')) (hN : Nat.blt d c.N = true := by rfl) : O M.toMd (⟨some d, .slice t x none (some y) none, ty, pos, af, none⟩ :: rest) E D H :=
  oEff rfl hN fun a w ha hw => by
    obtain ⟨cs, ⟨hl, ho⟩, hr⟩ : (row kd W e (.slice A n cp) xs).q w := hw.get hp
    obtain ⟨h1, inf, h2, _⟩ := run_elemT ht
    have hmc : m ≤ cp := by
      rcases ho with ⟨e1, e2⟩ | ⟨g, cap, cur, e1, _, hb, g2, _⟩
      · injection e1 with _ e1 e2; omega
      · injection e1 with _ e1 e2; omega
    refine ⟨_, w, _, ?_, ?_, h⟩
    · cases A <;> simp [execOp, ha.op hx, ha.op hy, Instr.sliceAt, Instr.slice, run_underlying h1, Instr.sliceBounds, Instr.sliceBound, asIntOf, hmc, sizeOf, typeInfo, h2, Addr.add]
    · refine hw.upd' hp (Chg.refl _ _) ?_ (fun k hk => .inl (by cases A <;> exact hk))
      rcases ho with ⟨e1, e2⟩ | ⟨g, cap, cur, e1, g1, hb, g2, g3, g4, g5⟩
      · have hx0 : xs = [] := List.eq_nil_of_length_eq_zero e2
        injection e1 with e1 e3 e4
        subst e1 e3 e4 hx0
        obtain rfl : m = 0 := by omega
        exact ⟨[], World.ownsRow_nil _ _ _ _, rfl⟩
      · injection e1 with e1 e3 e4
        subst e1 e3 e4
        refine ⟨cs.take (m * kd.sz), ⟨?_, .inr ⟨g, cp, cur, ?_, g1, hb, ?_, g3, g4, ?_⟩⟩, hr.take m⟩
        · rw [List.length_take, List.length_take, hl, Nat.min_eq_left hm, Nat.min_eq_left (Nat.mul_le_mul_right _ hm)]
        · rw [List.length_take, Nat.min_eq_left hm]
        · rw [List.length_take, Nat.min_eq_left hm]; exact hmc
        · rw [List.length_take, Nat.min_eq_left hm, ← g5, List.take_take, Nat.min_eq_left (Nat.mul_le_mul_right _ hm)]
/-- A method, called on an interface's value. -/
theorem oInvoke {ι : Type} {inv : ι → Prop} {val : ι → Value} {post : ι → List Res} {r : Operand} {name : String} {args : Array Operand} {ats : Array TypeId} {g : FuncId} {vs : List Value} {it : TypeId} {u u' : Value} (hr : E.op r = some (.iface it u)) (hargs : E.ops args.toList = some vs)
    (hm : ∀ w, (method (c.P.types.size + Made.depth) it u name).run c.P w = .ok (g, u') w) (hg : goodF c.P g = true)
    (hc : ∀ w, St c.B H w → CallsIn Fence.wide 0 c.P g (u' :: vs).toArray w (Ret c.B inv val post)) (h : ∀ i, inv i → O M.toMd rest ((d, val i) :: E) D (post i)) (hN : Nat.blt d c.N = true := by rfl) :
    O M.toMd (⟨some d, .call { callee := .invoke r name, args := args, argTypes := ats }, ty, pos, af, none⟩ :: rest) E D H := by
  intro a w ha hw
  refine M.enter _ _ _ _ g (u' :: vs).toArray w rfl rfl ?_ ((hc w hw).mono ?_)
  · have h1 : args.map a.eval = vs.toArray := by
      apply Array.toList_inj.1
      simpa using ha.fit.ops hargs
    have h2 : (#[Value.iface it u] ++ vs.toArray)[0]? = some (.iface it u) := by simp
    have h3 : (#[Value.iface it u] ++ vs.toArray).extract 1 (#[Value.iface it u] ++ vs.toArray).size = vs.toArray := by
      apply Array.toList_inj.1; simp
    simp only [execOp, resolve, ha.fit.op hr, h1, Sem.run_bind, Sem.run_pure, Result.andThen_ok, invoke, h2, h3, callMethod]
    have h4 : #[u'] ++ vs.toArray = (u' :: vs).toArray := by simp
    have h5 : Sem.run c.P program w = .ok c.P w := rfl
    rw [h5]
    simp only [Result.andThen_ok, hm]
    rw [h4, run_callFunc hg]
  · rintro e w' ⟨i, hi, rfl, hw'⟩
    exact ⟨val i, rfl, h i hi _ _ (ha.put hN) hw'⟩
end
end Go.Proofs.YtnidmlngkpkmlaaK
