import Derived.Test.YtogaiijhicfoaaaGreatKib

/-
  Stores of some cells into an element of a row; a row taken to a greater world.
-/
namespace Go.Proofs.YtogaiijhicfoaaaGreatK
set_option linter.unusedVariables false
set_option linter.unusedSimpArgs false
open Go.RowKit
def patchL : List Value → Nat → List Value → List Value
  | cs, _, [] => cs
  | cs, i, v :: vs => patchL (cs.set i v) (i + 1) vs
theorem patchL_len : ∀ (vs cs : List Value) (i : Nat), (patchL cs i vs).length = cs.length
  | [], cs, i => rfl
  | v :: vs, cs, i => by rw [patchL, patchL_len, List.length_set]
theorem patchL_left : ∀ (vs a r : List Value) (i : Nat), i + vs.length ≤ a.length → patchL (a ++ r) i vs = patchL a i vs ++ r
  | [], a, r, i, _ => rfl
  | v :: vs, a, r, i, h => by
    rw [List.length_cons] at h
    rw [patchL, patchL, List.set_append_left _ _ (by omega)]
    exact patchL_left vs _ r _ (by rw [List.length_set]; omega)
theorem patchL_right : ∀ (vs a r : List Value) (i : Nat), patchL (a ++ r) (a.length + i) vs = a ++ patchL r i vs
  | [], a, r, i => rfl
  | v :: vs, a, r, i => by
    rw [patchL, patchL, List.set_append_right _ _ (by omega), Nat.add_sub_cancel_left, Nat.add_assoc]
    exact patchL_right vs a _ (i + 1)
theorem patchL_take : ∀ (vs cs : List Value) (i n : Nat), i + vs.length ≤ n → (patchL cs i vs).take n = patchL (cs.take n) i vs
  | [], cs, i, n, _ => rfl
  | v :: vs, cs, i, n, h => by
    rw [List.length_cons] at h
    rw [patchL, patchL, patchL_take vs _ _ _ (by omega), List.take_set]
def patchW (w : World) (b : Nat) : Nat → List Value → World
  | _, [] => w
  | i, v :: vs => patchW (w.setCell ⟨b, i, none⟩ v) b (i + 1) vs
theorem patchW_chg (b : Nat) : ∀ (vs : List Value) (w : World) (i : Nat), Chg w (patchW w b i vs) (fun k => k = b)
  | [], w, i => Chg.refl w _
  | v :: vs, w, i => (Chg.setCell w ⟨b, i, none⟩ v).trans (patchW_chg b vs _ _)
theorem patchW_heap {b : Nat} {tb : TypeId} : ∀ (vs : List Value) (w : World) (i : Nat) (cs : List Value), w.heap[b]? = some (.cells cs.toArray tb (0, 0)) → (patchW w b i vs).heap[b]? = some (.cells (patchL cs i vs).toArray tb (0, 0))
  | [], w, i, cs, h => h
  | v :: vs, w, i, cs, h => patchW_heap vs _ _ _ (set_heap h)
theorem run_storeN {P : Program} {b i : Nat} {tb : TypeId} : ∀ (vs : List Value) (w : World) (k : Nat) (cs : List Value), w.heap[b]? = some (.cells cs.toArray tb (0, 0)) → i + k + vs.length ≤ cs.length → (vs.all (·.oneCell') = true) →
    (storeCells ⟨b, i, none⟩ vs k).run P w = .ok () (patchW w b (i + k) vs)
  | [], w, k, cs, hb, hi, h1 => by simp [storeCells, patchW, Sem.run]
  | v :: vs, w, k, cs, hb, hi, h1 => by
    rw [List.length_cons] at hi
    rw [List.all_cons, Bool.and_eq_true] at h1
    have hil : i + k < cs.length := by omega
    have hc : w.cell? ⟨b, i + k, none⟩ = some cs[i + k] := by rw [cell_of hb]; simp [hil]
    have hf : w.frozen? ⟨b, i + k, none⟩ = false := frozen_of hb
    have ih := run_storeN (P := P) (i := i) vs (w.setCell ⟨b, i + k, none⟩ v) (k + 1) (cs.set (i + k) v) (set_heap hb) (by rw [List.length_set]; omega) h1.2
    have h2 := h1.1
    rw [← Nat.add_assoc] at ih
    rw [patchW]
    show (do store ((⟨b, i, none⟩ : Addr).add k) v; storeCells ⟨b, i, none⟩ vs (k + 1)).run P w = _
    rw [add_at]
    cases v <;> simp_all [store, Sem.run, Value.oneCell', Sem.run_bind]
theorem Cat.patch {α : Type} {kd : Kd α} {W : World} {x u : α} {o : Nat} {vs : List Value} (ho : o + vs.length ≤ kd.sz) (hK : ∀ a, kd.K W x a → kd.K W u (patchL a o vs)) : ∀ {xs : List α} {cs : List Value} (i : Nat), Cat kd W xs cs → xs[i]? = some x → Cat kd W (xs.set i u) (patchL cs (i * kd.sz + o) vs)
  | [], _, i, _, h => by simp at h
  | y :: xs, cs, 0, ⟨a, rest, e, hk, hR⟩, h => by
    obtain rfl : y = x := by simpa using h
    subst e
    rw [Nat.zero_mul, Nat.zero_add, patchL_left _ _ _ _ (by rw [kd.K_len hk]; exact ho)]
    exact ⟨_, _, rfl, hK a hk, hR⟩
  | y :: xs, cs, i + 1, ⟨a, rest, e, hk, hR⟩, h => by
    subst e
    have hl := kd.K_len hk
    rw [show (i + 1) * kd.sz + o = a.length + (i * kd.sz + o) by rw [hl, Nat.succ_mul]; omega, patchL_right]
    exact ⟨_, _, rfl, hk, hR.patch ho hK i (by simpa using h)⟩
section
variable {c : Cx} {M : Me c} {ty : TypeId} {pos : String} {af : Array Edge} {rest : List Oper} {E : Env} {D : List Deferred} {H H' : List Res} {v : Value} {x y : Operand} {t : TypeId}
theorem oStP {α : Type} {kd : Kd α} {W : World} {e : TypeId} {g n cp i o s : Nat} {xs : List α} (u : α) (vs : List Value) (x0 : α) (hx : E.op x = some (.pointer (some (elt g i s o)))) (hy : E.op y = some v) (hv : v.cells = vs.toArray) (h1 : vs.all (·.oneCell') = true) (hs : (c.P.info? t).map (·.size) = some vs.length) (hsz : kd.sz = s)
    (hp : Pick H (row kd W e (.slice (some ⟨g, 0, none⟩) n cp) xs) H') (hi : xs[i]? = some x0) (ho : o + vs.length ≤ s) (hK : ∀ a, kd.K W x0 a → kd.K W u (patchL a o vs))
    (h : O M.toMd rest E D (row kd W e (.slice (some ⟨g, 0, none⟩) n cp) (xs.set i u) :: H')) : O M.toMd (⟨none, .store t x y, ty, pos, af, none⟩ :: rest) E D H :=
  oEffs rfl fun a w ha hw => by
    subst hsz
    obtain ⟨cs, ho', hr⟩ : (row kd W e (.slice (some ⟨g, 0, none⟩) n cp) xs).q w := hw.get hp
    obtain ⟨hl, ho'⟩ := ho'
    have hil := (List.getElem?_eq_some_iff.1 hi).1
    have hcl := hr.len
    rcases ho' with ⟨e1, _⟩ | ⟨g', cap, cur, e1, _, hb, g2, g3, g4, g5⟩
    · injection e1 with e1 _ _; cases e1
    · injection e1 with e1 e2 e3
      injection e1 with e1; injection e1 with e1 _ _
      subst e1 e2 e3
      have e1 : elt g i kd.sz o = ⟨g, i * kd.sz + o, none⟩ := by unfold elt; rfl
      have hb' : w.heap[g]? = some (.cells cur.toList.toArray e (0, 0)) := by simpa using hb
      have hmul : (i + 1) * kd.sz ≤ xs.length * kd.sz := Nat.mul_le_mul_right _ hil
      rw [Nat.succ_mul] at hmul
      have hcur : xs.length * kd.sz ≤ cur.toList.length := by
        have := congrArg List.length g5
        rw [List.length_take] at this
        omega
      have hic : i * kd.sz + o + vs.length ≤ cur.toList.length := by omega
      have hst := run_storeN (P := c.P) (i := i * kd.sz + o) vs w 0 cur.toList hb' hic h1
      obtain ⟨inf, hi', hs'⟩ := Option.map_eq_some_iff.1 hs
      refine ⟨patchW w g (i * kd.sz + o) vs, row kd W e (.slice (some ⟨g, 0, none⟩) xs.length cp) (xs.set i u) :: H', ?_, hw.upd' hp ((patchW_chg g vs w _).mono (fun k hk => by subst hk; rfl)) ⟨patchL cs (i * kd.sz + o) vs, ?_, hr.patch ho hK i hi⟩ (fun k hk => .inl hk), h⟩
      · simp [execOp, ha.op hx, ha.op hy, e1, Instr.storeAt, Instr.sureAddr, storeVar, sizeOf, typeInfo, hi', hs', hv, hst]
      · refine ⟨by rw [patchL_len, List.length_set]; exact hl, .inr ⟨g, cp, (patchL cur.toList (i * kd.sz + o) vs).toArray, by simp, Nat.zero_le _, patchW_heap vs w _ _ hb', by simpa using g2, g3, by rw [List.size_toArray, patchL_len]; simpa using g4, ?_⟩⟩
        rw [List.length_set]
        show (patchL cur.toList _ vs).take _ = _
        rw [patchL_take _ _ _ _ (by omega), g5]
theorem row_up {α : Type} {kd : Kd α} {B : Base} {W W' : World} {e : TypeId} {v : Value} {xs : List α} {Φ Φ' : List Res} (g : Grow W W') (hp : Pick Φ (row kd W e v xs) Φ') : Leads B Φ (row kd W' e v xs :: Φ') :=
  Pick.leads hp (fun Φ w hS => hS.upd .here (Chg.refl _ _) (by
    obtain ⟨cs, ho, hr⟩ : (row kd W e v xs).q w := hS.get .here
    exact ⟨cs, ho, hr.grow g⟩) (fun k hk => .inl hk))
end
end Go.Proofs.YtogaiijhicfoaaaGreatK
