/-
  The walk's rules for operations that turn the world: new variables, stores, rows, maps, calls; and how a function is entered and left.
-/
import Derived.Test.YtnidmlngkpkmlaaKe
namespace Go.Proofs.YtnidmlngkpkmlaaK
set_option linter.unusedVariables false
set_option linter.unusedSimpArgs false
open Go.RowKit
section
variable {c : Cx} {M : Me c} {d : Nat} {dst : Option Nat} {ty : TypeId} {pos : String} {af : Array Edge} {rest : List Oper} {E : Env} {D : List Deferred} {H H' H'' : List Res} {v : Value} {x y z : Operand} {k : IntKind} {t t' : TypeId}
variable {B : Base} {w w' : World} {Φ Φ' Φ'' : List Res}

theorem oEff {op : Op} (hp : plain op = true) (hN : Nat.blt d c.N = true) (hy : ∀ a w, Fits E a → St c.B H w → ∃ v w' H', (execOp a.eval ⟨some d, op, ty, pos, af, none⟩).run c.P w = .ok (.value v) w' ∧ St c.B H' w' ∧ O M.toMd rest ((d, v) :: E) D H') :
    O M.toMd (⟨some d, op, ty, pos, af, none⟩ :: rest) E D H := by
  intro a w ha hw
  obtain ⟨v, w', H', h1, h2, h3⟩ := hy a w ha.fit hw
  exact M.eff _ _ _ _ v w' rfl hp h1 (h3 _ _ (ha.put hN) h2)
theorem oEffs {op : Op} (hp : plain op = true) (hy : ∀ a w, Fits E a → St c.B H w → ∃ w' H', (execOp a.eval ⟨none, op, ty, pos, af, none⟩).run c.P w = .ok .skip w' ∧ St c.B H' w' ∧ O M.toMd rest E D H') :
    O M.toMd (⟨none, op, ty, pos, af, none⟩ :: rest) E D H := by
  intro a w ha hw
  obtain ⟨w', H', h1, h2, h3⟩ := hy a w ha.fit hw
  exact M.effs _ _ _ _ w' rfl hp h1 (h3 _ _ ha.put_none h2)

/-! ### variables -/
theorem St.upd' {r r' : Res} (h : St B Φ w) (hu : Pick Φ r Φ') (hc : Chg w w' r.fp) (hq : r'.q w') (hf : ∀ k, r'.fp k → r.fp k ∨ w.heap.size ≤ k) : St B (r' :: Φ') w' :=
  (h.perm hu.perm).upd .here hc hq hf
theorem oAlloc {zv : Value} {cs : List Value} (hz : ((c.P.info? t).map (·.zero)) = some (some zv)) (hcs : CellsOf zv cs) (h : ∀ b, O M.toMd rest ((d, .pointer (some ⟨b, 0, none⟩)) :: E) D (blk b t cs :: H)) (hN : Nat.blt d c.N = true := by rfl) : O M.toMd (⟨some d, .alloc t, ty, pos, af, none⟩ :: rest) E D H :=
  oEff rfl hN fun a w ha hw => by
    obtain ⟨i, hi, hz⟩ := Option.map_eq_some_iff.1 hz
    refine ⟨_, w.alloc (.cells zv.cells t), _, ?_, ?_, h w.heap.size⟩
    · simp [execOp, Instr.alloc, zeroValue, typeInfo, hi, hz, newVar, newRow]
    · rw [hcs.spec]; exact hw.alloc (.cells cs.toArray t)
theorem oBox {cs : List Value} (hx : E.op x = some v) (hcs : CellsOf v cs) (h : ∀ b, O M.toMd rest ((d, .pointer (some ⟨b, 0, none⟩)) :: E) D (blk b t cs :: H)) (hN : Nat.blt d c.N = true := by rfl) : O M.toMd (⟨some d, .box t x, ty, pos, af, none⟩ :: rest) E D H :=
  oEff rfl hN fun a w ha hw => by
    refine ⟨_, w.alloc (.cells v.cells t), _, ?_, ?_, h w.heap.size⟩
    · simp [execOp, Instr.box, newVar, newRow, ha.op hx]
    · rw [hcs.spec]; exact hw.alloc (.cells cs.toArray t)
theorem run_store1 {P : Program} {b i : Nat} {t tb : TypeId} {cs : List Value} {v : Value} (hb : w.heap[b]? = some (.cells cs.toArray tb (0, 0))) (hi : i < cs.length) (hv : v.cells = #[v]) (h1 : v.oneCell' = true) (hs : (P.info? t).map (·.size) = some 1) :
    (Instr.storeAt t (.pointer (some ⟨b, i, none⟩)) v).run P w = .ok () (w.setCell ⟨b, i, none⟩ v) := by
  obtain ⟨inf, hi', hs⟩ := Option.map_eq_some_iff.1 hs
  have hc : w.cell? ⟨b, i, none⟩ = some cs[i] := by rw [cell_of hb]; simp [hi]
  have hf : w.frozen? ⟨b, i, none⟩ = false := frozen_of hb
  have hst : (storeCells ⟨b, i, none⟩ [v]).run P w = .ok () (w.setCell ⟨b, i, none⟩ v) := by
    cases v <;> simp_all [storeCells, store, Sem.run, Value.oneCell', Addr.add, Sem.run_bind]
  simp [Instr.storeAt, Instr.sureAddr, storeVar, sizeOf, typeInfo, hi', hs, hv, hst]
theorem oSt {b i : Nat} {tb : TypeId} {cs cs' : List Value} (hx : E.op x = some (.pointer (some ⟨b, i, none⟩))) (hy : E.op y = some v) (hv : v.cells = #[v]) (h1 : v.oneCell' = true) (hs : (c.P.info? t).map (·.size) = some 1) (hp : Pick H (blk b tb cs) H') (hcs' : SetAt cs i v cs')
    (h : O M.toMd rest E D (blk b tb cs' :: H')) : O M.toMd (⟨none, .store t x y, ty, pos, af, none⟩ :: rest) E D H :=
  oEffs rfl fun a w ha hw => by
    obtain ⟨hi, hcs⟩ := hcs'.spec
    subst hcs
    have hb : w.heap[b]? = some (.cells cs.toArray tb (0, 0)) := hw.get hp
    refine ⟨w.setCell ⟨b, i, none⟩ v, blk b tb (cs.set i v) :: H', ?_, hw.upd' hp (Chg.setCell w ⟨b, i, none⟩ v) (set_heap hb) (fun k hk => .inl hk), h⟩
    simp [execOp, ha.op hx, ha.op hy, run_store1 hb hi hv h1 hs]
theorem oStA {b : Nat} {tb : TypeId} {cs vs : List Value} (hx : E.op x = some (.pointer (some ⟨b, 0, none⟩))) (hy : E.op y = some (.agg vs.toArray)) (h1 : vs.all (·.oneCell') = true) (hs : (c.P.info? t).map (·.size) = some vs.length) (hp : Pick H (blk b tb cs) H') (hl : cs.length = vs.length)
    (h : O M.toMd rest E D (blk b tb vs :: H')) : O M.toMd (⟨none, .store t x y, ty, pos, af, none⟩ :: rest) E D H :=
  oEffs rfl fun a w ha hw => by
    have hb : w.heap[b]? = some (.cells cs.toArray tb (0, 0)) := hw.get hp
    have hrun := run_storeVar_row (P := c.P) w b tb t cs.toArray vs.toArray hb (by simpa using hs) (by simpa using hl) (by simpa using h1)
    have hc : Chg w (w.setRow b vs.toArray) (fun k => k = b) := ⟨rfl, rfl, rfl, by simp [World.setRow], fun k _ hn => by rw [World.setRow]; simp only [Array.getElem?_modify]; rw [if_neg (fun h => hn h.symm)]⟩
    refine ⟨w.setRow b vs.toArray, blk b tb vs :: H', ?_, hw.upd' hp hc ?_ (fun k hk => .inl hk), h⟩
    · simp [execOp, ha.op hx, ha.op hy, Instr.storeAt, Instr.sureAddr, hrun]
    · show (w.setRow b vs.toArray).heap[b]? = _
      rw [World.setRow]; simp only [Array.getElem?_modify, if_true, hb, Option.map_some]

/-! ### rows of the call's own -/
/-- The cells of elements, one after the other. -/
def Cat {α : Type} (kd : Kd α) (w : World) : List α → List Value → Prop
  | [], cs => cs = []
  | x :: xs, cs => ∃ a rest, cs = a ++ rest ∧ kd.K w x a ∧ Cat kd w xs rest
theorem Cat.len {α : Type} {kd : Kd α} {w : World} : ∀ {xs : List α} {cs : List Value}, Cat kd w xs cs → cs.length = xs.length * kd.sz
  | [], cs, h => by rw [h]; simp
  | x :: xs, cs, ⟨a, rest, e, hK, hR⟩ => by rw [e, List.length_append, kd.K_len hK, hR.len, List.length_cons, Nat.succ_mul]; omega
theorem Cat.at {α : Type} {kd : Kd α} {w : World} : ∀ {xs : List α} {cs : List Value}, Cat kd w xs cs → ∀ j x, xs[j]? = some x → ∃ a, kd.K w x a ∧ ∀ i u, a[i]? = some u → cs[j * kd.sz + i]? = some u
  | [], _, _, j, x, hj => by simp at hj
  | y :: xs, cs, ⟨a, rest, e, hK, hR⟩, 0, x, hj => by
    obtain rfl : y = x := by simpa using hj
    refine ⟨a, hK, fun i u hu => ?_⟩
    have hi : i < a.length := (List.getElem?_eq_some_iff.1 hu).1
    rw [e, Nat.zero_mul, Nat.zero_add, List.getElem?_append_left hi, hu]
  | y :: xs, cs, ⟨a, rest, e, hK, hR⟩, j + 1, x, hj => by
    obtain ⟨c2, h1, h2⟩ := Cat.at hR j x (by simpa using hj)
    refine ⟨c2, h1, fun i u hu => ?_⟩
    have hl := kd.K_len hK
    rw [e, List.getElem?_append_right (by rw [hl, Nat.succ_mul]; omega), hl, show (j + 1) * kd.sz + i - kd.sz = j * kd.sz + i by rw [Nat.succ_mul]; omega]
    exact h2 i u hu
theorem Cat.app {α : Type} {kd : Kd α} {w : World} : ∀ {xs ys : List α} {cs ds : List Value}, Cat kd w xs cs → Cat kd w ys ds → Cat kd w (xs ++ ys) (cs ++ ds)
  | [], ys, cs, ds, h, k => by rw [h]; simpa using k
  | x :: xs, ys, cs, ds, ⟨a, rest, e, hK, hR⟩, k => ⟨a, rest ++ ds, by rw [e, List.append_assoc], hK, hR.app k⟩
theorem Cat.one {α : Type} {kd : Kd α} {w : World} {x : α} {a : List Value} (h : kd.K w x a) : Cat kd w [x] a := ⟨a, [], by simp, h, rfl⟩
theorem Cat.ones {α : Type} {kd : Kd α} {w : World} : ∀ {xs : List α} {cs : List Value}, Cat kd w xs cs → ∀ u ∈ cs, u.oneCell' = true
  | [], cs, h => by rw [h]; simp
  | x :: xs, cs, ⟨a, rest, e, hK, hR⟩ => by
    intro u hu
    rw [e] at hu
    rcases List.mem_append.1 hu with h | h
    · exact kd.K_one hK u h
    · exact hR.ones u h
theorem Cat.take {α : Type} {kd : Kd α} {w : World} : ∀ {xs : List α} {cs : List Value} (n : Nat), Cat kd w xs cs → Cat kd w (xs.take n) (cs.take (n * kd.sz))
  | [], cs, n, h => by rw [h]; simp [Cat]
  | x :: xs, cs, 0, h => by simp [Cat]
  | x :: xs, cs, n + 1, ⟨a, rest, e, hK, hR⟩ => by
    refine ⟨a, rest.take (n * kd.sz), ?_, hK, hR.take n⟩
    have hl := kd.K_len hK
    rw [e, List.take_append, List.take_of_length_le (by rw [hl, Nat.succ_mul]; omega), hl, show (n + 1) * kd.sz - kd.sz = n * kd.sz by rw [Nat.succ_mul]; omega]
theorem Cat.grow {α : Type} {kd : Kd α} {w w' : World} (g : Grow w w') : ∀ {xs : List α} {cs : List Value}, Cat kd w xs cs → Cat kd w' xs cs
  | [], cs, h => h
  | x :: xs, cs, ⟨a, rest, e, hK, hR⟩ => ⟨a, rest, e, kd.K_grow g hK, Cat.grow g hR⟩
/-- A row of the call's own: the slice v; its elements (of type e) read as xs in the world W. -/
def row {α : Type} (kd : Kd α) (W : World) (e : TypeId) (v : Value) (xs : List α) : Res where
  fp k := v.ownBlock = some k
  q w := ∃ cs, w.ownsRow 0 e kd.sz v xs.length cs ∧ Cat kd W xs cs
  inb w h k hk := by obtain ⟨cs, ho, _⟩ := h; exact (ho.lt k hk).2
  st w w' h hk := by
    obtain ⟨cs, ho, hr⟩ := h
    refine ⟨cs, ?_, hr⟩
    obtain ⟨h1, h2⟩ := ho
    refine ⟨h1, ?_⟩
    rcases h2 with h2 | ⟨g, cap, cur, rfl, hg, hh, r⟩
    · exact .inl h2
    · exact .inr ⟨g, cap, cur, rfl, hg, (hk g (by simp [Value.ownBlock])).trans hh, r⟩
theorem St.nilrow {α : Type} (kd : Kd α) (W : World) (e : TypeId) (h : St B Φ w) : St B (row kd W e (.slice none 0 0) [] :: Φ) w :=
  h.add (Chg.refl _ _) ⟨[], World.ownsRow_nil _ _ _ _, rfl⟩ (fun k hk => by simp [row, Value.ownBlock] at hk)
theorem Leads.nilrow {α : Type} {kd : Kd α} {W : World} {e : TypeId} : Leads B Φ (row kd W e (.slice none 0 0) [] :: Φ) := fun _ h => h.nilrow kd W e
/-- What is read of a row. -/
theorem row_C {α : Type} {kd : Kd α} {W : World} {e : TypeId} {A : Option Addr} {n cp : Nat} {xs : List α} (h : (row kd W e (.slice A n cp) xs).q w) (g : Grow W w) : n = xs.length ∧ n ≤ cp ∧ kd.C w A xs ∧ (0 < n → ∃ b, A = some ⟨b, 0, none⟩) := by
  obtain ⟨cs, ⟨hl, ho⟩, hr⟩ := h
  rcases ho with ⟨e1, e2⟩ | ⟨b, cap, cur, e1, _, hh, h1, h2, h3, h4⟩
  · injection e1 with e1 e3 e4
    subst e1 e3 e4
    have : xs = [] := List.eq_nil_of_length_eq_zero e2
    subst this
    exact ⟨rfl, Nat.le_refl _, Kd.C_nil _ _ _, fun h => absurd h (by omega)⟩
  · injection e1 with e1 e3 e4
    subst e1 e3 e4
    have hm : maxLen = 9223372036854775807 := rfl
    refine ⟨rfl, h1, ⟨by omega, fun _ => ⟨_, rfl, fun j x hx => ?_⟩⟩, fun _ => ⟨b, rfl⟩⟩
    obtain ⟨a, hK, hc⟩ := hr.at j x hx
    refine ⟨a, kd.K_grow g hK, fun i u hu => ?_⟩
    have := hc i u hu
    rw [add_at, Nat.zero_add]
    unfold World.cell?
    rw [hh]
    simp only [Option.isSome_none, Bool.false_eq_true, if_false]
    rw [← h4, List.getElem?_take] at this
    split at this
    · simpa using this
    · cases this
/-- A row's element, read. -/
theorem oIdxR {α : Type} {kd : Kd α} {W : World} {e e' : TypeId} {A : Option Addr} {n cp i s : Nat} {xs : List α} (hx : E.op x = some (.slice A n cp)) (hy : E.op y = some (.int k (i : Int))) (hp : Pick H (row kd W e (.slice A n cp) xs) H') (hi : i < n) (ht : elemT c.P t = some (e', s)) (hsz : kd.sz = s) {N : Md c}
    (h : ∀ g, A = some ⟨g, 0, none⟩ → O N rest ((d, .pointer (some (elt g i s 0))) :: E) D H) (hN : Nat.blt d c.N = true := by rfl) : O N (⟨some d, .indexAddr t x y, ty, pos, af, none⟩ :: rest) E D H := by
  intro a w ha hw
  subst hsz
  obtain ⟨cs, ⟨hl, ho⟩, hr⟩ : (row kd W e (.slice A n cp) xs).q w := hw.get hp
  rcases ho with ⟨e1, e2⟩ | ⟨b, cap, cur, e1, _⟩
  · injection e1 with e1 e3 e4; omega
  · injection e1 with e1 e3 e4
    subst e1 e3 e4
    refine oC (.pointer (some (elt b i kd.sz 0))) rfl hN (fun u w ha hw => ?_) (h b rfl) a w ha hw
    have e1 : elt b i kd.sz 0 = (⟨b, 0, none⟩ : Addr).add (i * kd.sz) := by rw [add_at]; unfold elt; simp
    simp [execOp, ha.op hx, ha.op hy, run_indexAt ht ⟨b, 0, none⟩ _ cp i hi k w, e1]
theorem oLdR {α : Type} {kd : Kd α} {W : World} {e : TypeId} {g n cp i j s : Nat} {xs : List α} (hx : E.op x = some (.pointer (some (elt g i s j)))) (hp : Pick H (row kd W e (.slice (some ⟨g, 0, none⟩) n cp) xs) H') (hi : i < xs.length) (hsz : kd.sz = s) (hs : scalT c.P t = true) {N : Md c}
    (h : ∀ u cs, xs[i]? = some u → kd.K W u cs → ∃ v, cs[j]? = some v ∧ O N rest ((d, v) :: E) D H) (hN : Nat.blt d c.N = true := by rfl) : O N (⟨some d, .load t x, ty, pos, af, none⟩ :: rest) E D H := by
  intro a w ha hw
  subst hsz
  obtain ⟨cs0, ho, hr⟩ : (row kd W e (.slice (some ⟨g, 0, none⟩) n cp) xs).q w := hw.get hp
  obtain ⟨cs, hK, hc⟩ := hr.at i _ (List.getElem?_eq_getElem hi)
  obtain ⟨v, hv, hO⟩ := h _ cs (List.getElem?_eq_getElem hi) hK
  have hcell := ho.cells (g := g) rfl _ v (hc j v hv)
  rw [add_at, Nat.zero_add] at hcell
  refine N.calm _ _ _ _ v rfl rfl ?_ (hO _ _ (ha.put hN) hw)
  have e1 : elt g i kd.sz j = ⟨g, i * kd.sz + j, none⟩ := by unfold elt; rfl
  simp [execOp, ha.fit.op hx, Instr.loadAt, Instr.sureAddr, loadVar, run_isAgg_s hs, e1, hcell]
/-- .. of one cell. -/
theorem oLdR1 {α : Type} {enc : α → Value} {h1 : ∀ x, (enc x).oneCell' = true} {W : World} {e : TypeId} {g n cp i : Nat} {xs : List α} (hx : E.op x = some (.pointer (some (elt g i 1 0)))) (hp : Pick H (row (Kd.scalar enc h1) W e (.slice (some ⟨g, 0, none⟩) n cp) xs) H') (hi : i < xs.length) (hs : scalT c.P t = true) {N : Md c}
    (h : ∀ u, xs[i]? = some u → O N rest ((d, enc u) :: E) D H) (hN : Nat.blt d c.N = true := by rfl) : O N (⟨some d, .load t x, ty, pos, af, none⟩ :: rest) E D H :=
  oLdR hx hp hi rfl hs (fun u cs hu hK => by obtain rfl := hK; exact ⟨_, rfl, h u hu⟩) hN
end
end Go.Proofs.YtnidmlngkpkmlaaK
