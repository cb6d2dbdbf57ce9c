/-
  More arms: slices' literals.
-/
import Derived.Test.YtnidmlngkpkmlaaSlm
namespace Go.Proofs.YtnidmlngkpkmlaaSl
open Go.RowKit Go.Shelf Go.Proofs.YtnidmlngkpkmlaaW.PrintWords
variable {n0 : Nat} {w0 w w' : World} {Φ Φ' Φ'' Ψ Fr : List Res} {r r' : Res} {P : Program} {F : Fence} {n : Nat} {ops : Array Oper} {rest : List Oper} {o : Oper} {a : Act} {Q : Exit → Act → World → Prop}

/-- A slice's literal: its elements' cells. -/
theorem arm_buildSlice (hS : St n0 w0 Φ w) (hg : Region.wanted o (yielded ops a.tmps) = true) (t : TypeId) (len : Nat) (ps : Array (Nat × Operand)) (hop : o.op = .buildSlice t len ps) (e : TypeId) (ht : P.underlying t = some (.slice e)) (sz : Nat) (hi : (P.info? e).map (·.size) = some sz) (z : Value) (hz : ((P.info? e).map (·.zero)) = some (some z))
    (hsm : len * sz ≤ 2 ^ 24) (h0 : len * sz ≠ 0) (vs : List (Nat × Value)) (hvs : ps.toList.map (fun p => (p.1, a.eval p.2)) = vs) (cs : List Value) (hf : Instr.fill (fun i => some (i * sz, sz)) ((Array.range (len * sz)).map (z.cells[· % z.cells.size]!)) vs = some cs.toArray)
    (hK : ∀ b w', St n0 w0 (blk b e cs :: Φ) w' → Chg w w' (fun _ => False) → wpListIn F n P ops Q rest (a.put o.dst (.slice (some ⟨b, 0, none⟩) len len)) w') : wpListIn F n P ops Q (o :: rest) a w := by
  obtain ⟨inf, hi1, hs⟩ := Option.map_eq_some_iff.1 hi
  obtain ⟨inf', hi2, hz⟩ := Option.map_eq_some_iff.1 hz
  have he : inf' = inf := by rw [hi1] at hi2; exact (Option.some.inj hi2).symm
  subst he
  refine wpListIn_val (w' := w.alloc (.cells cs.toArray e)) hg (by rw [hop]; rfl) (.slice (some ⟨w.heap.size, 0, none⟩) len len) ?_ (hK _ _ (by simpa using hS.alloc (.cells cs.toArray e)) (Chg.alloc _ _ _))
  simp only [execOp, hop, Sem.run_bind, Instr.buildSlice, run_underlying ht, Result.andThen_ok, sizeOf, typeInfo, zeroValue]
  rw [← hvs] at hf
  simp [hi1, hs, hz, h0, hf, newRow, show ¬ (16777216 < len * sz) by omega]

/-- A field of one cell, of a struct's value. -/
theorem arm_field (hg : Region.wanted o (yielded ops a.tmps) = true) (t : TypeId) (x : Operand) (i : Nat) (hop : o.op = .field t x i) (fs : Array Field) (ht : P.underlying t = some (.struct fs)) (ft : TypeId) (off : Nat) (hf : (fs[i]?.map fun f => (f.type, f.offset)) = some (ft, off)) (hu : (P.underlying ft).isSome = true) (hag : aggT P ft = false) (cs : Array Value) (hx : a.eval x = .agg cs) (v : Value) (hv : cs[off]? = some v)
    (hK : wpListIn F n P ops Q rest (a.put o.dst v) w) : wpListIn F n P ops Q (o :: rest) a w := by
  refine wpListIn_val hg (by rw [hop]; rfl) v ?_ hK
  obtain ⟨f, hff, he⟩ := Option.map_eq_some_iff.1 hf
  clear hf
  injection he with e1 e2
  subst e1; subst e2
  have := run_isAgg (P := P) f.type hu w
  rw [hag] at this
  simp [execOp, hop, hx, Instr.field, run_underlying ht, hff, part, asAgg, this, hv]
/-- The cells of a row's elements, one after the other. -/
def Cells {α : Type} (d : Kd α) (w : World) : List α → List Value → Prop
  | [], cs => cs = []
  | x :: xs, cs => ∃ c rest, cs = c ++ rest ∧ d.K w x c ∧ Cells d w xs rest
theorem Cells.at {α : Type} {d : Kd α} {w : World} : ∀ {xs : List α} {cs : List Value}, Cells d w xs cs → ∀ j x, xs[j]? = some x → ∃ c, c.length = d.sz ∧ d.K w x c ∧ ∀ i u, c[i]? = some u → cs[j * d.sz + i]? = some u
  | [], _, _, j, x, hj => by simp at hj
  | y :: xs, cs, ⟨c, rest, e, hK, hR⟩, 0, x, hj => by
    obtain rfl : y = x := by simpa using hj
    refine ⟨c, d.K_len hK, hK, fun i u hu => ?_⟩
    have hi : i < c.length := (List.getElem?_eq_some_iff.1 hu).1
    rw [e, Nat.zero_mul, Nat.zero_add, List.getElem?_append_left hi, hu]
  | y :: xs, cs, ⟨c, rest, e, hK, hR⟩, j + 1, x, hj => by
    obtain ⟨c2, h1, h2, h3⟩ := Cells.at hR j x (by simpa using hj)
    refine ⟨c2, h1, h2, fun i u hu => ?_⟩
    have hl := d.K_len hK
    rw [e, List.getElem?_append_right (by rw [hl, Nat.succ_mul]; omega), hl, show (j + 1) * d.sz + i - d.sz = j * d.sz + i by rw [Nat.succ_mul]; omega]
    exact h3 i u hu
theorem C_blk {α : Type} {d : Kd α} {w : World} {b t : Nat} {cs : List Value} (hb : w.heap[b]? = some (.cells cs.toArray t (0, 0))) (xs : List α) (n : Nat) (hn : xs.length = n) (hm : n ≤ 9223372036854775807) (hc : Cells d w xs cs) : Kd.C d w (some ⟨b, 0, none⟩) n xs := by
  refine ⟨hn, hm, fun _ => ⟨_, rfl, fun j x hj => ?_⟩⟩
  obtain ⟨c, h1, h2, h3⟩ := hc.at j x hj
  refine ⟨c, h1, h2, fun i u hu => ?_⟩
  rw [add_plain, cell_of_row w b _ _ t (0, 0) hb]
  simpa using h3 i u hu
theorem C_none {α : Type} (d : Kd α) (w : World) : Kd.C d w none 0 [] := ⟨rfl, by omega, fun h => by omega⟩
theorem St.getb {n0 : Nat} {w0 w : World} {Φ Φ' : List Res} {b t : Nat} {cs : List Value} (hS : St n0 w0 Φ w) (hp : Pick Φ (blk b t cs) Φ') : w.heap[b]? = some (.cells cs.toArray t (0, 0)) := hS.get hp
theorem St.use {n0 : Nat} {w0 w : World} {Φ : List Res} (hS : St n0 w0 Φ w) {f : FuncId} {args : Array Value} {R : Ending → Prop} (h : Calls P f args w fun e w' => R e ∧ Below w.heap.size w w') : CallsIn Fence.wide 0 P f args w fun e w' => R e ∧ St n0 w0 Φ w' :=
  (callsIn_wide.2 h).mono fun _ _ h => ⟨h.1, hS.call h.2⟩
theorem callsIn_args {f : FuncId} {args : Array Value} {R : Ending → World → Prop} (args' : Array Value) (h : args = args') (k : CallsIn F n P f args' w R) : CallsIn F n P f args w R := h ▸ k
end Go.Proofs.YtnidmlngkpkmlaaSl
