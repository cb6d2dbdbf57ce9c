/-
  The separation logic's arms for the walk: a variable laid in memory, loads and stores, maps, the end of a function that holds loops over iterators.
-/
import Derived.Test.YtnidmlngkpkmlaaSlr
import Derived.DataElems
import Derived.Lib.Hide
namespace Go.Proofs.YtnidmlngkpkmlaaSl
open Go.RowKit Go.Shelf Go.Proofs.YtnidmlngkpkmlaaW.PrintWords
variable {n0 : Nat} {w0 w w' : World} {Φ Φ' Φ'' Ψ Fr : List Res} {r r' : Res} {P : Program} {F : Fence} {n : Nat} {ops : Array Oper} {rest : List Oper} {o : Oper} {a : Act} {Q : Exit → Act → World → Prop}

def isCalm : Op → Bool
  | .defer _ | .call _ => false
  | _ => true
theorem semAt_calm (F : Fence) (ρ : Operand → Value) (o : Oper) (h : isCalm o.op = true) : o.semAt F.round ρ = execOp ρ o :=
  Oper.semAt_plain F ρ o (fun c hc => by rw [hc] at h; simp [isCalm] at h)
theorem about_calm (w : World) (ρ : Operand → Value) (o : Oper) (h : isCalm o.op = true) : o.about P w ρ = none := by
  unfold Oper.about; split
  · rename_i c hc; rw [hc] at h; simp [isCalm] at h
  · rfl
theorem wpListIn_val (hg : Region.wanted o (yielded ops a.tmps) = true) (hd : isCalm o.op = true) (v : Value) (hrun : (execOp a.eval o).run P w = .ok (.value v) w')
    (hK : wpListIn F n P ops Q rest (a.put o.dst v) w') : wpListIn F n P ops Q (o :: rest) a w := by
  refine BigFrame.wpListIn_want hg fun K hK' => ?_
  refine ⟨fun f hf => (by rw [about_calm _ _ _ hd] at hf; cases hf), ?_⟩
  rw [semAt_calm F _ _ hd, hrun]
  exact hK' _ _ hK
theorem wpListIn_skp (hg : Region.wanted o (yielded ops a.tmps) = true) (hd : isCalm o.op = true) (hrun : (execOp a.eval o).run P w = .ok .skip w')
    (hK : wpListIn F n P ops Q rest (a.put o.dst undef) w') : wpListIn F n P ops Q (o :: rest) a w := by
  refine BigFrame.wpListIn_want hg fun K hK' => ?_
  refine ⟨fun f hf => (by rw [about_calm _ _ _ hd] at hf; cases hf), ?_⟩
  rw [semAt_calm F _ _ hd, hrun]
  exact hK' _ _ hK

/-- A new variable. -/
theorem arm_alloc (hS : St n0 w0 Φ w) (hg : Region.wanted o (yielded ops a.tmps) = true) (t : TypeId) (hop : o.op = .alloc t) (z : Value) (cs : List Value) (hz : ((P.info? t).map (·.zero)) = some (some z)) (hcs : z.cells.toList = cs)
    (hK : ∀ b w', St n0 w0 (blk b t cs :: Φ) w' → Chg w w' (fun _ => False) → wpListIn F n P ops Q rest (a.put o.dst (.pointer (some ⟨b, 0, none⟩))) w') : wpListIn F n P ops Q (o :: rest) a w := by
  obtain ⟨i, hi, hz⟩ := Option.map_eq_some_iff.1 hz
  refine wpListIn_val (w' := w.alloc (.cells z.cells t)) hg (by rw [hop]; rfl) (.pointer (some ⟨w.heap.size, 0, none⟩)) ?_ (hK _ _ ?_ (Chg.alloc _ _ _))
  · simp [execOp, hop, Instr.alloc, zeroValue, typeInfo, hi, hz, newVar, newRow]
  · subst hcs; simpa using hS.alloc (.cells z.cells t)
/-- A new variable that holds a value. -/
theorem arm_box (hS : St n0 w0 Φ w) (hg : Region.wanted o (yielded ops a.tmps) = true) (t : TypeId) (x : Operand) (hop : o.op = .box t x) (v : Value) (cs : List Value) (hx : a.eval x = v) (hcs : v.cells.toList = cs)
    (hK : ∀ b w', St n0 w0 (blk b t cs :: Φ) w' → Chg w w' (fun _ => False) → wpListIn F n P ops Q rest (a.put o.dst (.pointer (some ⟨b, 0, none⟩))) w') : wpListIn F n P ops Q (o :: rest) a w := by
  refine wpListIn_val (w' := w.alloc (.cells v.cells t)) hg (by rw [hop]; rfl) (.pointer (some ⟨w.heap.size, 0, none⟩)) ?_ (hK _ _ ?_ (Chg.alloc _ _ _))
  · simp [execOp, hop, Instr.box, newVar, newRow, hx]
  · subst hcs; simpa using hS.alloc (.cells v.cells t)

def aggT (P : Program) (t : TypeId) : Bool := match P.underlying t with | some (.struct _) | some (.array _ _) => true | _ => false
theorem run_isAgg (t : TypeId) (h : (P.underlying t).isSome = true) (w : World) : (isAgg t).run P w = .ok (aggT P t) w := by
  obtain ⟨d, hd⟩ := Option.isSome_iff_exists.1 h
  unfold isAgg aggT
  rw [Sem.run_bind, run_underlying hd w, hd]
  cases d <;> simp
/-- One cell is loaded: of whatever is known of it. -/
theorem arm_load (hg : Region.wanted o (yielded ops a.tmps) = true) (t : TypeId) (x : Operand) (hop : o.op = .load t x) (ad : Addr) (hx : a.eval x = .pointer (some ad)) (hu : (P.underlying t).isSome = true) (hag : aggT P t = false) (v : Value) (hc : w.cell? ad = some v)
    (hK : wpListIn F n P ops Q rest (a.put o.dst v) w) : wpListIn F n P ops Q (o :: rest) a w := by
  refine wpListIn_val hg (by rw [hop]; rfl) v ?_ hK
  have := run_isAgg (P := P) t hu w
  rw [hag] at this
  simp [execOp, hop, hx, Instr.loadAt, Instr.sureAddr, loadVar, this, hc]
/-- Several cells, as one value. -/
theorem arm_loadA (hg : Region.wanted o (yielded ops a.tmps) = true) (t : TypeId) (x : Operand) (hop : o.op = .load t x) (ad : Addr) (hx : a.eval x = .pointer (some ad)) (hu : (P.underlying t).isSome = true) (hag : aggT P t = true) (cs : List Value) (hi : (P.info? t).map (·.size) = some cs.length)
    (hc : ∀ j v, cs[j]? = some v → w.cell? (ad.add j) = some v)
    (hK : wpListIn F n P ops Q rest (a.put o.dst (.agg cs.toArray)) w) : wpListIn F n P ops Q (o :: rest) a w := by
  refine wpListIn_val hg (by rw [hop]; rfl) _ ?_ hK
  have := run_isAgg (P := P) t hu w
  rw [hag] at this
  obtain ⟨i, hi, hs⟩ := Option.map_eq_some_iff.1 hi
  have hl := run_loadCells_list (P := P) w ad cs hc
  simp [execOp, hop, hx, Instr.loadAt, Instr.sureAddr, loadVar, this, sizeOf, typeInfo, hi, hs, hl]
/-- One cell of a block of the state's. -/
theorem arm_get (hS : St n0 w0 Φ w) (hg : Region.wanted o (yielded ops a.tmps) = true) (t : TypeId) (x : Operand) (hop : o.op = .load t x) (b i : Nat) (hx : a.eval x = .pointer (some ⟨b, i, none⟩)) (hu : (P.underlying t).isSome = true) (hag : aggT P t = false)
    (tb : TypeId) (cs : List Value) (hp : Pick Φ (blk b tb cs) Φ') (v : Value) (hv : cs[i]? = some v)
    (hK : wpListIn F n P ops Q rest (a.put o.dst v) w) : wpListIn F n P ops Q (o :: rest) a w :=
  arm_load hg t x hop _ hx hu hag v (hS.cell hp i hv) hK
/-- A whole block of the state's. -/
theorem arm_getA (hS : St n0 w0 Φ w) (hg : Region.wanted o (yielded ops a.tmps) = true) (t : TypeId) (x : Operand) (hop : o.op = .load t x) (b : Nat) (hx : a.eval x = .pointer (some ⟨b, 0, none⟩)) (hu : (P.underlying t).isSome = true) (hag : aggT P t = true)
    (tb : TypeId) (cs : List Value) (hp : Pick Φ (blk b tb cs) Φ') (hi : (P.info? t).map (·.size) = some cs.length)
    (hK : wpListIn F n P ops Q rest (a.put o.dst (.agg cs.toArray)) w) : wpListIn F n P ops Q (o :: rest) a w :=
  arm_loadA hg t x hop _ hx hu hag cs hi (fun j v hv => by
    have : (⟨b, 0, none⟩ : Addr).add j = ⟨b, j, none⟩ := add_plain b j
    rw [this]; exact hS.cell hp j hv) hK
/-- A store into a cell of the state's. -/
theorem arm_put (hS : St n0 w0 Φ w) (hg : Region.wanted o (yielded ops a.tmps) = true) (t : TypeId) (x y : Operand) (hop : o.op = .store t x y) (b i : Nat) (v : Value) (hx : a.eval x = .pointer (some ⟨b, i, none⟩)) (hy : a.eval y = v) (hv : v.cells = #[v]) (hone : v.oneCell' = true) (hi : (P.info? t).map (·.size) = some 1)
    (tb : TypeId) (cs cs' : List Value) (hcs0 : cs' = cs') (hu : Upd Φ (blk b tb cs) (blk b tb cs') Φ') (hin : i < cs.length) (hcs' : cs.set i v = cs')
    (hK : ∀ w', St n0 w0 Φ' w' → Chg w w' (fun k => k = b) → wpListIn F n P ops Q rest (a.put o.dst undef) w') : wpListIn F n P ops Q (o :: rest) a w := by
  subst hcs'
  have hb : w.heap[b]? = some (.cells cs.toArray tb (0, 0)) := (hS.sep.get hu.mem).1
  have hc : w.cell? ⟨b, i, none⟩ = some cs[i] := by rw [cell_of_row w b i _ tb (0, 0) hb]; simp [hin]
  have hf : w.frozen? ⟨b, i, none⟩ = false := blk_frozen hb i
  refine wpListIn_skp (w' := w.setCell ⟨b, i, none⟩ v) hg (by rw [hop]; rfl) ?_ (hK _ (hS.set i v hu) (Chg.setCell _ _ _))
  obtain ⟨inf, hi, hs⟩ := Option.map_eq_some_iff.1 hi
  have hst : (storeCells ⟨b, i, none⟩ [v]).run P w = .ok () (w.setCell ⟨b, i, none⟩ v) := by
    cases v <;> simp_all [storeCells, store, Sem.run, Value.oneCell', Addr.add, Sem.run_bind]
  simp [execOp, hop, hx, hy, Instr.storeAt, Instr.sureAddr, storeVar, sizeOf, typeInfo, hi, hs, hv, hst]
/-- A store of a whole block. -/
theorem arm_putA (hS : St n0 w0 Φ w) (hg : Region.wanted o (yielded ops a.tmps) = true) (t : TypeId) (x y : Operand) (hop : o.op = .store t x y) (b : Nat) (new : Array Value) (hx : a.eval x = .pointer (some ⟨b, 0, none⟩)) (hy : a.eval y = .agg new) (h1 : new.all (·.oneCell') = true) (hi : (P.info? t).map (·.size) = some new.size)
    (tb : TypeId) (cs : List Value) (hu : Upd Φ (blk b tb cs) (blk b tb new.toList) Φ') (hin : cs.length = new.size)
    (hK : ∀ w', St n0 w0 Φ' w' → Chg w w' (fun k => k = b) → wpListIn F n P ops Q rest (a.put o.dst undef) w') : wpListIn F n P ops Q (o :: rest) a w := by
  have hb : w.heap[b]? = some (.cells cs.toArray tb (0, 0)) := (hS.sep.get hu.mem).1
  have hrun := run_storeVar_row (P := P) w b tb t cs.toArray new hb hi (by simpa using hin) h1
  have hlt : b < w.heap.size := (Array.getElem?_eq_some_iff.1 hb).1
  have hnew : (w.setRow b new).heap[b]? = some (.cells new tb (0, 0)) := by rw [World.setRow]; simp only [Array.getElem?_modify, if_true, hb, Option.map_some]
  have hc : Chg w (w.setRow b new) (fun k => k = b) := ⟨rfl, rfl, rfl, by simp [World.setRow], fun k _ hn => by rw [World.setRow]; simp only [Array.getElem?_modify]; rw [if_neg (fun h => hn h.symm)]⟩
  refine wpListIn_skp (w' := w.setRow b new) hg (by rw [hop]; rfl) ?_ (hK _ (hS.upd hu hc (by simpa [ob] using hnew) (fun k hk => .inl hk)) hc)
  simp [execOp, hop, hx, hy, Instr.storeAt, Instr.sureAddr, hrun]

/-- yield is called. -/
theorem arm_yield {lp : Nat} {R : Ending → World → Prop} (hg : Region.wanted o (yielded ops a.tmps) = true) (f : Operand) (xs : Array Operand) (ats : Array TypeId) (hop : o.op = .call { callee := .value f, args := xs, argTypes := ats }) (hf : a.eval f = .func (.yield lp) #[] #[])
    (args : Array Value) (hargs : xs.toList.map a.eval = args.toList) (hY : YieldAt Fence.wide 0 P lp args w R)
    (hK : ∀ e w', R e w' → ∃ v, e = .returned v ∧ wpListIn Fence.wide 0 P ops Q rest (a.put o.dst v) w') : wpListIn Fence.wide 0 P ops Q (o :: rest) a w := by
  replace hargs : xs.map a.eval = args := by rw [← Array.toList_inj, Array.toList_map]; exact hargs
  obtain ⟨fn, tmps, assign, body, hy, hR⟩ := hY
  refine BigFrame.wpListIn_want hg fun K hK' => ?_
  refine ⟨fun _ _ => trivial, ?_⟩
  rw [Oper.semAt_plain Fence.wide _ _ (by rw [hop]; intro c hc; cases hc)]
  simp only [execOp, hop, resolve, Sem.run_bind, hf, hargs]
  simp only [Deferred.ofValue, Sem.run_pure, Result.andThen_ok, invoke, List.append_toArray, List.nil_append, Array.empty_append]
  rw [hy]
  refine ⟨fun h => by simp [Fence.wide] at h, hR.mono ?_⟩
  intro e w' hr
  obtain ⟨v, rfl, hk⟩ := hK e w' hr
  exact hK' _ _ hk

/-- A row's element, its cells: as a load of the whole element wants them. -/
theorem elem_cells {α : Type} {d : Kd α} {w : World} {A : Option Addr} {n : Nat} {xs : List α} (h : d.C w A n xs) (z : α) (i : Int) (h0 : 0 ≤ i) (h1 : i < n) :
    ∃ ad c, A = some ad ∧ d.K w (xs.getD i.toNat z) c ∧ c.length = d.sz ∧ ∀ j u, c[j]? = some u → w.cell? ((ad.add (i.toNat * d.sz)).add j) = some u := by
  obtain ⟨ad, c, e, hl, hK, hc0⟩ := Kd.C_get h z i h0 h1
  refine ⟨ad, c, e, hK, d.K_len hK, fun j u hu => ?_⟩
  rw [Addr.add_add]; exact hc0 j u hu
theorem add_pos (a : Addr) (j : Nat) (hj : 0 < j) : a.add j = ⟨a.block, a.off + j, none⟩ := by unfold Addr.add; rw [if_neg (by omega)]
theorem cell_pos {w : World} {a : Addr} {v : Value} (j : Nat) (hj : 0 < j) (h : w.cell? (a.add j) = some v) : w.cell? ⟨a.block, a.off + j, none⟩ = some v := by rw [← add_pos a j hj]; exact h
theorem St.rd {α : Type} {d : Kd α} {A : Option Addr} {n : Nat} {xs : List α} (h : St w0.heap.size w0 Φ w) (hC : d.C w0 A n xs) : d.C w A n xs := Kd.C_below hC h.below

theorem St.ext (h : St w0.heap.size w0 Φ w) {ad : Addr} {v : Value} (hc : w0.cell? ad = some v) : w.cell? ad = some v := (h.below.cell (World.block_lt_of_cell? w0 ad hc)).trans hc

/-- A region that draws its order is left in one frame and one world, whichever way it went. -/
theorem wpIn_via {c : Code} {K : Act → World → Prop} {Q' : Exit → Act → World → Prop} (A : Act) (W : World)
    (h : ∀ (K0 : Act → World → Prop), Hid (K0 A W) → c.wpIn F n P (Exit.then K0 (fun _ _ _ => False)) a w) (k : K A W) : c.wpIn F n P (Exit.then K Q') a w :=
  wpIn_mono (h K k) (fun e a' w' hq => by cases e <;> first | exact hq | exact hq.elim)

/-! ### Results -/
/-- What a result variable holds at the end. -/
def resV (tmps : Array Value) : ResultVar → Sem Value
  | .tmp t => pure (tmps.getD t undef)
  | .cell a t => do loadVar t (← asAddr (tmps.getD a undef))
theorem res_tmp (tmps : Array Value) (t : Tmp) (v : Value) (hv : tmps.getD t undef = v) (w : World) : (resV tmps (.tmp t)).run P w = .ok v w := by subst hv; rfl
theorem res_cell (hS : St n0 w0 Φ w) (tmps : Array Value) (p : Tmp) (t : TypeId) (b : Nat) (hp : tmps.getD p undef = .pointer (some ⟨b, 0, none⟩)) (hu : (P.underlying t).isSome = true) (hag : aggT P t = false) (tb : TypeId) (v : Value) (hk : Pick Φ (blk b tb [v]) Φ') :
    (resV tmps (.cell p t)).run P w = .ok v w := by
  have h := run_isAgg (P := P) t hu w
  rw [hag] at h
  have hc := hS.cell hk 0 rfl
  show (Sem.run P (do loadVar t (← asAddr (tmps.getD p undef))) w) = _
  rw [hp]
  simp [asAddr, loadVar, h, hc]
theorem res_cellA (hS : St n0 w0 Φ w) (tmps : Array Value) (p : Tmp) (t : TypeId) (b : Nat) (hp : tmps.getD p undef = .pointer (some ⟨b, 0, none⟩)) (hu : (P.underlying t).isSome = true) (hag : aggT P t = true) (tb : TypeId) (cs : List Value) (hk : Pick Φ (blk b tb cs) Φ') (hi : (P.info? t).map (·.size) = some cs.length) :
    (resV tmps (.cell p t)).run P w = .ok (.agg cs.toArray) w := by
  have h := run_isAgg (P := P) t hu w
  rw [hag] at h
  obtain ⟨i, hi, hs⟩ := Option.map_eq_some_iff.1 hi
  have hl := run_loadCells_list (P := P) w ⟨b, 0, none⟩ cs (fun j v hv => by rw [add_plain b j]; exact hS.cell hk j hv)
  show (Sem.run P (do loadVar t (← asAddr (tmps.getD p undef))) w) = _
  rw [hp]
  simp [asAddr, loadVar, h, sizeOf, typeInfo, hi, hs, hl]
theorem results_eq (fn : Func) (tmps : Array Value) : results fn tmps = (do let vs ← fn.results.mapM (resV tmps); pure (if h : vs.size = 1 then vs[0] else .tuple vs)) := rfl
theorem results_1 {fn : Func} {tmps : Array Value} {r1 : ResultVar} {v1 : Value} (h : fn.results = #[r1]) (h1 : (resV tmps r1).run P w = .ok v1 w) : (results fn tmps).run P w = .ok v1 w := by
  rw [results_eq, h]; simp [h1]
theorem results_2 {fn : Func} {tmps : Array Value} {r1 r2 : ResultVar} {v1 v2 : Value} (h : fn.results = #[r1, r2]) (h1 : (resV tmps r1).run P w = .ok v1 w) (h2 : (resV tmps r2).run P w = .ok v2 w) : (results fn tmps).run P w = .ok (.tuple #[v1, v2]) w := by
  rw [results_eq, h]; simp [h1, h2]
theorem results_3 {fn : Func} {tmps : Array Value} {r1 r2 r3 : ResultVar} {v1 v2 v3 : Value} (h : fn.results = #[r1, r2, r3]) (h1 : (resV tmps r1).run P w = .ok v1 w) (h2 : (resV tmps r2).run P w = .ok v2 w) (h3 : (resV tmps r3).run P w = .ok v3 w) : (results fn tmps).run P w = .ok (.tuple #[v1, v2, v3]) w := by
  rw [results_eq, h]; simp [h1, h2, h3]

/-! ### The end of a function that holds loops over iterators -/
def mk (Ds : List Nat) : List Deferred := Ds.map fun D => { target := .collected D, args := #[] }
def mr (Ds : List Nat) : List Res := Ds.map fun D => ob D (.deferred (some []))
theorem leaves_marks {fn : Func} {tmps : Array Value} {R : Ending → World → Prop} : ∀ (Ds : List Nat) (w : World), St n0 w0 (mr Ds ++ Ψ) w →
    (∀ w', St n0 w0 Ψ w' → ∃ v, (results fn tmps).run P w' = .ok v w' ∧ R (.returned v) w') → LeavesInM Fence.wide 0 P fn tmps R (mk Ds) .returning w
  | [], w, h, hr => hr w h
  | D :: Ds, w, h, hr => by
    have h' : St n0 w0 (ob D (.deferred (some [])) :: (mr Ds ++ Ψ)) w := h
    have hD : w.heap[D]? = some (.deferred (some [])) := h'.get .here
    exact ⟨by simp, .inl ⟨D, _, rfl, run_takeDeferred hD, leaves_marks Ds _ (h'.put (o' := .deferred none) .here).drop hr⟩⟩
end Go.Proofs.YtnidmlngkpkmlaaSl
