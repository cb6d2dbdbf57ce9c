/-
  The separation logic's maps: a map of the call's own as a list of keys and values; look up, store, delete, len.
-/
import Derived.Test.YtnidmlngkpkmlaaSla
namespace Go.Proofs.YtnidmlngkpkmlaaSl
open Go.RowKit Go.Shelf Go.Proofs.YtnidmlngkpkmlaaW.PrintWords
variable {n0 : Nat} {w0 w w' : World} {Φ Φ' Φ'' Ψ Fr : List Res} {r r' : Res} {P : Program} {F : Fence} {n : Nat} {ops : Array Oper} {rest : List Oper} {o : Oper} {a : Act} {Q : Exit → Act → World → Prop}

/-- Keys that the model compares at once. -/
structure KeyE (κ : Type) [DecidableEq κ] (enc : κ → Value) (d : TypeDesc) : Prop where
  same : ∀ a b, Instr.sameNow d (enc a) (enc b) = some (decide (a = b))
  bits : ∀ a, Instr.sameBits 10000 (enc a) (enc a) = true
  check : ∀ (e : Bool) (P : Program) (t : TypeId) (a : κ) (w : World), P.underlying t = some d → (Instr.checkKey e 10000 t (enc a)).run P w = .ok () w
theorem ba_beq (a b : ByteArray) : (a == b) = decide (a = b) := by
  rw [Bool.eq_iff_iff]
  cases a with | mk x => cases b with | mk y =>
  show (x == y) = true ↔ _
  simp
theorem keyE_str : KeyE ByteArray Value.string .string where
  same a b := by simp [Instr.sameNow, ba_beq]
  bits a := by rw [Instr.sameBits.eq_def]; simp [ba_beq]
  check e P t a w h := by rw [Instr.checkKey.eq_def]; simp only []; rw [Sem.run_bind, run_underlying h]; rfl
theorem keyE_int (k : IntKind) : KeyE Int (Value.int k) (.int k) where
  same a b := by simp [Instr.sameNow]; rfl
  bits a := by rw [Instr.sameBits.eq_def]; simp
  check e P t a w h := by rw [Instr.checkKey.eq_def]; simp only []; rw [Sem.run_bind, run_underlying h]; rfl

section
variable {κ β : Type} [DecidableEq κ] {enc : κ → Value} {ev : β → Value} {d : TypeDesc}
def mget (M : List (κ × β)) (k : κ) : Option β := (M.find? (fun p => p.1 = k)).map (·.2)
def mset : List (κ × β) → κ → β → List (κ × β)
  | [], k, v => [(k, v)]
  | p :: M, k, v => if p.1 = k then (k, v) :: M else p :: mset M k v
def mdel : List (κ × β) → κ → List (κ × β)
  | [], _ => []
  | p :: M, k => if p.1 = k then M else p :: mdel M k
/-- The entries tell the map. -/
def Tells (enc : κ → Value) (ev : β → Value) (es : List MapEntry) (M : List (κ × β)) : Prop := es.map (fun e => (e.key, e.val)) = M.map (fun p => (enc p.1, ev p.2))
theorem findNow_tells (K : KeyE κ enc d) (k : κ) : ∀ (es : List MapEntry) (M : List (κ × β)) (i : Nat), Tells enc ev es M →
    (mget M k = none ∧ Instr.findNow d (enc k) es i = some none ∧ mset M k = fun v => M ++ [(k, v)]) ∨
    (∃ j v, mget M k = some v ∧ Instr.findNow d (enc k) es i = some (some (i + j, ev v)) ∧ (es[j]?.map (·.key)) = some (enc k) ∧
      (∀ u, Tells enc ev (es.modify j fun e => { e with key := enc k, val := ev u }) (mset M k u)) ∧ Tells enc ev (es.eraseIdx j) (mdel M k)) := by
  intro es
  induction es with
  | nil =>
    intro M i h
    cases M with
    | nil => exact .inl ⟨rfl, rfl, rfl⟩
    | cons p M => simp [Tells] at h
  | cons e es ih =>
    intro M i h
    cases M with
    | nil => simp [Tells] at h
    | cons p M =>
      have hp : e.key = enc p.1 ∧ e.val = ev p.2 ∧ Tells enc ev es M := by simpa [Tells, and_assoc] using h
      obtain ⟨h1, h2, h3⟩ := hp
      by_cases hk : p.1 = k
      · refine .inr ⟨0, p.2, by simp [mget, hk], ?_, by simp [h1, hk], fun u => ?_, ?_⟩
        · rw [Instr.findNow, h1, K.same]; simp [hk, h2]
        · simp [Tells, mset, hk]; exact h3
        · simpa [mdel, hk] using h3
      · have hs : Instr.sameNow d (enc k) e.key = some false := by rw [h1, K.same]; simp; exact fun h => hk h.symm
        rcases ih M (i + 1) h3 with ⟨a, b, c⟩ | ⟨j, v, a, b, c, f, g⟩
        · refine .inl ⟨by simpa [mget, hk] using a, by rw [Instr.findNow, hs]; exact b, ?_⟩
          funext v; simp [mset, hk, c]
        · refine .inr ⟨j + 1, v, by simpa [mget, hk] using a, ?_, by simpa using c, fun u => ?_, ?_⟩
          · rw [Instr.findNow, hs]; simp only []; rw [b]; simp; omega
          · have := f u; simp only [Tells, List.modify_succ_cons, List.map_cons, mset, if_neg hk] at this ⊢; rw [this, h1, h2]
          · have := g; simp only [Tells, List.eraseIdx_cons_succ, List.map_cons, mdel, if_neg hk] at this ⊢; rw [this, h1, h2]
/-- Block b is a map that reads as M. -/
def kmap (enc : κ → Value) (ev : β → Value) (b : Nat) (M : List (κ × β)) : Res where
  fp k := k = b
  q w := ∃ es clk, w.heap[b]? = some (.map es clk) ∧ Tells enc ev es.toList M
  inb w h k hk := by obtain ⟨es, clk, h, _⟩ := h; subst hk; exact (Array.getElem?_eq_some_iff.1 h).1
  st w w' h hk := by obtain ⟨es, clk, h, ht⟩ := h; exact ⟨es, clk, (hk b rfl).trans h, ht⟩

theorem run_getMap {b : Nat} {es : Array MapEntry} {clk : Nat} (h : w.heap[b]? = some (.map es clk)) : (getObj b).run P w = .ok (.map es clk) w := by
  simp [getObj, Sem.run, h]
theorem run_setMap {b : Nat} {es : Array MapEntry} {clk : Nat} (o : Obj) (h : w.heap[b]? = some (.map es clk)) : (setObj b o).run P w = .ok () (w.putObj b o) := by
  simp [setObj, Sem.run, h, World.putObj]

omit [DecidableEq κ] in
theorem arm_makeMap (enc : κ → Value) (ev : β → Value) (hS : St n0 w0 Φ w) (hg : Region.wanted o (yielded ops a.tmps) = true) (t : TypeId) (hop : o.op = .makeMap t none)
    (hK : ∀ b w', St n0 w0 (kmap enc ev b [] :: Φ) w' → Chg w w' (fun _ => False) → wpListIn F n P ops Q rest (a.put o.dst (.map (some b))) w') : wpListIn F n P ops Q (o :: rest) a w := by
  refine wpListIn_val (w' := w.alloc (.map #[] 0)) hg (by rw [hop]; rfl) (.map (some w.heap.size)) ?_ (hK _ _ ?_ (Chg.alloc _ _ _))
  · simp [execOp, hop, Instr.makeMap]
  · exact hS.add (Chg.alloc _ _ _) ⟨#[], 0, World.alloc_heap_new w _, rfl⟩ (fun k hk => by have : k = w.heap.size := hk; omega)
theorem run_lookup (K : KeyE κ enc d) (hS : St n0 w0 Φ w) (t kt et : TypeId) (ht : P.underlying t = some (.map kt et)) (hkt : P.underlying kt = some d) (z : β) (hz : ((P.info? et).map (·.zero)) = some (some (ev z)))
    (b : Nat) (M : List (κ × β)) (hp : Pick Φ (kmap enc ev b M) Φ') (k : κ) (ok : Bool) :
    (Instr.lookup t (.map (some b)) (enc k) ok).run P w = .ok (if ok then .tuple #[ev ((mget M k).getD z), .bool (mget M k).isSome] else ev ((mget M k).getD z)) w := by
  obtain ⟨es, clk, hb, hT⟩ : ∃ es clk, w.heap[b]? = some (.map es clk) ∧ Tells enc ev es.toList M := hS.get hp
  obtain ⟨i, hi, hz⟩ := Option.map_eq_some_iff.1 hz
  rcases findNow_tells K k es.toList M 0 hT with ⟨h1, h2, _⟩ | ⟨j, v, h1, h2, _⟩
  · simp [Instr.lookup, run_underlying ht, run_underlying hkt, run_getMap hb, K.check _ P kt k w hkt, Instr.findKey, h2, h1, zeroValue, typeInfo, hi, hz]
  · simp [Instr.lookup, run_underlying ht, run_underlying hkt, run_getMap hb, K.check _ P kt k w hkt, Instr.findKey, h2, h1]
theorem arm_lookup (K : KeyE κ enc d) (hS : St n0 w0 Φ w) (hg : Region.wanted o (yielded ops a.tmps) = true) (t : TypeId) (m x : Operand) (ok : Bool) (hop : o.op = .lookup t m x ok) (kt et : TypeId) (ht : P.underlying t = some (.map kt et)) (hkt : P.underlying kt = some d) (z : β) (hz : ((P.info? et).map (·.zero)) = some (some (ev z)))
    (b : Nat) (k : κ) (hm : a.eval m = .map (some b)) (hx : a.eval x = enc k) (M : List (κ × β)) (hp : Pick Φ (kmap enc ev b M) Φ')
    (hK : wpListIn F n P ops Q rest (a.put o.dst (if ok then .tuple #[ev ((mget M k).getD z), .bool (mget M k).isSome] else ev ((mget M k).getD z))) w) : wpListIn F n P ops Q (o :: rest) a w := by
  refine wpListIn_val hg (by rw [hop]; rfl) _ ?_ hK
  have := run_lookup K hS t kt et ht hkt z hz b M hp k ok
  simp [execOp, hop, hm, hx, this]
/-- The same; what comes is told by its name. -/
theorem arm_lookupR (K : KeyE κ enc d) (r : Value) (hS : St n0 w0 Φ w) (hg : Region.wanted o (yielded ops a.tmps) = true) (t : TypeId) (m x : Operand) (ok : Bool) (hop : o.op = .lookup t m x ok) (kt et : TypeId) (ht : P.underlying t = some (.map kt et)) (hkt : P.underlying kt = some d) (z : β) (hz : ((P.info? et).map (·.zero)) = some (some (ev z)))
    (b : Nat) (k : κ) (hm : a.eval m = .map (some b)) (hx : a.eval x = enc k) (M : List (κ × β)) (hp : Pick Φ (kmap enc ev b M) Φ')
    (hr : (if ok then .tuple #[ev ((mget M k).getD z), .bool (mget M k).isSome] else ev ((mget M k).getD z)) = r)
    (hK : wpListIn F n P ops Q rest (a.put o.dst r) w) : wpListIn F n P ops Q (o :: rest) a w :=
  arm_lookup K hS hg t m x ok hop kt et ht hkt z hz b k hm hx M hp (hr ▸ hK)
theorem arm_mapUpdate (K : KeyE κ enc d) (hS : St n0 w0 Φ w) (hg : Region.wanted o (yielded ops a.tmps) = true) (t : TypeId) (m x y : Operand) (hop : o.op = .mapUpdate t m x y) (kt et : TypeId) (ht : P.underlying t = some (.map kt et)) (hkt : P.underlying kt = some d)
    (b : Nat) (k : κ) (v : β) (hm : a.eval m = .map (some b)) (hx : a.eval x = enc k) (hy : a.eval y = ev v) (M : List (κ × β)) (hu : Upd Φ (kmap enc ev b M) (kmap enc ev b (mset M k v)) Φ')
    (hK : ∀ w', St n0 w0 Φ' w' → Chg w w' (fun k => k = b) → wpListIn F n P ops Q rest (a.put o.dst undef) w') : wpListIn F n P ops Q (o :: rest) a w := by
  obtain ⟨es, clk, hb, hT⟩ : ∃ es clk, w.heap[b]? = some (.map es clk) ∧ Tells enc ev es.toList M := (hS.sep.get hu.mem).1
  have hlt : b < w.heap.size := (Array.getElem?_eq_some_iff.1 hb).1
  have fin : ∀ es' clk', Tells enc ev es'.toList (mset M k v) → (Instr.mapUpdate t (.map (some b)) (enc k) (ev v)).run P w = .ok () (w.putObj b (.map es' clk')) → wpListIn F n P ops Q (o :: rest) a w := fun es' clk' hT' hrun =>
    wpListIn_skp hg (by rw [hop]; rfl) (by simp [execOp, hop, hm, hx, hy, hrun]) (hK _ (hS.upd hu (Chg.putObj w b _) ⟨es', clk', World.putObj_heap_same hlt, hT'⟩ (fun k hk => .inl hk)) (Chg.putObj w b _))
  rcases findNow_tells K k es.toList M 0 hT with ⟨h1, h2, h3⟩ | ⟨j, u, h1, h2, h4, h5, _⟩
  · refine fin (es.push { key := enc k, val := ev v, born := clk }) (clk + 1) ?_ ?_
    · rw [h3]; simp only [Tells, Array.toList_push, List.map_append, List.map_cons, List.map_nil] at hT ⊢; rw [hT]
    · simp [Instr.mapUpdate, run_underlying ht, run_underlying hkt, run_getMap hb, K.check _ P kt k w hkt, Instr.findKey, h2, run_setMap _ hb]
  · refine fin (es.modify j fun e => { e with key := enc k, val := ev v }) clk ?_ ?_
    · have := h5 v; simpa using this
    · have h4' : Option.map (fun x => x.key) es[j]? = some (enc k) := by simpa using h4
      simp [Instr.mapUpdate, run_underlying ht, run_underlying hkt, run_getMap hb, K.check _ P kt k w hkt, Instr.findKey, h2, Instr.keyThatStays, h4', K.bits, run_setMap _ hb]
end
end Go.Proofs.YtnidmlngkpkmlaaSl
