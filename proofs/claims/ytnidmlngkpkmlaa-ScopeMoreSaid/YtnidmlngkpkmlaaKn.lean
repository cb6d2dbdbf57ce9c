
/-
  A region that draws its order, with a new variable that waits for nothing amid what only looks: it may be drawn at any time ahead of the store.
-/
import Derived.Test.YtnidmlngkpkmlaaKj
namespace Go.Proofs.YtnidmlngkpkmlaaK
set_option linter.unusedVariables false
set_option linter.unusedSimpArgs false
open Go.RowKit
/-! ### what looks, and sees no new variable -/
section
def Stab (P : Program) {α : Type} (s : Sem α) : Prop := ∀ (w : World) (o : Obj) (v : α) (w' : World), s.run P w = .ok v w' → w' = w ∧ s.run P (w.alloc o) = .ok v (w.alloc o)
variable {P : Program}
theorem Stab.pure {α : Type} (a : α) : Stab P (Pure.pure a : Sem α) := fun w o v w' h => by
  simp only [Sem.run_pure, Result.ok.injEq] at h ⊢
  exact ⟨h.2.symm, h.1, trivial⟩
theorem Stab.halt {α : Type} (x : Halt) : Stab P (Sem.halt x : Sem α) := fun w o v w' h => by
  simp [Sem.run] at h
theorem Stab.bind {α β : Type} {s : Sem α} {f : α → Sem β} (h : Stab P s) (hf : ∀ a, Stab P (f a)) : Stab P (s >>= f) := fun w o v w' hr => by
  rw [Sem.run_bind] at hr ⊢
  cases hs : s.run P w with
  | halt x w1 => rw [hs] at hr; simp [Result.andThen] at hr
  | ok a w1 =>
    rw [hs, Result.andThen_ok] at hr
    obtain ⟨rfl, h2⟩ := h w o a w1 hs
    rw [h2, Result.andThen_ok]
    exact hf a _ o v w' hr
theorem alloc_old (w : World) (o : Obj) {b : Nat} {x : Obj} (h : w.heap[b]? = some x) : (w.alloc o).heap[b]? = some x := by
  have hb : b < w.heap.size := (Array.getElem?_eq_some_iff.1 h).1
  show (w.heap.push o)[b]? = _
  rw [Array.getElem?_push_lt hb, ← h, Array.getElem?_eq_getElem hb]
theorem seen_none {p : Program} {w : World} {a : Addr} {u : TypeId} {k : Addr} {at_ : Bool} (h : w.heap[a.block]? = none) {r} : w.seen p a u k at_ ≠ .ok r := by
  unfold World.seen
  rw [h]
  intro hr
  simp only [bind, Except.bind, throw, throwThe, MonadExceptOf.throw, pure, Except.pure] at hr
  repeat' split at hr
  all_goals first | cases hr | skip
  all_goals (repeat' split at hr) 
  all_goals first | cases hr | skip
theorem viewLoad_alloc {p : Program} {w : World} {a : Addr} {u : TypeId} {k : Addr} {at_ : Bool} {r} (h : w.viewLoad p a u k at_ = .ok r) (o : Obj) : (w.alloc o).viewLoad p a u k at_ = .ok r := by
  cases hb : w.heap[a.block]? with
  | none =>
    unfold World.viewLoad at h
    cases hs : w.seen p a u k at_ with
    | ok x => exact (seen_none hb hs).elim
    | error e => rw [hs] at h; simp [bind, Except.bind] at h
  | some x =>
    rw [← h]
    unfold World.viewLoad World.seen
    rw [alloc_old w o hb, hb]
theorem Stab.load (a : Addr) : Stab P (Go.load a) := fun w o v w' h => by
  simp only [Go.load, Sem.run] at h ⊢
  cases hc : w.cell? a with
  | some u =>
    rw [hc] at h
    simp only [Result.ok.injEq] at h
    obtain ⟨rfl, rfl⟩ := h
    have : (w.alloc o).cell? a = some u := by
      unfold World.cell? at hc ⊢
      cases hb : w.heap[a.block]? with
      | none => rw [hb] at hc; cases hc
      | some x => rw [alloc_old w o hb]; rw [hb] at hc; exact hc
    rw [this]
    exact ⟨rfl, rfl⟩
  | none =>
    rw [hc] at h
    simp only [] at h
    split at h
    · rename_i v1 l1 hf
      simp only [Sem.run, Result.ok.injEq] at h
      obtain ⟨rfl, rfl⟩ := h
      unfold World.farLoad at hf
      cases hb : w.heap[a.block]? with
      | none => rw [hb] at hf; cases hf
      | some x =>
        have hc' : (w.alloc o).cell? a = none := by
          unfold World.cell? at hc ⊢
          rw [alloc_old w o hb]; rw [hb] at hc; exact hc
        rw [hc']
        refine ⟨rfl, ?_⟩
        have hf' : (w.alloc o).farLoad P a (Mode.plain == .atomic) = .ok (v1, l1) := by
          unfold World.farLoad
          rw [alloc_old w o hb]
          rw [hb] at hf
          cases x with
          | view at1 u =>
            simp only [] at hf ⊢
            cases hvl : w.viewLoad P at1 u a (Mode.plain == .atomic) with
            | ok r => rw [viewLoad_alloc hvl o]; rw [hvl] at hf; exact hf
            | error e => rw [hvl] at hf; cases hf
          | _ => simp at hf
        rw [hf']
    · cases h
theorem Stab.program : Stab P Go.program := fun w o v w' h => by
  simp only [Go.program, Sem.run, Result.ok.injEq] at h ⊢
  exact ⟨h.2.symm, h.1, trivial⟩
theorem Stab.stuck {α : Type} (s : String) : Stab P (Go.stuck s : Sem α) := Stab.halt _
theorem Stab.unsupported {α : Type} (s : Unsupported) : Stab P (Go.unsupported s : Sem α) := Stab.halt _
theorem Stab.never {α : Type} {s : Sem α} (h : ∀ w v w', s.run P w ≠ .ok v w') : Stab P s := fun w o v w' hr => (h w v w' hr).elim
theorem Stab.typeInfo (t : TypeId) : Stab P (Go.typeInfo t) := by
  unfold Go.typeInfo
  refine .bind .program fun p => ?_
  split
  · exact .pure _
  · exact .stuck _
theorem Stab.underlying (t : TypeId) : Stab P (Go.underlying t) := by
  unfold Go.underlying
  refine .bind .program fun p => ?_
  split
  · exact .pure _
  · exact .stuck _
theorem Stab.sizeOf (t : TypeId) : Stab P (Go.sizeOf t) := .bind (.typeInfo t) fun _ => .pure _
theorem Stab.isAgg (t : TypeId) : Stab P (Go.isAgg t) := by
  unfold Go.isAgg
  refine .bind (.underlying t) fun p => ?_
  split <;> exact .pure _
theorem Stab.loadCellsFrom (a : Addr) : ∀ (n i : Nat) (acc : Array Value), Stab P (Go.loadCellsFrom a i n acc)
  | 0, _, _ => .pure _
  | n + 1, i, acc => .bind (.load _) fun _ => Stab.loadCellsFrom a n _ _
theorem Stab.loadVar (t : TypeId) (a : Addr) : Stab P (Go.loadVar t a) := by
  unfold Go.loadVar
  refine .bind (.isAgg t) fun b => ?_
  split
  · exact .bind (.sizeOf t) fun n => .bind (.loadCellsFrom a _ _ _) fun _ => .pure _
  · exact .load _
theorem Stab.sureAddr (v : Value) : Stab P (Instr.sureAddr v) := by
  unfold Instr.sureAddr
  split
  · exact .pure _
  · exact .stuck _
theorem Stab.asIntOf (v : Value) : Stab P (Go.asIntOf v) := by
  unfold Go.asIntOf
  split
  · exact .pure _
  · exact .unsupported _
  · exact .stuck _
theorem runtimePanic_bounds {α : Type} (x y : Int) (s : Bool) (c : BoundsCode) (w : World) (v : α) (w' : World) : (Go.runtimePanic (.bounds x y s c) : Sem α).run P w ≠ .ok v w' := by
  simp [Go.runtimePanic, Go.program, Sem.run, Sem.run_bind, goPanic, Result.andThen]
theorem never_bind {α β : Type} {s : Sem α} {f : α → Sem β} (hf : ∀ a w v w', (f a).run P w ≠ .ok v w') (w : World) (v : β) (w' : World) : (s >>= f).run P w ≠ .ok v w' := by
  rw [Sem.run_bind]
  cases s.run P w with
  | halt x w1 => simp [Result.andThen]
  | ok a w1 => exact hf a w1 v w'
theorem Stab.boundsPanic {α : Type} (k : IntKind) (x y : Int) (c : BoundsCode) : Stab P (Go.boundsPanic k x y c : Sem α) := .never fun w v w' => by
  unfold Go.boundsPanic
  split
  · exact never_bind (fun a w v w' => runtimePanic_bounds _ _ _ _ _ _ _) w v w'
  · exact never_bind (fun a w v w' => runtimePanic_bounds _ _ _ _ _ _ _) w v w'
theorem Stab.indexAt (t : TypeId) (x i : Value) : Stab P (Instr.indexAt t x i) := by
  unfold Instr.indexAt
  repeat' (first | exact Stab.pure _ | exact Stab.stuck _ | exact Stab.unsupported _ | exact Stab.boundsPanic _ _ _ _ | exact Stab.sizeOf _ | exact Stab.underlying _ | exact Stab.sureAddr _ | exact Stab.asIntOf _ | exact Stab.loadVar _ _ | exact Stab.typeInfo _ | refine Stab.bind ?_ (fun _ => ?_) | split | dsimp only)
theorem Stab.loadAt (t : TypeId) (x : Value) : Stab P (Instr.loadAt t x) := by
  unfold Instr.loadAt
  repeat' (first | exact Stab.pure _ | exact Stab.stuck _ | exact Stab.unsupported _ | exact Stab.boundsPanic _ _ _ _ | exact Stab.sizeOf _ | exact Stab.underlying _ | exact Stab.sureAddr _ | exact Stab.asIntOf _ | exact Stab.loadVar _ _ | exact Stab.typeInfo _ | refine Stab.bind ?_ (fun _ => ?_) | split | dsimp only)
theorem Stab.extract (t : Value) (i : Nat) : Stab P (Instr.extract t i) := by
  unfold Instr.extract
  repeat' (first | exact Stab.pure _ | exact Stab.stuck _ | exact Stab.unsupported _ | exact Stab.boundsPanic _ _ _ _ | exact Stab.sizeOf _ | exact Stab.underlying _ | exact Stab.sureAddr _ | exact Stab.asIntOf _ | exact Stab.loadVar _ _ | exact Stab.typeInfo _ | refine Stab.bind ?_ (fun _ => ?_) | split | dsimp only)
def fieldB (P : Program) (s : TypeId) (j : Nat) : Bool := match P.underlying s with
  | some (.struct fs) => match fs[j]? with
    | some f => match P.info? f.type with
      | some i => !(Nat.beq i.size 0)
      | none => false
    | none => false
  | _ => false
theorem Stab.fieldAt {s : TypeId} {j : Nat} (h : fieldB P s j = true) (x : Value) : Stab P (Instr.fieldAt s x j) := by
  intro w o v w'
  unfold fieldB at h
  split at h
  · rename_i fs hu
    split at h
    · rename_i f hf
      split at h
      · rename_i i hi
        have hsz : i.size ≠ 0 := by intro h0; rw [h0] at h; simp at h
        cases x with
        | pointer a =>
          cases a with
          | none => simp [Instr.fieldAt, run_underlying hu, hf, Instr.sureAddr, stuck, Sem.run, Result.andThen, Sem.run_bind]
          | some a =>
            simp [Instr.fieldAt, run_underlying hu, hf, Instr.sureAddr, fieldPlace, Go.sizeOf, Go.typeInfo, hi, hsz]
            rintro rfl rfl; exact ⟨rfl, rfl⟩
        | _ => simp [Instr.fieldAt, run_underlying hu, hf, Instr.sureAddr, stuck, Sem.run, Result.andThen, Sem.run_bind]
      · cases h
    · cases h
  · cases h
def stabB (P : Program) : Op → Bool
  | .move _ => true
  | .assign _ => true
  | .load _ _ => true
  | .indexAddr _ _ _ => true
  | .extract _ _ => true
  | .fieldAddr s _ j => fieldB P s j
  | _ => false
theorem run_of_stab {o : Oper} (hs : stabB P o.op = true) (ρ : Operand → Value) : ∃ s : Sem Value, Stab P s ∧ execOp ρ o = s >>= fun v => Pure.pure (.value v) := by
  obtain ⟨dst, op, ty, pos, af, g⟩ := o
  cases op <;> simp only [stabB, Bool.false_eq_true] at hs
  case move x => exact ⟨Pure.pure (ρ x), .pure _, rfl⟩
  case assign x => exact ⟨Pure.pure (ρ x), .pure _, rfl⟩
  case load t x => exact ⟨_, .loadAt t (ρ x), rfl⟩
  case indexAddr t x i => exact ⟨_, .indexAt t (ρ x) (ρ i), rfl⟩
  case extract t i => exact ⟨_, .extract (ρ t) i, rfl⟩
  case fieldAddr s x j => exact ⟨_, .fieldAt hs (ρ x), rfl⟩
/-- What such an operation yields, it yields behind a new variable too; and nothing else. -/
theorem stab_run {o : Oper} (hs : stabB P o.op = true) {ρ : Operand → Value} {w w' : World} {n : Next} (h : (execOp ρ o).run P w = .ok n w') (x : Obj) : ∃ v, n = .value v ∧ w' = w ∧ (execOp ρ o).run P (w.alloc x) = .ok (.value v) (w.alloc x) := by
  obtain ⟨s, h1, h2⟩ := run_of_stab hs ρ
  rw [h2, Sem.run_bind] at h
  cases hr : s.run P w with
  | halt x w1 => rw [hr] at h; simp [Result.andThen] at h
  | ok v w1 =>
    rw [hr] at h
    simp only [Result.andThen_ok, Sem.run_pure, Result.ok.injEq] at h
    obtain ⟨rfl, rfl⟩ := h
    obtain ⟨h3, h4⟩ := h1 _ x _ _ hr
    refine ⟨v, rfl, h3, ?_⟩
    rw [h2, Sem.run_bind, h4]
    rfl
theorem alloc_no_ask {dst : Option Nat} {t ty : TypeId} {pos : String} {af : Array Edge} {g : Option (Nat × Bool)} {i : TypeInfo} {zv : Value} (hi : P.info? t = some i) (hz : i.zero = some zv) (a : Act) (w : World) : ¬ (Oper.asks P ⟨dst, .alloc t, ty, pos, af, g⟩ a w) := by
  intro h
  have h1 := h.1
  have e : ((execOp a.eval ⟨dst, .alloc t, ty, pos, af, g⟩).runT P w #[]).2 = #[] := by
    simp only [execOp, Instr.alloc, zeroValue, Go.typeInfo, Go.program, newVar, newRow, newObj, Bind.bind, Sem.bind, Pure.pure, Sem.runT]
    simp only [hi, Sem.bind, Sem.runT, hz]
  rw [e] at h1
  simp at h1
end
section
variable {P : Program} {ops ops' : Array Oper} {md : Region.Mode} {w w1 : World} {n dn g : Nat} {on : Oper} {v : Value} {Q' : Exit → Act → World → Prop}
structure Calm2 (P : Program) (ops : Array Oper) (on : Oper) (w w1 : World) (o : Oper) : Prop where
  free : o.guard = none
  sel : ∀ cs b, o.op ≠ .select cs b
  same : ∀ ρ n w', (execOp ρ o).run P w = .ok n w' → ∃ v, n = .value v ∧ w' = w ∧ (execOp ρ o).run P w1 = .ok (.value v) w1
  apart : on.apart ops o = true
theorem wpAny_float {L0 L1 : Array Bool → Act → Prop} (hi : ops[n]? = some on) (hd : on.dst = some dn) (hg : on.guard = none) (haf : ∀ e ∈ on.after, Region.binds md e = false)
    (hrun : ∀ a : Act, (execOp a.eval on).run P w = .ok (.value v) w1) (hops : ∀ j, j ≠ n → ops'[j]? = ops[j]?) (hch : ∀ o, ops[n + 1]? = some o → ∃ e ∈ o.after, Region.binds md e = true ∧ e.on = n)
    (hcalm : ∀ j o, j < n → ops[j]? = some o → Calm2 P ops on w w1 o)
    (hL : ∀ listed a, L1 listed a → wpAny P md ops Q' g listed a w1) (hL' : ∀ listed a, L1 listed a → ∀ j ∈ Region.ready md ops listed, j = n + 1) :
    ∀ (f : Nat) (listed : Array Bool) (a : Act), listed.getD n true = false → wpAnyL P md ops' w n L0 f listed a → wpAnyL P md ops w1 (n + 1) L1 f (listed.setIfInBounds n true) (a.put (some dn) v) → wpAny P md ops Q' (f + (g + 1)) listed a w := by
  intro f
  induction f with
  | zero =>
    intro listed a hln h0 h1
    rw [Nat.zero_add]
    have hr : n ∈ Region.ready md ops listed := mem_ready.2 ⟨hln, on, hi, fun e he hb => by rw [haf e he] at hb; cases hb⟩
    refine ⟨fun h => (by rw [h] at hr; cases hr), fun i hir => ?_⟩
    have hin : i = n := by
      apply Classical.byContradiction
      intro hne
      have := hL' _ _ h1 i (ready_mono hir hne)
      subst this
      obtain ⟨_, o, ho, hall⟩ := mem_ready.1 hir
      obtain ⟨e, he, hb, hon⟩ := hch o ho
      have := hall e he hb
      rw [hon, getD_both hln] at this
      cases this
    subst hin
    unfold wpOp
    simp only [hi]
    rw [if_pos (show Region.wanted on (yielded ops a.tmps) = true by unfold Region.wanted; rw [hg])]
    refine .inl ?_
    simp only [Oper.wp, hrun a, Oper.upon_value, hd]
    exact hL _ _ h1
  | succ f ih =>
    intro listed a hln h0 h1
    have hr : n ∈ Region.ready md ops listed := mem_ready.2 ⟨hln, on, hi, fun e he hb => by rw [haf e he] at hb; cases hb⟩
    rw [show f + 1 + (g + 1) = (f + (g + 1)) + 1 by omega]
    refine ⟨fun h => (by rw [h] at hr; cases hr), fun i hir => ?_⟩
    by_cases hin : i = n
    · subst hin
      unfold wpOp
      simp only [hi]
      rw [if_pos (show Region.wanted on (yielded ops a.tmps) = true by unfold Region.wanted; rw [hg])]
      refine .inl ?_
      simp only [Oper.wp, hrun a, Oper.upon_value, hd]
      have := wpAny_of_head hL (f + 1) _ _ h1
      rwa [show f + 1 + g = f + (g + 1) by omega] at this
    · obtain ⟨hun, o, ho, hall⟩ := mem_ready.1 hir
      have hr' : i ∈ Region.ready md ops' listed := mem_ready.2 ⟨hun, o, by rw [hops i hin]; exact ho, hall⟩
      obtain ⟨hilt, hs0⟩ := h0.2 i hr'
      obtain ⟨_, hs1⟩ := h1.2 i (ready_mono hir hin)
      have hc := hcalm i o hilt ho
      obtain ⟨ap1, ap2, ap3⟩ := Oper.apart_spec hc.apart
      have hwn : ∀ ops2 : Array Oper, ∀ a : Act, Region.wanted o (yielded ops2 a.tmps) = true := fun ops2 a => by unfold Region.wanted; rw [hc.free]
      unfold stOp at hs0 hs1
      simp only [hops i hin, ho, hwn, if_true, Oper.still] at hs0 hs1
      rw [execOp_put o hc.sel a (some dn) v (fun d hd' => ap1 d (by rw [hd, hd']))] at hs1
      unfold wpOp
      simp only [ho, hwn, if_true]
      refine .inl ?_
      cases hrun0 : (execOp a.eval o).run P w with
      | halt x w' => rw [hrun0] at hs0; simp only [Oper.stillUpon] at hs0
      | ok nx w' =>
        obtain ⟨u, rfl, rfl, h2⟩ := hc.same _ _ _ hrun0
        rw [hrun0] at hs0
        rw [h2] at hs1
        simp only [Oper.stillUpon] at hs0 hs1
        simp only [Oper.wp, hrun0, Oper.upon_value]
        refine ih _ _ (by rw [getD_set_ne true hin]; exact hln) hs0.2 ?_
        have hne : ∀ d, some dn = some d → o.dst ≠ some d := fun d hd' => ap2 d (by rw [hd, hd'])
        rw [Array.setIfInBounds_comm _ _ hin, ← Act.put_comm a v u hne]
        exact hs1.2
/-- What only looks, told behind the new variable too. -/
theorem wpStill_float {Lq Lq' : Act → Prop} (hd : on.dst = some dn) (hq : ∀ a, Lq a → Lq' (a.put (some dn) v)) : ∀ (l : List Oper) (a : Act), (∀ o ∈ l, Calm2 P ops on w w1 o) → wpStill P ops w Lq l a → wpStill P ops w1 Lq' l (a.put (some dn) v)
  | [], a, _, h => hq a h
  | o :: l, a, hc, h => by
    have hco := hc o (List.mem_cons_self ..)
    obtain ⟨ap1, ap2, ap3⟩ := Oper.apart_spec hco.apart
    have hwn : ∀ a : Act, Region.wanted o (yielded ops a.tmps) = true := fun a => by unfold Region.wanted; rw [hco.free]
    simp only [wpStill, hwn, if_true, Oper.still] at h ⊢
    rw [execOp_put o hco.sel a (some dn) v (fun d hd' => ap1 d (by rw [hd, hd']))]
    cases hrun0 : (execOp a.eval o).run P w with
    | halt x w' => rw [hrun0] at h; simp only [Oper.stillUpon] at h
    | ok nx w' =>
      obtain ⟨u, hu, hw, h2⟩ := hco.same _ _ _ hrun0
      rw [hrun0, hu] at h
      rw [h2]
      simp only [Oper.stillUpon] at h ⊢
      refine ⟨trivial, ?_⟩
      have hne : ∀ d, some dn = some d → o.dst ≠ some d := fun d hd' => ap2 d (by rw [hd, hd'])
      rw [Act.put_comm a v u hne]
      exact wpStill_float hd hq l _ (fun o' ho' => hc o' (List.mem_cons_of_mem _ ho')) h.2
theorem wpStill_ops {Lq Lq' : Act → Prop} (hq : ∀ a, Lq a → Lq' a) : ∀ (l : List Oper) (a : Act), (∀ o ∈ l, o.guard = none) → wpStill P ops w Lq l a → wpStill P ops' w Lq' l a
  | [], a, _, h => hq a h
  | o :: l, a, hc, h => by
    have hwn : ∀ (ops : Array Oper) (a : Act), Region.wanted o (yielded ops a.tmps) = true := fun ops a => by unfold Region.wanted; rw [hc o (List.mem_cons_self ..)]
    simp only [wpStill, hwn, if_true] at h ⊢
    exact Oper.still_mono (fun a h => wpStill_ops hq l a (fun o' ho' => hc o' (List.mem_cons_of_mem _ ho')) h) h

def floatOps (ops : Array Oper) (n : Nat) : Array Oper := match ops[n]? with
  | some ⟨d, op, ty, pos, _, g⟩ => ops.setIfInBounds n ⟨d, op, ty, pos, ((List.range n).map fun i => (⟨i, .data⟩ : Edge)).toArray, g⟩
  | none => ops
end
section
variable {c : Cx} {Q : Post} {E E' : Env} {D : List Deferred} {H : List Res}
def calm2B (P : Program) (ops : Array Oper) (on o : Oper) : Bool := o.guard.isNone && stabB P o.op && on.apart ops o
theorem stab_sel {P : Program} {op : Op} (h : stabB P op = true) : ∀ cs b, op ≠ .select cs b := by
  rintro cs b rfl; simp [stabB] at h
theorem calm2_of {P : Program} {ops : Array Oper} {on o : Oper} (h : calm2B P ops on o = true) (w : World) (x : Obj) : Calm2 P ops on w (w.alloc x) o := by
  simp only [calm2B, Bool.and_eq_true] at h
  obtain ⟨⟨h1, h2⟩, h3⟩ := h
  exact ⟨by simpa using h1, stab_sel h2, fun ρ n w' hr => stab_run h2 hr x, h3⟩
def floatB (P : Program) (ops : Array Oper) (N : Nat) (ps ks : List Nat) (n : Nat) (on : Oper) : Bool :=
  Region.noSelect ops && Region.noSelect (floatOps ops n) && decide (n + 1 < ops.size) && ops.all (fun o => o.dst.all fun d => Nat.blt d N) && Nat.beq (ps.length + ks.length) n && Region.chainB .any ops n && Region.chainB .any (floatOps ops n) n && Region.chainB .any ops (n + 1) &&
    on.after.all (fun e => !(Region.binds .any e)) && (List.range n).all (fun i => match ops[i]? with | some o => calm2B P ops on o | none => false) &&
    match preB .any ops n ps (Array.replicate ops.size false) with
    | some l1 => sinkB' .any (floatOps ops n) l1 n && lexG .any (floatOps ops n) n ks l1 && sinkB' .any ops (l1.setIfInBounds n true) (n + 1) && lexG .any ops (n + 1) ks (l1.setIfInBounds n true)
    | none => false
theorem floatOps_ne {ops : Array Oper} {n j : Nat} (h : j ≠ n) : (floatOps ops n)[j]? = ops[j]? := by
  unfold floatOps
  split
  · exact Array.getElem?_setIfInBounds_ne (Ne.symm h)
  · rfl
theorem floatOps_size (ops : Array Oper) (n : Nat) : (floatOps ops n).size = ops.size := by
  unfold floatOps
  split
  · simp
  · rfl
theorem wDrawA (hF : c.F = Fence.wide) (hm : c.P.follows .mixedOrders = true) {id dn : Nat} {t ty : TypeId} {pos : String} {af : Array Edge} {zv : Value} {l hd tl : List Oper} (ps ks : List Nat) (n : Nat) (hon : l[n]? = some ⟨some dn, .alloc t, ty, pos, af, none⟩)
    (hz : ((c.P.info? t).map (·.zero)) = some (some zv)) (hB : floatB c.P l.toArray c.N ps ks n ⟨some dn, .alloc t, ty, pos, af, none⟩ = true) (hE : preE l.toArray ps E = some E') (hk : ks.mapM (fun k => l[k]?) = some hd) (hk' : ks.mapM (fun k => (floatOps l.toArray n)[k]?) = some hd) (htl : l.drop (n + 1) = tl)
    (h : ∀ w0, O (Md.head c l.toArray w0 (⟨some dn, .alloc t, ty, pos, af, none⟩ :: tl) Q) hd E' D H) : W c (.region id l.toArray true) Q E D H := by
  subst htl
  intro a w ha hw
  rw [hF]
  refine wpIn_wide.2 ?_
  refine wp_region_any hm ?_
  obtain ⟨inf, hinf, hzero⟩ := Option.map_eq_some_iff.1 hz
  simp only [floatB, Bool.and_eq_true, decide_eq_true_eq, Nat.beq_eq] at hB
  obtain ⟨⟨⟨⟨⟨⟨⟨⟨⟨⟨hsel, hsel'⟩, hn⟩, hN⟩, hlen⟩, hc⟩, hc'⟩, hc1⟩, haf⟩, hcalm⟩, hB⟩ := hB
  split at hB
  · rename_i l1 hl1
    simp only [Bool.and_eq_true] at hB
    obtain ⟨⟨⟨hs0, hx0⟩, hs1⟩, hx1⟩ := hB
    have inv0 : HeadInv .any l.toArray n (Array.replicate l.toArray.size false) :=
      ⟨by simp, fun j oj _ hl => (by rw [getD_replicate_false] at hl; cases hl), fun t _ ht => getD_in (by simpa using ht) (getD_replicate_false _ _)⟩
    have hn' : n + 1 < l.length := by simpa using hn
    have htot : l.toArray.size = ps.length + (ks.length + ((l.toArray.size - (n + 1)) + 1)) := by omega
    have hon' : l.toArray[n]? = some ⟨some dn, .alloc t, ty, pos, af, none⟩ := by simpa using hon
    have hgo : wpAny c.P .any l.toArray (lift c Q) (ps.length + (ks.length + ((l.toArray.size - (n + 1)) + 1))) (Array.replicate l.toArray.size false) a w.drew := by
      refine pre_take (D := D) hsel (fun c a w ⟨E, D, H, h1, h2, h3, h4⟩ => h4) hN ps _ l1 E E' a _ ha hl1 hE inv0 (fun a' ha' inv1 => ?_)
      have H1 := h w.drew a' w.drew ha' hw.drew rfl
      have hrun : ∀ a : Act, (execOp a.eval ⟨some dn, .alloc t, ty, pos, af, none⟩).run c.P w.drew = .ok (.value (.pointer (some ⟨w.drew.heap.size, 0, none⟩))) (w.drew.alloc (.cells zv.cells t)) := fun a => by
        simp [execOp, Instr.alloc, zeroValue, Go.typeInfo, hinf, hzero, newVar, newRow]
      have hl1n : l1.getD n true = false := inv1.tail n (Nat.le_refl _) (by omega)
      have hcm : ∀ j o, j < n → l.toArray[j]? = some o → Calm2 c.P l.toArray ⟨some dn, .alloc t, ty, pos, af, none⟩ w.drew (w.drew.alloc (.cells zv.cells t)) o := fun j o hj ho => by
        have := List.all_eq_true.1 hcalm j (List.mem_range.2 hj)
        rw [ho] at this
        exact calm2_of this _ _
      have hhd : ∀ o ∈ hd, ∃ j, j < n ∧ l.toArray[j]? = some o := by
        have key : ∀ (ks : List Nat) (hd : List Oper) (listed : Array Bool), lexG .any (floatOps l.toArray n) n ks listed = true → ks.mapM (fun k => l[k]?) = some hd → ∀ o ∈ hd, ∃ j, j < n ∧ l.toArray[j]? = some o := by
          intro ks
          induction ks with
          | nil => intro hd _ _ hk o ho; simp at hk; subst hk; cases ho
          | cons k ks ih =>
            intro hd listed hx hk o ho
            rw [List.mapM_cons] at hk
            cases h0 : l[k]? with
            | none => rw [h0] at hk; simp at hk
            | some o0 =>
              rw [h0] at hk
              cases hks : ks.mapM (fun k => l[k]?) with
              | none => rw [hks] at hk; simp at hk
              | some l' =>
                rw [hks] at hk
                simp at hk
                subst hk
                simp only [lexG, Bool.and_eq_true, decide_eq_true_eq] at hx
                rcases List.mem_cons.1 ho with rfl | ho
                · exact ⟨k, hx.1.1.1, by simpa using h0⟩
                · exact ih l' _ hx.2 hks o ho
        exact key ks hd l1 hx0 hk
      have hcd : ∀ o ∈ hd, Calm2 c.P l.toArray ⟨some dn, .alloc t, ty, pos, af, none⟩ w.drew (w.drew.alloc (.cells zv.cells t)) o := fun o ho => by
        obtain ⟨j, hj, hjo⟩ := hhd o ho
        exact hcm j o hj hjo
      have invA : HeadInv .any (floatOps l.toArray n) n l1 := by
        refine ⟨by rw [floatOps_size]; exact inv1.size, fun j oj hj hl e he hb => ?_, fun t h1 h2 => inv1.tail t h1 (by rw [floatOps_size] at h2; exact h2)⟩
        have hjn : j ≠ n := by rintro rfl; rw [getD_both hl1n] at hl; cases hl
        rw [floatOps_ne hjn] at hj
        exact inv1.closed j oj hj hl e he hb
      have invB : HeadInv .any l.toArray (n + 1) (l1.setIfInBounds n true) := by
        refine ⟨by simp [inv1.size], fun j oj hj hl e he hb => ?_, fun t h1 h2 => by rw [getD_set_ne true (by omega)]; exact inv1.tail t (by omega) h2⟩
        by_cases hjn : j = n
        · subst hjn
          have : oj = _ := Option.some.inj (hj.symm.trans hon')
          subst this
          have := Array.all_eq_true'.1 haf e he
          rw [hb] at this; cases this
        · rw [getD_set_ne false (Ne.symm hjn)] at hl
          exact getD_set_true (inv1.closed j oj hj hl e he hb)
      have A0 := wpAnyL_lexG (md := .any) (w := w.drew) (P := c.P) (Lq := fun _ => True) hsel' hs0 hc' (by rw [floatOps_size]; omega) ks hd l1 a' hk' (fun i hi => hi) invA hx0 (wpStill_ops (fun _ _ => trivial) hd a' (fun o ho => (hcd o ho).free) H1)
      have H2 := wpStill_float (v := .pointer (some ⟨w.drew.heap.size, 0, none⟩)) (Lq' := fun a => wpList c.P l.toArray (lift c Q) (l.drop (n + 1)) a (w.drew.alloc (.cells zv.cells t))) rfl (fun a ha => by
        rw [show wpList c.P l.toArray (lift c Q) (⟨some dn, .alloc t, ty, pos, af, none⟩ :: l.drop (n + 1)) a w.drew = ((Oper.wp c.P ⟨some dn, .alloc t, ty, pos, af, none⟩ a w.drew (wpList c.P l.toArray (lift c Q) (l.drop (n + 1))) (lift c Q)) ∨ (Oper.asks c.P ⟨some dn, .alloc t, ty, pos, af, none⟩ a w.drew ∧ LetsOut (lift c Q))) from rfl] at ha
        rcases ha with ha | ha
        · simp only [Oper.wp, hrun a, Oper.upon_value] at ha
          exact ha
        · exact (alloc_no_ask hinf hzero a _ ha.1).elim) hd a' hcd H1
      have hks : ks.mapM (fun k => l.toArray[k]?) = some hd := by simpa using hk
      have A1 := wpAnyL_lexG (md := .any) (w := w.drew.alloc (.cells zv.cells t)) (P := c.P) hsel hs1 hc1 hn ks hd (l1.setIfInBounds n true) _ hks (fun i hi => hi) invB hx1 H2
      refine wpAny_float (g := l.toArray.size - (n + 1)) (v := .pointer (some ⟨w.drew.heap.size, 0, none⟩)) (on := ⟨some dn, .alloc t, ty, pos, af, none⟩) hon' rfl rfl (fun e he => ?_) hrun (fun j hj => floatOps_ne hj) (fun o ho => ?_) hcm (fun listed a'' hL => ?_) (fun listed a'' hL => ?_) ks.length l1 a' hl1n A0 A1
      · have := Array.all_eq_true'.1 haf e he
        simpa using this
      · have h1 := List.all_eq_true.1 hc (n + 1) (List.mem_range.2 hn)
        simp only [Bool.or_eq_true, decide_eq_true_eq] at h1
        rcases h1 with h1 | h1
        · omega
        · obtain ⟨o', ho', e, he, hb, hone⟩ := Region.waitsFor_spec h1
          have : o' = o := Option.some.inj (ho'.symm.trans ho)
          subst this
          exact ⟨e, he, hb, by omega⟩
      · have hdl : (l.drop (n + 1)).length = l.toArray.size - (n + 1) := by simp
        have := wpAny_of_seq (md := .any) (Q' := lift c Q) (l.drop (n + 1)) (n + 1) listed a'' (w.drew.alloc (.cells zv.cells t)) (fun j => by simp [List.getElem?_drop]) (by rw [hdl]; exact hL.1) hL.2
        rwa [hdl] at this
      · have hg : l.toArray.size - (n + 1) = (l.toArray.size - (n + 1) - 1) + 1 := by omega
        have h1 := hL.1
        rw [hg] at h1
        simp only [Region.seqB, Bool.and_eq_true, decide_eq_true_eq] at h1
        intro j hj
        rw [h1.1] at hj
        simpa using hj
    rw [htot]
    rw [← htot] at hgo ⊢
    exact hgo
  · cases hB
end
end Go.Proofs.YtnidmlngkpkmlaaK
