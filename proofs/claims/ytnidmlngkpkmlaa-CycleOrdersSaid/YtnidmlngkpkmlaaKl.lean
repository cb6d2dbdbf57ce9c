/-
  A range over a function: what an iterator owes, a call of yield, the loop, and how a function with such loops is left.
-/
import Derived.Test.YtnidmlngkpkmlaaKk
import Derived.RangeFuncBound
import Derived.RangeFuncLeaves
namespace Go.Proofs.YtnidmlngkpkmlaaK
set_option linter.unusedVariables false
set_option linter.unusedSimpArgs false
open Go.RowKit

/-! ### resources in a bundle -/
def bun (Ψ : List Res) : Res where
  fp k := ∃ r ∈ Ψ, r.fp k
  q w := (∀ r ∈ Ψ, r.q w) ∧ Ψ.Pairwise (fun (r s : Res) => ∀ k : Nat, r.fp k → ¬ s.fp k)
  inb w h k hk := by obtain ⟨r, hr, hk⟩ := hk; exact r.inb w (h.1 r hr) k hk
  st w w' h hk := ⟨fun r hr => r.st w w' (h.1 r hr) (fun k hf => hk k ⟨r, hr, hf⟩), h.2⟩
section
variable {B : Base} {w w' : World} {Φ Φ' Ψ Fr : List Res}
theorem St.pack (h : St B (Ψ ++ Φ) w) : St B (bun Ψ :: Φ) w := by
  obtain ⟨h1, h2⟩ := (Sep.all _ _ _).1 h.sep
  obtain ⟨p1, p2, p3⟩ := List.pairwise_append.1 h2
  refine ⟨h.ok, (Sep.all _ _ _).2 ⟨fun r hr => ?_, List.pairwise_cons.2 ⟨fun s hs k hk => ?_, p2⟩⟩⟩
  · rcases List.mem_cons.1 hr with rfl | hr
    · refine ⟨⟨fun r hr => (h1 r (List.mem_append_left _ hr)).1, p1⟩, fun k hk => ?_⟩
      obtain ⟨r, hr, hk⟩ := hk
      exact (h1 r (List.mem_append_left _ hr)).2 k hk
    · exact h1 r (List.mem_append_right _ hr)
  · obtain ⟨r, hr, hk⟩ := hk
    exact p3 r hr s hs k hk
theorem St.unpack (h : St B (bun Ψ :: Φ) w) : St B (Ψ ++ Φ) w := by
  obtain ⟨h1, h2⟩ := (Sep.all _ _ _).1 h.sep
  obtain ⟨p1, p2⟩ := List.pairwise_cons.1 h2
  have hb := h1 _ List.mem_cons_self
  refine ⟨h.ok, (Sep.all _ _ _).2 ⟨fun r hr => ?_, List.pairwise_append.2 ⟨hb.1.2, p2, fun r hr s hs k hk => p1 s hs k ⟨r, hr, hk⟩⟩⟩⟩
  rcases List.mem_append.1 hr with hr | hr
  · exact ⟨hb.1.1 r hr, fun k hk => hb.2 k ⟨r, hr, hk⟩⟩
  · exact h1 r (List.mem_cons_of_mem _ hr)

/-! ### iterators -/
/-- How a call of yield may end: what is bundled in turns, and the iterator is told whether to go on. -/
def YEnd (B : Base) (j : Nat) (A Ax : Nat → Res → Prop) (Fr : List Res) : Ending → World → Prop :=
  Ret B (fun i : Bool × Res => if i.1 = true then A (j + 1) i.2 else Ax (j + 1) i.2) (fun i => .bool i.1) (fun i => i.2 :: Fr)
/-- What the iterator g (what it has captured: lb), which hands out xs, owes to whatever loop. Fr0: its own resources. -/
def IterC (P : Program) (g : Nat) (lb : Array Value) (B : Base) (xs : List (List Value)) (Fr0 : List Res) : Prop :=
  ∀ (l : Nat) (A Ax : Nat → Res → Prop) (r0 : Res) (W : World),
    (∀ (j : Nat) (hj : j < xs.length) (r : Res) (Fr : List Res) (W1 : World), A j r → St B (r :: Fr) W1 → YieldAt Fence.wide 0 P l (xs[j]).toArray W1 (YEnd B j A Ax Fr)) →
    A 0 r0 → St B (r0 :: Fr0) W →
    CallsIn Fence.wide 0 P g (#[.func (.yield l) #[] #[]] ++ lb) W (Ret B (fun r : Res => A xs.length r ∨ ∃ j, j < xs.length ∧ Ax (j + 1) r) (fun _ => .tuple #[]) (fun r => r :: Fr0))
end

section
variable {c : Cx} {Q : Post} {ops : Array Oper} {d : Nat} {ty : TypeId} {pos : String} {af : Array Edge} {rest : List Oper} {E : Env} {D : List Deferred} {H H' : List Res} {f : Operand}
/-- A call of yield. -/
theorem oYield {ι : Type} {inv : ι → Prop} {val : ι → Value} {post : ι → List Res} {args : Array Operand} {ats : Array TypeId} {l : Nat} {vs : List Value} (hF : c.F = Fence.wide) (hf : E.op f = some (.func (.yield l) #[] #[])) (hargs : E.ops args.toList = some vs)
    (hy : ∀ w, St c.B H w → YieldAt Fence.wide 0 c.P l vs.toArray w (Ret c.B inv val post)) (h : ∀ i, inv i → O (Me.list c ops Q).toMd rest ((d, val i) :: E) D (post i)) (hN : Nat.blt d c.N = true := by rfl) :
    O (Me.list c ops Q).toMd (⟨some d, .call { callee := .value f, args := args, argTypes := ats }, ty, pos, af, none⟩ :: rest) E D H := by
  intro a w ha hw
  obtain ⟨fn, tmps, assign, body, hr, hR⟩ := hy w hw
  have h1 : args.map a.eval = vs.toArray := by
    apply Array.toList_inj.1
    simpa using ha.fit.ops hargs
  show wpListIn _ _ _ _ _ _ _ _
  simp only [wpListIn]
  rw [if_pos (show Region.wanted ⟨some d, .call { callee := .value f, args := args, argTypes := ats }, ty, pos, af, none⟩ (yielded ops a.tmps) = true from rfl)]
  refine ⟨fun f _ => c.fn f, ?_⟩
  rw [semAt_plain' _ _ _ rfl]
  simp only [execOp, resolve, Sem.run_bind, ha.fit.op hf, h1, Deferred.ofValue, Sem.run_pure, Result.andThen_ok, invoke, List.append_toArray, List.nil_append, Array.empty_append, List.append_nil, Array.append_empty]
  rw [hr]
  rw [hF]
  refine ⟨fun h => by simp [Fence.wide] at h, hR.mono ?_⟩
  rintro e w' ⟨i, hi, rfl, hw'⟩
  have := h i hi _ _ (ha.put hN) hw'
  rw [← hF]
  exact this

/-! ### the loop -/
def Cx.round (c : Cx) (l : Nat) (B' : Base) : Cx := ⟨c.P, Fence.wide.inRound l, c.N, B', fun _ => trivial, rfl, fun h => h.inRound l⟩
/-- The slots to which a round's values go. -/
def hand : List Tmp → List Value → Env → Env
  | p :: ps, v :: vs, E => hand ps vs ((p, v) :: E)
  | _, _, E => E
theorem hand_ok {N : Nat} {D : List Deferred} : ∀ {ps : List Tmp} {vs : List Value} {E : Env} {a : Act}, ps.all (fun p => Nat.blt p N) = true → Ok N E D a →
    Ok N (hand ps vs E) D { a with tmps := (ps.zip vs).foldl (fun t p => t.setIfInBounds p.1 p.2) a.tmps }
  | [], _, E, a, _, h => by simpa [hand] using h
  | p :: ps, [], E, a, _, h => by simpa [hand] using h
  | p :: ps, v :: vs, E, a, hN, h => by
    simp only [List.all_cons, Bool.and_eq_true] at hN
    exact hand_ok hN.2 (a := a.put (some p) v) (h.put hN.1)
def mark (D : Nat) : Deferred := { target := .collected D, args := #[] }
abbrev mres (D : Nat) : Res := ob D (.deferred (some []))
/-- How a round may be left. -/
@[reducible] def rq {ι κ : Type} (B : Base) (R : Res) (inv : ι → Prop) (Hi : ι → List Res) (inx : Code → κ → Prop) (Hx : Code → κ → List Res) : Post
  | .normal, _, _, H => ∃ i, inv i ∧ Leads B H (R :: Hi i)
  | .ret, _, _, H => ∃ k, inx .ret k ∧ Leads B H (R :: Hx .ret k)
  | .exit id, _, _, H => ∃ k, inx (.exit id) k ∧ Leads B H (R :: Hx (.exit id) k)
  | .goto t, _, _, H => ∃ k, inx (.goto t) k ∧ Leads B H (R :: Hx (.goto t) k)
  | _, _, _, _ => False
/-- How the assignment of a round's values is left: the body goes on. -/
@[reducible] def aq (c : Cx) (body : Code) (R1 R2 : Res) (Q : Post) : Post
  | .normal, E, D, H => D = [] ∧ ∃ H2, Pick H R1 H2 ∧ W c body Q E [] (R2 :: H2)
  | _, _, _, _ => False
theorem wRange {g : Operand} {ps : Array Tmp} {assign body : Code} {gf : Nat} {lb : Array Value} {xs : List (List Value)} {Fr0 : List Res} (hF : c.F = Fence.wide) (hg : E.op g = some (.func (.func gf) #[] lb)) (hgood : goodF c.P gf = true)
    (hit : IterC c.P gf lb c.B xs Fr0) (hps : ∀ x ∈ xs, x.length = ps.size) (hN : ps.toList.all (fun p => Nat.blt p c.N) = true)
    {ι κ : Type} (inv : Nat → ι → Prop) (Hi : ι → List Res) (inx : Code → κ → Prop) (Hx : Code → κ → List Res) (i0 : ι) (h0 : inv 0 i0) (hH : Leads c.B H (Hi i0 ++ Fr0))
    (hround : ∀ (l : Nat) (B' : Base) (R1 R2 : Res) (j : Nat) (hj : j < xs.length) (i : ι), Grow c.B.e B'.e → inv j i →
      W (c.round l B') assign (aq (c.round l B') body R1 R2 (rq B' R2 (inv (j + 1)) Hi inx Hx)) (hand ps.toList xs[j] E) [] (R1 :: Hi i))
    (hdone : ∀ (i : ι) (D' : Nat), inv xs.length i → Q .normal E (mark D' :: D) (mres D' :: (Hi i ++ Fr0)))
    (hstop : ∀ (x : Code) (k : κ) (D' : Nat), inx x k → W c x Q E (mark D' :: D) (mres D' :: (Hx x k ++ Fr0))) : W c (.rangeFunc g ps assign body) Q E D H := by
  intro a w ha hw
  have hw0 : St c.B (Hi i0 ++ Fr0) w := hH w hw
  rw [hF]
  refine wpIn_rangeFunc ?_
  intro fn _
  obtain ⟨W1, hW1⟩ : ∃ W1, (w.alloc (.deferred (some []))).alloc (.loop { state := .ready, pending := none, fn, tmps := a.tmps, params := ps, assign, body, defers := w.heap.size }) = W1 := ⟨_, rfl⟩
  refine ⟨w.heap.size + 1, [mark w.heap.size], W1, { target := .fn (.func gf) lb, args := #[.func (.yield (w.heap.size + 1)) #[] #[]] }, W1, gf,
    #[.func (.yield (w.heap.size + 1)) #[] #[]] ++ lb, W1, by rw [← hW1]; exact run_enterLoop_outer _ _ _ _ _, ?_, fun _ _ => trivial, ?_, fun h => by simp [Fence.wide] at h, ?_⟩
  · simp only [resolve, ha.fit.op hg]
    simp [go_sem]
  · simp [invoke, go_sem, run_callFunc hgood]
  · have hS1 := (hw0.alloc (.deferred (some []))).alloc (.loop { state := .ready, pending := none, fn, tmps := a.tmps, params := ps, assign, body, defers := w.heap.size })
    rw [World.size_alloc, hW1] at hS1
    clear hW1
    generalize hD : w.heap.size = D' at hS1 ⊢
    generalize hl : D' + 1 = l at hS1 ⊢
    have hS2 : St c.B (bun (ob l (.loop { state := .ready, pending := none, fn, tmps := a.tmps, params := ps, assign, body, defers := D' }) :: mres D' :: Hi i0) :: Fr0) W1 := St.pack (Ψ := ob l (.loop { state := .ready, pending := none, fn, tmps := a.tmps, params := ps, assign, body, defers := D' }) :: mres D' :: Hi i0) hS1
    refine (hit l (fun j r => ∃ i, r = bun (ob l (.loop { state := .ready, pending := none, fn, tmps := a.tmps, params := ps, assign, body, defers := D' }) :: mres D' :: Hi i) ∧ inv j i)
      (fun j r => ∃ x k, r = bun (ob l (.loop { state := .done, pending := some x, fn, tmps := a.tmps, params := ps, assign, body, defers := D' }) :: mres D' :: Hx x k) ∧ inx x k) _ _ ?_ ⟨i0, rfl, h0⟩ hS2).mono ?_
    · rintro j hj r Fr W1 ⟨i, rfl, hi⟩ hSt
      have hS0 : St c.B ((ob l (.loop { state := .ready, pending := none, fn, tmps := a.tmps, params := ps, assign, body, defers := D' }) :: Hi i) ++ (mres D' :: Fr)) W1 := hSt.unpack.perm (.cons _ List.perm_middle.symm)
      have hl1 : W1.heap[l]? = some (.loop { state := .ready, pending := none, fn, tmps := a.tmps, params := ps, assign, body, defers := D' }) := hS0.get .here
      refine ⟨fn, _, assign, body, run_yield (P := c.P) (args := xs[j].toArray) hl1 (by simpa using hps _ (List.getElem_mem hj)), roundIn_of_wpIn trivial ?_⟩
      have hOk : Ok c.N (hand ps.toList xs[j] E) [] { tmps := (ps.zip xs[j].toArray).foldl (fun t (p, v) => t.setIfInBounds p v) a.tmps, defers := [] } := by
        have := hand_ok (vs := xs[j]) hN (a := { a with defers := [] }) (E := E) (D := []) ⟨ha.size, ha.fit, rfl⟩
        rw [← Array.foldl_toList, Array.toList_zip]
        exact this
      refine wpIn_mono (hround l (c.B.call W1 _) (ob l _) (ob l (.loop { state := .busy, pending := none, fn, tmps := a.tmps, params := ps, assign, body, defers := D' })) j hj i hS0.egrow hi _ W1 hOk hS0.lend) ?_
      rintro e a1 Wa ⟨E1, D1, H1, h1, h2, h3, _⟩
      cases e with
      | normal =>
        obtain ⟨rfl, H2, hp, hW⟩ := h3
        have h2' := St.perm h2 hp.perm
        have hla : Wa.heap[l]? = some (.loop { state := .ready, pending := none, fn, tmps := a.tmps, params := ps, assign, body, defers := D' }) := h2'.get .here
        refine ⟨_, run_beginRound hla rfl, ?_⟩
        refine wpIn_mono (hW a1 _ h1 (h2'.put (o' := .loop { state := .busy, pending := none, fn, tmps := a.tmps, params := ps, assign, body, defers := D' }) .here)) ?_
        have fin : ∀ (jump : Option Code) (Ψ' : List Res) (W3 : World), St (c.B.call W1 (ob l (.loop { state := .ready, pending := none, fn, tmps := a.tmps, params := ps, assign, body, defers := D' }) :: Hi i)) (ob l (.loop { state := .busy, pending := none, fn, tmps := a.tmps, params := ps, assign, body, defers := D' }) :: Ψ') W3 →
            ∃ v w', (Instr.endRound l jump).run c.P W3 = .ok v w' ∧ v = .bool jump.isNone ∧ St c.B (bun (ob l (.loop { state := if jump.isNone then .ready else .done, pending := jump, fn, tmps := a.tmps, params := ps, assign, body, defers := D' }) :: mres D' :: Ψ') :: Fr) w' := fun jump Ψ' W3 h3 => by
          have h3' := hS0.give h3
          have hl3 : W3.heap[l]? = some (.loop { state := .busy, pending := none, fn, tmps := a.tmps, params := ps, assign, body, defers := D' }) := h3'.get .here
          have h4 := (h3'.put (o' := .loop { state := if jump.isNone then .ready else .done, pending := jump, fn, tmps := a.tmps, params := ps, assign, body, defers := D' }) .here).perm (.cons _ List.perm_middle)
          exact ⟨_, _, run_endRound jump hl3, rfl, St.pack (Ψ := ob l _ :: mres D' :: Ψ') h4⟩
        rintro e a3 W3 ⟨E3, D3, H3, k1, k2, k3, _⟩
        cases e with
        | normal => obtain ⟨i', hi', hL⟩ := k3; obtain ⟨v, w', hr, rfl, h4⟩ := fin none _ W3 (hL _ k2); exact ⟨_, _, hr, (true, _), ⟨i', rfl, hi'⟩, rfl, h4⟩
        | ret => obtain ⟨k, hk, hL⟩ := k3; obtain ⟨v, w', hr, rfl, h4⟩ := fin (some .ret) _ W3 (hL _ k2); exact ⟨_, _, hr, (false, _), ⟨_, k, rfl, hk⟩, rfl, h4⟩
        | exit id => obtain ⟨k, hk, hL⟩ := k3; obtain ⟨v, w', hr, rfl, h4⟩ := fin (some (.exit id)) _ W3 (hL _ k2); exact ⟨_, _, hr, (false, _), ⟨_, k, rfl, hk⟩, rfl, h4⟩
        | goto t => obtain ⟨k, hk, hL⟩ := k3; obtain ⟨v, w', hr, rfl, h4⟩ := fin (some (.goto t)) _ W3 (hL _ k2); exact ⟨_, _, hr, (false, _), ⟨_, k, rfl, hk⟩, rfl, h4⟩
        | panic ch => exact k3.elim
        | outgrown => exact k3.elim
      | exit id => exact h3.elim
      | goto t => exact h3.elim
      | ret => exact h3.elim
      | panic ch => exact h3.elim
      | outgrown => exact h3.elim
    · rintro e W2 ⟨r, hr, rfl, h2⟩
      have hOk : Ok c.N E (mark D' :: D) { a with defers := mark D' :: a.defers } := ⟨ha.size, ha.fit, by show mark D' :: a.defers = _; rw [ha.dfr]⟩
      rcases hr with ⟨i, rfl, hi⟩ | ⟨j, hj, x, k, rfl, hk⟩
      · have h3 := h2.unpack
        have hl2 : W2.heap[l]? = some (.loop { state := .ready, pending := none, fn, tmps := a.tmps, params := ps, assign, body, defers := D' }) := h3.get .here
        exact ⟨none, _, run_endLoop hl2 (by simp), E, _, _, hOk, (h3.put (o' := .loop { state := .exhausted, pending := none, fn, tmps := a.tmps, params := ps, assign, body, defers := D' }) .here).drop, hdone i D' hi, trivial⟩
      · have h3 := h2.unpack
        have hl2 : W2.heap[l]? = some (.loop { state := .done, pending := some x, fn, tmps := a.tmps, params := ps, assign, body, defers := D' }) := h3.get .here
        have := hstop x k D' hk _ _ hOk (h3.put (o' := .loop { state := .exhausted, pending := some x, fn, tmps := a.tmps, params := ps, assign, body, defers := D' }) .here).drop
        rw [hF] at this
        exact ⟨some x, _, run_endLoop hl2 (by simp), this⟩

/-! ### how a function with marks is left -/
theorem leaves_marks {P : Program} {B : Base} {Ψ : List Res} {fn : Func} {tmps : Array Value} {R : Ending → World → Prop} : ∀ (Ds : List Nat) (w : World), St B (Ds.map mres ++ Ψ) w →
    (∀ w', St B Ψ w' → ∃ v, (results fn tmps).run P w' = .ok v w' ∧ R (.returned v) w') → LeavesInM Fence.wide 0 P fn tmps R (Ds.map mark) .returning w
  | [], w, h, hr => hr w h
  | D :: Ds, w, h, hr => by
    have h' : St B (ob D (.deferred (some [])) :: (Ds.map mres ++ Ψ)) w := h
    have hD : w.heap[D]? = some (.deferred (some [])) := h'.get .here
    exact ⟨by simp, .inl ⟨D, _, rfl, run_takeDeferred hD, leaves_marks Ds _ (h'.put (o' := .deferred none) .here).drop hr⟩⟩
/-- The post of a function's body, marks and all. -/
def finM (P : Program) (rs : List ResultVar) (R : Value → List Res → Prop) : Post
  | .ret, E, D, H => ∃ (Ds : List Nat) (H' : List Res), D = Ds.map mark ∧ (∀ B, Leads B H (Ds.map mres ++ H')) ∧ ∃ vs, ResL P E H' rs vs ∧ R (resVal vs) H'
  | .normal, E, D, H => ∃ (Ds : List Nat) (H' : List Res), D = Ds.map mark ∧ (∀ B, Leads B H (Ds.map mres ++ H')) ∧ ∃ vs, ResL P E H' rs vs ∧ R (resVal vs) H'
  | _, _, _, _ => False
theorem enterM {P : Program} {B : Base} {Ψ : List Res} {w : World} {ι : Type} {inv : ι → Prop} {val : ι → Value} {post : ι → List Res} {f : FuncId} {fn : Func} {body : Code} {args : List Value} (hf : P.funcs[f]? = some fn) (hb : fn.body = some body) (hl : Nat.ble args.length fn.ntmps = true) (hS : St B Ψ w)
    (h : W ⟨P, Fence.wide, fn.ntmps, B, fun _ => trivial, rfl, fun h => h⟩ body (finM P fn.results.toList (fun v H => ∃ i, inv i ∧ v = val i ∧ Leads B H (post i))) ((args.zipIdx).map fun p => (p.2, p.1)) [] Ψ) :
    CallsIn Fence.wide 0 P f args.toArray w (Ret B inv val post) := by
  refine callsIn_of_wp_marks hf hb trivial (wpIn_mono (h _ w (Ok.enter fn.ntmps args (Nat.le_of_ble_eq_true hl)) hS) ?_) rfl
  rintro e a w' ⟨E, D, H, h1, h2, h3, _⟩
  have key : (∃ (Ds : List Nat) (H' : List Res), D = Ds.map mark ∧ (∀ B, Leads B H (Ds.map mres ++ H')) ∧ ∃ vs, ResL P E H' fn.results.toList vs ∧ ∃ i, inv i ∧ resVal vs = val i ∧ Leads B H' (post i)) → LeavesInM Fence.wide 0 P fn a.tmps (Ret B inv val post) a.defers .returning w' := by
    rintro ⟨Ds, H', hD, hs, vs, hr, i, hi, hv, hL⟩
    rw [h1.dfr, hD]
    exact leaves_marks Ds w' (hs _ _ h2) (fun w2 h => ⟨_, hr.results h1.fit h, i, hi, by rw [hv], hL _ h⟩)
  cases e with
  | normal => exact key h3
  | ret => exact key h3
  | _ => exact h3.elim
theorem aq_n {body : Code} {R1 R2 : Res} {H2 : List Res} (hp : Pick H R1 H2) (h : W c body Q E [] (R2 :: H2)) : aq c body R1 R2 Q .normal E [] H := ⟨rfl, _, hp, h⟩
theorem rq_n {ι κ : Type} {B : Base} {R : Res} {inv : ι → Prop} {Hi : ι → List Res} {inx : Code → κ → Prop} {Hx : Code → κ → List Res} (h : ∃ i, inv i ∧ Leads B H (R :: Hi i)) : rq B R inv Hi inx Hx .normal E D H := h
theorem rq_r {ι κ : Type} {B : Base} {R : Res} {inv : ι → Prop} {Hi : ι → List Res} {inx : Code → κ → Prop} {Hx : Code → κ → List Res} (h : ∃ k, inx .ret k ∧ Leads B H (R :: Hx .ret k)) : rq B R inv Hi inx Hx .ret E D H := h
theorem finM_n {P : Program} {rs : List ResultVar} {R : Value → List Res → Prop} {Ds : List Nat} {vs : List Value} (hD : D = Ds.map mark) (hs : Split H (Ds.map mres) H') (hr : ResL P E H' rs vs) (h : R (resVal vs) H') : finM P rs R .normal E D H := ⟨Ds, H', hD, fun _ _ hS => hS.perm hs.perm, vs, hr, h⟩
theorem finM_r {P : Program} {rs : List ResultVar} {R : Value → List Res → Prop} {Ds : List Nat} {vs : List Value} (hD : D = Ds.map mark) (hs : Split H (Ds.map mres) H') (hr : ResL P E H' rs vs) (h : R (resVal vs) H') : finM P rs R .ret E D H := ⟨Ds, H', hD, fun _ _ hS => hS.perm hs.perm, vs, hr, h⟩
end
section
variable {c : Cx} {N : Md c} {d : Nat} {ty : TypeId} {pos : String} {af : Array Edge} {rest : List Oper} {E : Env} {D : List Deferred} {H : List Res}
theorem oMakeFunc {n : Nat} {cap : Array Operand} {vs : List Value} (hc : E.ops cap.toList = some vs) (h : O N rest ((d, .func (.func n) #[] vs.toArray) :: E) D H) (hN : Nat.blt d c.N = true := by rfl) : O N (⟨some d, .makeFunc (.func n) #[] cap, ty, pos, af, none⟩ :: rest) E D H :=
  oC _ rfl hN (fun u w ha hw => by
    have h1 : cap.map u.eval = vs.toArray := by
      apply Array.toList_inj.1
      simpa using ha.ops hc
    simp [execOp, h1, Instr.makeFunc]) h
end
/-! ### marks that loops leave -/
/-- Marks, however many. -/
abbrev marksR (Ds : List Nat) : Res := bun (Ds.map mres)
theorem marks_nil {B : Base} {Φ : List Res} : Leads B Φ (marksR [] :: Φ) := fun w h => St.pack (Ψ := []) h
theorem marks_push {B : Base} {Φ Φ' Φ'' : List Res} {D' : Nat} {Ds : List Nat} (h1 : Pick Φ (mres D') Φ') (h2 : Pick Φ' (marksR Ds) Φ'') : Leads B Φ (marksR (D' :: Ds) :: Φ'') := fun w h => by
  have h3 : St B (marksR Ds :: mres D' :: Φ'') w := h.perm (h1.perm.trans ((h2.perm.cons _).trans (List.Perm.swap _ _ _)))
  exact St.pack (Ψ := (D' :: Ds).map mres) (h3.unpack.perm List.perm_middle)
theorem finMb_n {P : Program} {rs : List ResultVar} {R : Value → List Res → Prop} {E : Env} {D : List Deferred} {H H' : List Res} {Ds : List Nat} {vs : List Value} (hD : D = Ds.map mark) (hp : Pick H (marksR Ds) H') (hr : ResL P E H' rs vs) (h : R (resVal vs) H') : finM P rs R .normal E D H := ⟨Ds, H', hD, fun _ _ hS => (hS.perm hp.perm).unpack, vs, hr, h⟩
theorem finMb_r {P : Program} {rs : List ResultVar} {R : Value → List Res → Prop} {E : Env} {D : List Deferred} {H H' : List Res} {Ds : List Nat} {vs : List Value} (hD : D = Ds.map mark) (hp : Pick H (marksR Ds) H') (hr : ResL P E H' rs vs) (h : R (resVal vs) H') : finM P rs R .ret E D H := ⟨Ds, H', hD, fun _ _ hS => (hS.perm hp.perm).unpack, vs, hr, h⟩
section
variable {c : Cx} {Q : Post} {E : Env} {D : List Deferred} {H : List Res} {x : Code}
/-- A loop whose rounds leave marks. -/
theorem wLoopM {ι : Type} (Ei : ι → Env) (Hi : ι → List Res) (inv : ι → Prop) (μ : ι → Nat) (i0 : ι) (h0 : inv i0) (hE : Cov E (Ei i0)) (Ds0 : List Nat) (hD : D = Ds0.map mark) (hH : Leads c.B H (marksR Ds0 :: Hi i0))
    (round : ∀ i Ds, inv i → W c x (thn (fun E' D' H' => ∃ Ds', D' = Ds'.map mark ∧ ∃ i', inv i' ∧ μ i' < μ i ∧ Cov E' (Ei i') ∧ Leads c.B H' (marksR Ds' :: Hi i')) Q) (Ei i) (Ds.map mark) (marksR Ds :: Hi i)) : W c (.loop x) Q E D H := by
  have key : ∀ m i Ds a w, μ i < m → inv i → Ok c.N (Ei i) (Ds.map mark) a → St c.B (marksR Ds :: Hi i) w → Code.roundsIn c.F 0 c.P x (lift c Q) m a w := by
    intro m
    induction m with
    | zero => intro i Ds a w h; omega
    | succ m ih =>
      intro i Ds a w hm hi ha hw
      rw [roundsIn_succ]
      refine wpIn_mono (round i Ds hi a w ha hw) ?_
      rintro e a' w' ⟨E', D', H', h1, h2, h3⟩
      cases e with
      | normal =>
        obtain ⟨⟨Ds', rfl, i', hi', hlt, hcov, hsp⟩, _⟩ := h3
        exact ih i' Ds' a' w' (by omega) hi' (h1.cov hcov) (hsp _ h2)
      | _ => exact ⟨E', D', H', h1, h2, h3⟩
  intro a w ha hw
  subst hD
  exact wpIn_loop_rounds (μ i0 + 1) (key _ i0 Ds0 a w (Nat.lt_succ_self _) h0 (ha.cov hE) (hH _ hw))
end
end Go.Proofs.YtnidmlngkpkmlaaK
