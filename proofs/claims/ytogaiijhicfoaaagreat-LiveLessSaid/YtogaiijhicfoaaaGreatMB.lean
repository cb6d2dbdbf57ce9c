/-
  Texts Kl, Kp, Kq, Kr, Ks, Kv, Kw, Kx, Ky, Ku, Kga, Kz, Kgb in one.
-/
import Derived.Test.YtogaiijhicfoaaaGreatMA
import Derived.RangeFuncBound
import Derived.RangeFuncLeaves
import Derived.Laws.IdiomCopy
import Derived.Shelf.Sort.Plain
import Derived.Shelf.Slices.In.SortNone
import Derived.Shelf.Slices.CompactI
import Derived.OrdersIn
import Derived.OpenShut

/-
  A range over a function: what an iterator owes, a call of yield, the loop, and how a function with such loops is left.
-/
namespace Go.Proofs.YtogaiijhicfoaaaGreatK
set_option linter.unusedVariables false
set_option linter.unusedSimpArgs false
open Go.RowKit

def bun (Ψ : List Res) : Res where
  fp k := ∃ r ∈ Ψ, r.fp k
  q w := (∀ r ∈ Ψ, r.q w) ∧ Ψ.Pairwise (fun (r s : Res) => ∀ k : Nat, r.fp k → ¬ s.fp k)
  inb w h k hk := by obtain ⟨r, hr, hk⟩ := hk; exact r.inb w (h.1 r hr) k hk
  st w w' h hk := ⟨fun r hr => r.st w w' (h.1 r hr) (fun k hf => hk k ⟨r, hr, hf⟩), h.2⟩
section
variable {B : Base} {w w' : World} {Φ Φ' Ψ Fr : List Res}
theorem St.pack (h : St B (Ψ ++ Φ) w) : St B (bun Ψ :: Φ) w := by
  obtain ⟨h1, h2⟩ := (Sep.all _ _ _).1 h.sep
  obtain ⟨p1, p2, p3⟩ := List.pairwise_append.1 h2
  refine ⟨h.ok, (Sep.all _ _ _).2 ⟨fun r hr => ?_, List.pairwise_cons.2 ⟨fun s hs k hk => ?_, p2⟩⟩⟩
  · rcases List.mem_cons.1 hr with rfl | hr
    · refine ⟨⟨fun r hr => (h1 r (List.mem_append_left _ hr)).1, p1⟩, fun k hk => ?_⟩
      obtain ⟨r, hr, hk⟩ := hk
      exact (h1 r (List.mem_append_left _ hr)).2 k hk
    · exact h1 r (List.mem_append_right _ hr)
  · obtain ⟨r, hr, hk⟩ := hk
    exact p3 r hr s hs k hk
theorem St.unpack (h : St B (bun Ψ :: Φ) w) : St B (Ψ ++ Φ) w := by
  obtain ⟨h1, h2⟩ := (Sep.all _ _ _).1 h.sep
  obtain ⟨p1, p2⟩ := List.pairwise_cons.1 h2
  have hb := h1 _ List.mem_cons_self
  refine ⟨h.ok, (Sep.all _ _ _).2 ⟨fun r hr => ?_, List.pairwise_append.2 ⟨hb.1.2, p2, fun r hr s hs k hk => p1 s hs k ⟨r, hr, hk⟩⟩⟩⟩
  rcases List.mem_append.1 hr with hr | hr
  · exact ⟨hb.1.1 r hr, fun k hk => hb.2 k ⟨r, hr, hk⟩⟩
  · exact h1 r (List.mem_cons_of_mem _ hr)

def YEnd (B : Base) (j : Nat) (A Ax : Nat → Res → Prop) (Fr : List Res) : Ending → World → Prop :=
  Ret B (fun i : Bool × Res => if i.1 = true then A (j + 1) i.2 else Ax (j + 1) i.2) (fun i => .bool i.1) (fun i => i.2 :: Fr)
def IterC (P : Program) (g : Nat) (lb : Array Value) (B : Base) (xs : List (List Value)) (Fr0 : List Res) : Prop :=
  ∀ (l : Nat) (A Ax : Nat → Res → Prop) (r0 : Res) (W : World),
    (∀ (j : Nat) (hj : j < xs.length) (r : Res) (Fr : List Res) (W1 : World), A j r → St B (r :: Fr) W1 → YieldAt Fence.wide 0 P l (xs[j]).toArray W1 (YEnd B j A Ax Fr)) →
    A 0 r0 → St B (r0 :: Fr0) W →
    CallsIn Fence.wide 0 P g (#[.func (.yield l) #[] #[]] ++ lb) W (Ret B (fun r : Res => A xs.length r ∨ ∃ j, j < xs.length ∧ Ax (j + 1) r) (fun _ => .tuple #[]) (fun r => r :: Fr0))
end

section
variable {c : Cx} {Q : Post} {ops : Array Oper} {d : Nat} {ty : TypeId} {pos : String} {af : Array Edge} {rest : List Oper} {E : Env} {D : List Deferred} {H H' : List Res} {f : Operand}
theorem oYield {ι : Type} {inv : ι → Prop} {val : ι → Value} {post : ι → List Res} {args : Array Operand} {ats : Array TypeId} {l : Nat} {vs : List Value} (hF : c.F = Fence.wide) (hf : E.op f = some (.func (.yield l) #[] #[])) (hargs : E.ops args.toList = some vs)
    (hy : ∀ w, St c.B H w → YieldAt Fence.wide 0 c.P l vs.toArray w (Ret c.B inv val post)) (h : ∀ i, inv i → O (Me.list c ops Q).toMd rest ((d, val i) :: E) D (post i)) (hN : Nat.blt d c.N = true := by rfl) :
    O (Me.list c ops Q).toMd (⟨some d, .call { callee := .value f, args := args, argTypes := ats }, ty, pos, af, none⟩ :: rest) E D H := by
  intro a w ha hw
  obtain ⟨fn, tmps, assign, body, hr, hR⟩ := hy w hw
  have h1 : args.map a.eval = vs.toArray := by
    apply Array.toList_inj.1
    simpa using ha.fit.ops hargs
  show wpListIn _ _ _ _ _ _ _ _
  simp only [wpListIn]
  rw [if_pos (show Region.wanted ⟨some d, .call { callee := .value f, args := args, argTypes := ats }, ty, pos, af, none⟩ (yielded ops a.tmps) = true from rfl)]
  refine ⟨fun f _ => c.fn f, ?_⟩
  rw [semAt_plain' _ _ _ rfl]
  simp only [execOp, resolve, Sem.run_bind, ha.fit.op hf, h1, Deferred.ofValue, Sem.run_pure, Result.andThen_ok, invoke, List.append_toArray, List.nil_append, Array.empty_append, List.append_nil, Array.append_empty]
  rw [hr]
  rw [hF]
  refine ⟨fun h => by simp [Fence.wide] at h, hR.mono ?_⟩
  rintro e w' ⟨i, hi, rfl, hw'⟩
  have := h i hi _ _ (ha.put hN) hw'
  rw [← hF]
  exact this

def Cx.round (c : Cx) (l : Nat) (B' : Base) : Cx := ⟨c.P, Fence.wide.inRound l, c.N, B', fun _ => trivial, rfl, fun h => h.inRound l⟩
def hand : List Tmp → List Value → Env → Env
  | p :: ps, v :: vs, E => hand ps vs ((p, v) :: E)
  | _, _, E => E
theorem hand_ok {N : Nat} {D : List Deferred} : ∀ {ps : List Tmp} {vs : List Value} {E : Env} {a : Act}, ps.all (fun p => Nat.blt p N) = true → Ok N E D a →
    Ok N (hand ps vs E) D { a with tmps := (ps.zip vs).foldl (fun t p => t.setIfInBounds p.1 p.2) a.tmps }
  | [], _, E, a, _, h => by simpa [hand] using h
  | p :: ps, [], E, a, _, h => by simpa [hand] using h
  | p :: ps, v :: vs, E, a, hN, h => by
    simp only [List.all_cons, Bool.and_eq_true] at hN
    exact hand_ok hN.2 (a := a.put (some p) v) (h.put hN.1)
def mark (D : Nat) : Deferred := { target := .collected D, args := #[] }
abbrev mres (D : Nat) : Res := ob D (.deferred (some []))
@[reducible] def rq {ι κ : Type} (B : Base) (R : Res) (inv : ι → Prop) (Hi : ι → List Res) (inx : Code → κ → Prop) (Hx : Code → κ → List Res) : Post
  | .normal, _, _, H => ∃ i, inv i ∧ Leads B H (R :: Hi i)
  | .ret, _, _, H => ∃ k, inx .ret k ∧ Leads B H (R :: Hx .ret k)
  | .exit id, _, _, H => ∃ k, inx (.exit id) k ∧ Leads B H (R :: Hx (.exit id) k)
  | .goto t, _, _, H => ∃ k, inx (.goto t) k ∧ Leads B H (R :: Hx (.goto t) k)
  | _, _, _, _ => False
@[reducible] def aq (c : Cx) (body : Code) (R1 R2 : Res) (Q : Post) : Post
  | .normal, E, D, H => D = [] ∧ ∃ H2, Pick H R1 H2 ∧ W c body Q E [] (R2 :: H2)
  | _, _, _, _ => False
theorem wRange {g : Operand} {ps : Array Tmp} {assign body : Code} {gf : Nat} {lb : Array Value} {xs : List (List Value)} {Fr0 : List Res} (hF : c.F = Fence.wide) (hg : E.op g = some (.func (.func gf) #[] lb)) (hgood : goodF c.P gf = true)
    (hit : IterC c.P gf lb c.B xs Fr0) (hps : ∀ x ∈ xs, x.length = ps.size) (hN : ps.toList.all (fun p => Nat.blt p c.N) = true)
    {ι κ : Type} (inv : Nat → ι → Prop) (Hi : ι → List Res) (inx : Code → κ → Prop) (Hx : Code → κ → List Res) (i0 : ι) (h0 : inv 0 i0) (hH : Leads c.B H (Hi i0 ++ Fr0))
    (hround : ∀ (l : Nat) (B' : Base) (R1 R2 : Res) (j : Nat) (hj : j < xs.length) (i : ι), Grow c.B.e B'.e → inv j i →
      W (c.round l B') assign (aq (c.round l B') body R1 R2 (rq B' R2 (inv (j + 1)) Hi inx Hx)) (hand ps.toList xs[j] E) [] (R1 :: Hi i))
    (hdone : ∀ (i : ι) (D' : Nat), inv xs.length i → Q .normal E (mark D' :: D) (mres D' :: (Hi i ++ Fr0)))
    (hstop : ∀ (x : Code) (k : κ) (D' : Nat), inx x k → W c x Q E (mark D' :: D) (mres D' :: (Hx x k ++ Fr0))) : W c (.rangeFunc g ps assign body) Q E D H := by
  intro a w ha hw
  have hw0 : St c.B (Hi i0 ++ Fr0) w := hH w hw
  rw [hF]
  refine wpIn_rangeFunc ?_
  intro fn _
  obtain ⟨W1, hW1⟩ : ∃ W1, (w.alloc (.deferred (some []))).alloc (.loop { state := .ready, pending := none, fn, tmps := a.tmps, params := ps, assign, body, defers := w.heap.size }) = W1 := ⟨_, rfl⟩
  refine ⟨w.heap.size + 1, [mark w.heap.size], W1, { target := .fn (.func gf) lb, args := #[.func (.yield (w.heap.size + 1)) #[] #[]] }, W1, gf,
    #[.func (.yield (w.heap.size + 1)) #[] #[]] ++ lb, W1, by rw [← hW1]; exact run_enterLoop_outer _ _ _ _ _, ?_, fun _ _ => trivial, ?_, fun h => by simp [Fence.wide] at h, ?_⟩
  · simp only [resolve, ha.fit.op hg]
    simp [go_sem]
  · simp [invoke, go_sem, run_callFunc hgood]
  · have hS1 := (hw0.alloc (.deferred (some []))).alloc (.loop { state := .ready, pending := none, fn, tmps := a.tmps, params := ps, assign, body, defers := w.heap.size })
    rw [World.size_alloc, hW1] at hS1
    clear hW1
    generalize hD : w.heap.size = D' at hS1 ⊢
    generalize hl : D' + 1 = l at hS1 ⊢
    have hS2 : St c.B (bun (ob l (.loop { state := .ready, pending := none, fn, tmps := a.tmps, params := ps, assign, body, defers := D' }) :: mres D' :: Hi i0) :: Fr0) W1 := St.pack (Ψ := ob l (.loop { state := .ready, pending := none, fn, tmps := a.tmps, params := ps, assign, body, defers := D' }) :: mres D' :: Hi i0) hS1
    refine (hit l (fun j r => ∃ i, r = bun (ob l (.loop { state := .ready, pending := none, fn, tmps := a.tmps, params := ps, assign, body, defers := D' }) :: mres D' :: Hi i) ∧ inv j i)
      (fun j r => ∃ x k, r = bun (ob l (.loop { state := .done, pending := some x, fn, tmps := a.tmps, params := ps, assign, body, defers := D' }) :: mres D' :: Hx x k) ∧ inx x k) _ _ ?_ ⟨i0, rfl, h0⟩ hS2).mono ?_
    · rintro j hj r Fr W1 ⟨i, rfl, hi⟩ hSt
      have hS0 : St c.B ((ob l (.loop { state := .ready, pending := none, fn, tmps := a.tmps, params := ps, assign, body, defers := D' }) :: Hi i) ++ (mres D' :: Fr)) W1 := hSt.unpack.perm (.cons _ List.perm_middle.symm)
      have hl1 : W1.heap[l]? = some (.loop { state := .ready, pending := none, fn, tmps := a.tmps, params := ps, assign, body, defers := D' }) := hS0.get .here
      refine ⟨fn, _, assign, body, run_yield (P := c.P) (args := xs[j].toArray) hl1 (by simpa using hps _ (List.getElem_mem hj)), roundIn_of_wpIn trivial ?_⟩
      have hOk : Ok c.N (hand ps.toList xs[j] E) [] { tmps := (ps.zip xs[j].toArray).foldl (fun t (p, v) => t.setIfInBounds p v) a.tmps, defers := [] } := by
        have := hand_ok (vs := xs[j]) hN (a := { a with defers := [] }) (E := E) (D := []) ⟨ha.size, ha.fit, rfl⟩
        rw [← Array.foldl_toList, Array.toList_zip]
        exact this
      refine wpIn_mono (hround l (c.B.call W1 _) (ob l _) (ob l (.loop { state := .busy, pending := none, fn, tmps := a.tmps, params := ps, assign, body, defers := D' })) j hj i hS0.egrow hi _ W1 hOk hS0.lend) ?_
      rintro e a1 Wa ⟨E1, D1, H1, h1, h2, h3, _⟩
      cases e with
      | normal =>
        obtain ⟨rfl, H2, hp, hW⟩ := h3
        have h2' := St.perm h2 hp.perm
        have hla : Wa.heap[l]? = some (.loop { state := .ready, pending := none, fn, tmps := a.tmps, params := ps, assign, body, defers := D' }) := h2'.get .here
        refine ⟨_, run_beginRound hla rfl, ?_⟩
        refine wpIn_mono (hW a1 _ h1 (h2'.put (o' := .loop { state := .busy, pending := none, fn, tmps := a.tmps, params := ps, assign, body, defers := D' }) .here)) ?_
        have fin : ∀ (jump : Option Code) (Ψ' : List Res) (W3 : World), St (c.B.call W1 (ob l (.loop { state := .ready, pending := none, fn, tmps := a.tmps, params := ps, assign, body, defers := D' }) :: Hi i)) (ob l (.loop { state := .busy, pending := none, fn, tmps := a.tmps, params := ps, assign, body, defers := D' }) :: Ψ') W3 →
            ∃ v w', (Instr.endRound l jump).run c.P W3 = .ok v w' ∧ v = .bool jump.isNone ∧ St c.B (bun (ob l (.loop { state := if jump.isNone then .ready else .done, pending := jump, fn, tmps := a.tmps, params := ps, assign, body, defers := D' }) :: mres D' :: Ψ') :: Fr) w' := fun jump Ψ' W3 h3 => by
          have h3' := hS0.give h3
          have hl3 : W3.heap[l]? = some (.loop { state := .busy, pending := none, fn, tmps := a.tmps, params := ps, assign, body, defers := D' }) := h3'.get .here
          have h4 := (h3'.put (o' := .loop { state := if jump.isNone then .ready else .done, pending := jump, fn, tmps := a.tmps, params := ps, assign, body, defers := D' }) .here).perm (.cons _ List.perm_middle)
          exact ⟨_, _, run_endRound jump hl3, rfl, St.pack (Ψ := ob l _ :: mres D' :: Ψ') h4⟩
        rintro e a3 W3 ⟨E3, D3, H3, k1, k2, k3, _⟩
        cases e with
        | normal => obtain ⟨i', hi', hL⟩ := k3; obtain ⟨v, w', hr, rfl, h4⟩ := fin none _ W3 (hL _ k2); exact ⟨_, _, hr, (true, _), ⟨i', rfl, hi'⟩, rfl, h4⟩
        | ret => obtain ⟨k, hk, hL⟩ := k3; obtain ⟨v, w', hr, rfl, h4⟩ := fin (some .ret) _ W3 (hL _ k2); exact ⟨_, _, hr, (false, _), ⟨_, k, rfl, hk⟩, rfl, h4⟩
        | exit id => obtain ⟨k, hk, hL⟩ := k3; obtain ⟨v, w', hr, rfl, h4⟩ := fin (some (.exit id)) _ W3 (hL _ k2); exact ⟨_, _, hr, (false, _), ⟨_, k, rfl, hk⟩, rfl, h4⟩
        | goto t => obtain ⟨k, hk, hL⟩ := k3; obtain ⟨v, w', hr, rfl, h4⟩ := fin (some (.goto t)) _ W3 (hL _ k2); exact ⟨_, _, hr, (false, _), ⟨_, k, rfl, hk⟩, rfl, h4⟩
        | panic ch => exact k3.elim
        | outgrown => exact k3.elim
      | exit id => exact h3.elim
      | goto t => exact h3.elim
      | ret => exact h3.elim
      | panic ch => exact h3.elim
      | outgrown => exact h3.elim
    · rintro e W2 ⟨r, hr, rfl, h2⟩
      have hOk : Ok c.N E (mark D' :: D) { a with defers := mark D' :: a.defers } := ⟨ha.size, ha.fit, by show mark D' :: a.defers = _; rw [ha.dfr]⟩
      rcases hr with ⟨i, rfl, hi⟩ | ⟨j, hj, x, k, rfl, hk⟩
      · have h3 := h2.unpack
        have hl2 : W2.heap[l]? = some (.loop { state := .ready, pending := none, fn, tmps := a.tmps, params := ps, assign, body, defers := D' }) := h3.get .here
        exact ⟨none, _, run_endLoop hl2 (by simp), E, _, _, hOk, (h3.put (o' := .loop { state := .exhausted, pending := none, fn, tmps := a.tmps, params := ps, assign, body, defers := D' }) .here).drop, hdone i D' hi, trivial⟩
      · have h3 := h2.unpack
        have hl2 : W2.heap[l]? = some (.loop { state := .done, pending := some x, fn, tmps := a.tmps, params := ps, assign, body, defers := D' }) := h3.get .here
        have := hstop x k D' hk _ _ hOk (h3.put (o' := .loop { state := .exhausted, pending := some x, fn, tmps := a.tmps, params := ps, assign, body, defers := D' }) .here).drop
        rw [hF] at this
        exact ⟨some x, _, run_endLoop hl2 (by simp), this⟩

theorem leaves_marks {P : Program} {B : Base} {Ψ : List Res} {fn : Func} {tmps : Array Value} {R : Ending → World → Prop} : ∀ (Ds : List Nat) (w : World), St B (Ds.map mres ++ Ψ) w →
    (∀ w', St B Ψ w' → ∃ v, (results fn tmps).run P w' = .ok v w' ∧ R (.returned v) w') → LeavesInM Fence.wide 0 P fn tmps R (Ds.map mark) .returning w
  | [], w, h, hr => hr w h
  | D :: Ds, w, h, hr => by
    have h' : St B (ob D (.deferred (some [])) :: (Ds.map mres ++ Ψ)) w := h
    have hD : w.heap[D]? = some (.deferred (some [])) := h'.get .here
    exact ⟨by simp, .inl ⟨D, _, rfl, run_takeDeferred hD, leaves_marks Ds _ (h'.put (o' := .deferred none) .here).drop hr⟩⟩
def finM (P : Program) (rs : List ResultVar) (R : Value → List Res → Prop) : Post
  | .ret, E, D, H => ∃ (Ds : List Nat) (H' : List Res), D = Ds.map mark ∧ (∀ B, Leads B H (Ds.map mres ++ H')) ∧ ∃ vs, ResL P E H' rs vs ∧ R (resVal vs) H'
  | .normal, E, D, H => ∃ (Ds : List Nat) (H' : List Res), D = Ds.map mark ∧ (∀ B, Leads B H (Ds.map mres ++ H')) ∧ ∃ vs, ResL P E H' rs vs ∧ R (resVal vs) H'
  | _, _, _, _ => False
theorem enterM {P : Program} {B : Base} {Ψ : List Res} {w : World} {ι : Type} {inv : ι → Prop} {val : ι → Value} {post : ι → List Res} {f : FuncId} {fn : Func} {body : Code} {args : List Value} (hf : P.funcs[f]? = some fn) (hb : fn.body = some body) (hl : Nat.ble args.length fn.ntmps = true) (hS : St B Ψ w)
    (h : W ⟨P, Fence.wide, fn.ntmps, B, fun _ => trivial, rfl, fun h => h⟩ body (finM P fn.results.toList (fun v H => ∃ i, inv i ∧ v = val i ∧ Leads B H (post i))) ((args.zipIdx).map fun p => (p.2, p.1)) [] Ψ) :
    CallsIn Fence.wide 0 P f args.toArray w (Ret B inv val post) := by
  refine callsIn_of_wp_marks hf hb trivial (wpIn_mono (h _ w (Ok.enter fn.ntmps args (Nat.le_of_ble_eq_true hl)) hS) ?_) rfl
  rintro e a w' ⟨E, D, H, h1, h2, h3, _⟩
  have key : (∃ (Ds : List Nat) (H' : List Res), D = Ds.map mark ∧ (∀ B, Leads B H (Ds.map mres ++ H')) ∧ ∃ vs, ResL P E H' fn.results.toList vs ∧ ∃ i, inv i ∧ resVal vs = val i ∧ Leads B H' (post i)) → LeavesInM Fence.wide 0 P fn a.tmps (Ret B inv val post) a.defers .returning w' := by
    rintro ⟨Ds, H', hD, hs, vs, hr, i, hi, hv, hL⟩
    rw [h1.dfr, hD]
    exact leaves_marks Ds w' (hs _ _ h2) (fun w2 h => ⟨_, hr.results h1.fit h, i, hi, by rw [hv], hL _ h⟩)
  cases e with
  | normal => exact key h3
  | ret => exact key h3
  | _ => exact h3.elim
theorem aq_n {body : Code} {R1 R2 : Res} {H2 : List Res} (hp : Pick H R1 H2) (h : W c body Q E [] (R2 :: H2)) : aq c body R1 R2 Q .normal E [] H := ⟨rfl, _, hp, h⟩
theorem rq_n {ι κ : Type} {B : Base} {R : Res} {inv : ι → Prop} {Hi : ι → List Res} {inx : Code → κ → Prop} {Hx : Code → κ → List Res} (h : ∃ i, inv i ∧ Leads B H (R :: Hi i)) : rq B R inv Hi inx Hx .normal E D H := h
theorem finM_r {P : Program} {rs : List ResultVar} {R : Value → List Res → Prop} {Ds : List Nat} {vs : List Value} (hD : D = Ds.map mark) (hs : Split H (Ds.map mres) H') (hr : ResL P E H' rs vs) (h : R (resVal vs) H') : finM P rs R .ret E D H := ⟨Ds, H', hD, fun _ _ hS => hS.perm hs.perm, vs, hr, h⟩
end
section
variable {c : Cx} {N : Md c} {d : Nat} {ty : TypeId} {pos : String} {af : Array Edge} {rest : List Oper} {E : Env} {D : List Deferred} {H : List Res}
theorem oMakeFunc {n : Nat} {cap : Array Operand} {vs : List Value} (hc : E.ops cap.toList = some vs) (h : O N rest ((d, .func (.func n) #[] vs.toArray) :: E) D H) (hN : Nat.blt d c.N = true := by rfl) : O N (⟨some d, .makeFunc (.func n) #[] cap, ty, pos, af, none⟩ :: rest) E D H :=
  oC _ rfl hN (fun u w ha hw => by
    have h1 : cap.map u.eval = vs.toArray := by
      apply Array.toList_inj.1
      simpa using ha.ops hc
    simp [execOp, h1, Instr.makeFunc]) h
end
abbrev marksR (Ds : List Nat) : Res := bun (Ds.map mres)
theorem marks_nil {B : Base} {Φ : List Res} : Leads B Φ (marksR [] :: Φ) := fun w h => St.pack (Ψ := []) h
theorem marks_push {B : Base} {Φ Φ' Φ'' : List Res} {D' : Nat} {Ds : List Nat} (h1 : Pick Φ (mres D') Φ') (h2 : Pick Φ' (marksR Ds) Φ'') : Leads B Φ (marksR (D' :: Ds) :: Φ'') := fun w h => by
  have h3 : St B (marksR Ds :: mres D' :: Φ'') w := h.perm (h1.perm.trans ((h2.perm.cons _).trans (List.Perm.swap _ _ _)))
  exact St.pack (Ψ := (D' :: Ds).map mres) (h3.unpack.perm List.perm_middle)
theorem finMb_r {P : Program} {rs : List ResultVar} {R : Value → List Res → Prop} {E : Env} {D : List Deferred} {H H' : List Res} {Ds : List Nat} {vs : List Value} (hD : D = Ds.map mark) (hp : Pick H (marksR Ds) H') (hr : ResL P E H' rs vs) (h : R (resVal vs) H') : finM P rs R .ret E D H := ⟨Ds, H', hD, fun _ _ hS => (hS.perm hp.perm).unpack, vs, hr, h⟩
section
variable {c : Cx} {Q : Post} {E : Env} {D : List Deferred} {H : List Res} {x : Code}
theorem wLoopM {ι : Type} (Ei : ι → Env) (Hi : ι → List Res) (inv : ι → Prop) (μ : ι → Nat) (i0 : ι) (h0 : inv i0) (hE : Cov E (Ei i0)) (Ds0 : List Nat) (hD : D = Ds0.map mark) (hH : Leads c.B H (marksR Ds0 :: Hi i0))
    (round : ∀ i Ds, inv i → W c x (thn (fun E' D' H' => ∃ Ds', D' = Ds'.map mark ∧ ∃ i', inv i' ∧ μ i' < μ i ∧ Cov E' (Ei i') ∧ Leads c.B H' (marksR Ds' :: Hi i')) Q) (Ei i) (Ds.map mark) (marksR Ds :: Hi i)) : W c (.loop x) Q E D H := by
  have key : ∀ m i Ds a w, μ i < m → inv i → Ok c.N (Ei i) (Ds.map mark) a → St c.B (marksR Ds :: Hi i) w → Code.roundsIn c.F 0 c.P x (lift c Q) m a w := by
    intro m
    induction m with
    | zero => intro i Ds a w h; omega
    | succ m ih =>
      intro i Ds a w hm hi ha hw
      rw [roundsIn_succ]
      refine wpIn_mono (round i Ds hi a w ha hw) ?_
      rintro e a' w' ⟨E', D', H', h1, h2, h3⟩
      cases e with
      | normal =>
        obtain ⟨⟨Ds', rfl, i', hi', hlt, hcov, hsp⟩, _⟩ := h3
        exact ih i' Ds' a' w' (by omega) hi' (h1.cov hcov) (hsp _ h2)
      | _ => exact ⟨E', D', H', h1, h2, h3⟩
  intro a w ha hw
  subst hD
  exact wpIn_loop_rounds (μ i0 + 1) (key _ i0 Ds0 a w (Nat.lt_succ_self _) h0 (ha.cov hE) (hH _ hw))
end
end Go.Proofs.YtogaiijhicfoaaaGreatK


/-
  What the walk has built, as data that are read from now on (seal); rows of raw cells; append of a whole slice.
-/
namespace Go.Proofs.YtogaiijhicfoaaaGreatK
set_option linter.unusedVariables false
set_option linter.unusedSimpArgs false
open Go.RowKit
section
variable {c : Cx} {N : Md c} {M : Me c} {d : Nat} {ty : TypeId} {pos : String} {af : Array Edge} {rest : List Oper} {E : Env} {D : List Deferred} {H H' H'' : List Res} {v : Value} {x y z : Operand} {k : IntKind} {t t' : TypeId}
variable {B : Base} {w w' : World} {Φ Φ' Φ'' Ψ : List Res} {P : Program} {α : Type} {kd : Kd α} {W : World} {S : Nat → Prop} {A : Option Addr} {xs : List α}
theorem oConv (hL : Leads c.B H H') (h : O N rest E D H') : O N rest E D H := fun a w ha hw => h a w ha (hL w hw)
theorem Has.refl : ∀ (H : List Res), Has H H
  | [] => .nil
  | r :: H => .cons .here (Has.refl H)
theorem sealed (hs : Split Φ Ψ Φ') (h : ∀ w, (∀ r Φ'', Pick Ψ r Φ'' → r.q w) → Grow W w → kd.C w A xs) : Leads B Φ (rdr W (fun k => ∃ r ∈ Ψ, r.fp k) kd A xs :: Φ') := by
  intro w hS
  have hS := hS.perm hs.perm
  obtain ⟨ok, sep⟩ := hS
  obtain ⟨h1, h2⟩ := (Sep.all _ _ _).1 sep
  obtain ⟨h3, h4, h5⟩ := List.pairwise_append.1 h2
  refine ⟨ok, (Sep.all _ _ _).2 ⟨?_, ?_⟩⟩
  · intro r hr
    rcases List.mem_cons.1 hr with rfl | hr
    · refine ⟨⟨?_, fun w' g hk => h w' (fun r Φ'' hp => r.st w w' (h1 r (List.mem_append_left _ hp.mem)).1 (fun k hf => hk k ⟨r, hp.mem, hf⟩)) g⟩, ?_⟩
      · rintro k ⟨r, hr, hf⟩
        exact r.inb w (h1 r (List.mem_append_left _ hr)).1 k hf
      · rintro k ⟨r, hr, hf⟩
        exact (h1 r (List.mem_append_left _ hr)).2 k hf
    · exact h1 r (List.mem_append_right _ hr)
  · refine List.pairwise_cons.2 ⟨?_, h4⟩
    rintro s hs k ⟨r, hr, hf⟩
    exact h5 r hr s hs k hf
theorem oSeal (Ψ : List Res) (hs : Split H Ψ H') (hC : ∀ w, (∀ r Φ'', Pick Ψ r Φ'' → r.q w) → Grow W w → kd.C w A xs) (h : ∀ S, O N rest E D (rdr W S kd A xs :: H')) : O N rest E D H :=
  oConv (sealed hs hC) (h _)
theorem C_blk {b : Nat} {tb : TypeId} {cs : List Value} (h : (blk b tb cs).q w) (hl : xs.length ≤ 9223372036854775807) (hc : Cat kd w xs cs) : kd.C w (some ⟨b, 0, none⟩) xs := by
  refine ⟨hl, fun _ => ⟨_, rfl, fun j u hj => ?_⟩⟩
  obtain ⟨a, hK, ha⟩ := hc.at j u hj
  refine ⟨a, hK, fun i v hv => ?_⟩
  rw [add_at, Nat.zero_add, cell_of h]
  exact ha i v hv
def Raws (kd : Kd α) (W : World) : List α → List (List Value) → Prop
  | [], rs => rs = []
  | x :: xs, rs => ∃ r rest, rs = r :: rest ∧ kd.K W x r ∧ Raws kd W xs rest
theorem Raws.length : ∀ {xs : List α} {rs : List (List Value)}, Raws kd W xs rs → rs.length = xs.length
  | [], rs, h => by rw [show rs = [] from h]; rfl
  | x :: xs, rs, ⟨r, rest, e, _, h⟩ => by rw [e, List.length_cons, List.length_cons, Raws.length h]
theorem Raws.app : ∀ {xs ys : List α} {rs qs : List (List Value)}, Raws kd W xs rs → Raws kd W ys qs → Raws kd W (xs ++ ys) (rs ++ qs)
  | [], ys, rs, qs, h, k => by rw [h]; exact k
  | x :: xs, ys, rs, qs, ⟨r, rest, e, hK, h⟩, k => ⟨r, rest ++ qs, by rw [e]; rfl, hK, h.app k⟩
theorem Raws.one {u : α} {r : List Value} (h : kd.K W u r) : Raws kd W [u] [r] := ⟨r, [], rfl, h, rfl⟩
theorem Raws.grow (g : Grow W w) : ∀ {xs : List α} {rs : List (List Value)}, Raws kd W xs rs → Raws kd w xs rs
  | [], rs, h => h
  | x :: xs, rs, ⟨r, rest, e, hK, h⟩ => ⟨r, rest, e, kd.K_grow g hK, Raws.grow g h⟩
theorem row_len {e : TypeId} {n cp : Nat} (h : (row kd W e (.slice A n cp) xs).q w) : n = xs.length ∧ n ≤ cp := by
  obtain ⟨cs, ⟨hl, ho⟩, hr⟩ := h
  rcases ho with ⟨e1, e2⟩ | ⟨b, cap, cur, e1, _, hh, h1, h2, h3, h4⟩
  · injection e1 with e1 e3 e4; omega
  · injection e1 with e1 e3 e4; omega
inductive AppL {α : Type} : List α → List α → List α → Prop
  | nil {es} : AppL [] es es
  | cons {x cs es r} : AppL cs es r → AppL (x :: cs) es (x :: r)
theorem AppL.spec {α : Type} {cs es r : List α} (h : AppL cs es r) : r = cs ++ es := by
  induction h with
  | nil => rfl
  | cons _ ih => rw [ih]; rfl
inductive Fulls (s : Nat) : Nat → List (Nat × Value) → List Value → Prop
  | nil {i : Nat} : Fulls s i [] []
  | cons {i : Nat} {v : Value} {cs es ds : List Value} {r : List (Nat × Value)} : CellsOf v cs → cs.length = s → Fulls s (i + 1) r es → AppL cs es ds → Fulls s i ((i, v) :: r) ds
theorem putL_at {α : Type} {vs : List α} : ∀ (off : Nat) (cs : List α), off + vs.length ≤ cs.length → PutL cs off vs (cs.take off ++ vs ++ cs.drop (off + vs.length))
  | 0, cs, h => by
    have key : ∀ (vs cs : List α), vs.length ≤ cs.length → PutL cs 0 vs (vs ++ cs.drop vs.length) := by
      intro vs
      induction vs with
      | nil => intro cs h; exact .done
      | cons v vs ih =>
        intro cs h
        cases cs with
        | nil => simp at h
        | cons c cs => exact .put (ih cs (by simpa using h))
    simpa using key vs cs (by simpa using h)
  | off + 1, cs, h => by
    cases cs with
    | nil => simp at h
    | cons c cs =>
      have := putL_at (vs := vs) off cs (by simp at h; omega)
      have e : (c :: cs).take (off + 1) ++ vs ++ (c :: cs).drop (off + 1 + vs.length) = c :: (cs.take off ++ vs ++ cs.drop (off + vs.length)) := by
        rw [List.take_succ_cons, show off + 1 + vs.length = (off + vs.length) + 1 by omega, List.drop_succ_cons]; rfl
      rw [e]
      exact .skip this
theorem Fulls.built {s : Nat} : ∀ {vs : List (Nat × Value)} {k : Nat} {es zs : List Value}, Fulls s k vs es → zs.length = (k + vs.length) * s → Built (fun i => some (i * s, s)) zs vs (zs.take (k * s) ++ es) ∧ es.length = vs.length * s
  | [], k, es, zs, h, hz => by
    cases h
    rw [List.append_nil, List.take_of_length_le (by rw [hz]; simp)]
    exact ⟨.nil, by simp⟩
  | (i, v) :: r, k, ds, zs, h, hz => by
    cases h with
    | cons hc hl hr ha =>
      rename_i cs es
      have hz' : zs.length = i * s + s + r.length * s := by rw [hz, List.length_cons]; simp [Nat.add_mul]; omega
      have hp := putL_at (vs := cs) (i * s) zs (by rw [hz', hl]; omega)
      have hln : (zs.take (i * s) ++ cs ++ zs.drop (i * s + cs.length)).length = (i + 1 + r.length) * s := by
        rw [List.length_append, List.length_append, List.length_take, List.length_drop, hz', hl]; simp [Nat.add_mul]; omega
      obtain ⟨h1, h2⟩ := Fulls.built hr hln
      have e : (zs.take (i * s) ++ cs ++ zs.drop (i * s + cs.length)).take ((i + 1) * s) = zs.take (i * s) ++ cs := by
        rw [List.take_append_of_le_length (by rw [List.length_append, List.length_take, hz', hl]; simp [Nat.add_mul]; omega), List.take_of_length_le]
        rw [List.length_append, List.length_take, hz', hl]; simp [Nat.add_mul]; omega
      rw [e] at h1
      rw [ha.spec]
      refine ⟨.cons (off := i * s) (s := s) rfl hc hl hp (by rw [← List.append_assoc]; exact h1), ?_⟩
      rw [List.length_append, hl, h2, List.length_cons, Nat.succ_mul]; omega
theorem oBuildSliceF {len : Nat} {ps : Array (Nat × Operand)} {vs : List (Nat × Value)} {cs : List Value} {e : TypeId} {s : Nat} {zv : Value} (hx : Parts E ps.toList vs) (ht : elemT c.P t = some (e, s)) (hz : ((c.P.info? e).map (·.zero)) = some (some zv))
    (hsm : Nat.ble (len * s) 16777216 = true) (h0 : Nat.beq (len * s) 0 = false) (hv : vs.length = len) (hf : Fulls s 0 vs cs)
    (h : ∀ b, O M.toMd rest ((d, .slice (some ⟨b, 0, none⟩) len len) :: E) D (blk b e cs :: H)) (hN : Nat.blt d c.N = true := by rfl) : O M.toMd (⟨some d, .buildSlice t len ps, ty, pos, af, none⟩ :: rest) E D H := by
  subst hv
  have hb := (hf.built (zs := ((Array.range (vs.length * s)).map (zv.cells[· % zv.cells.size]!)).toList) (by simp)).1
  rw [Nat.zero_mul, List.take_zero, List.nil_append] at hb
  exact oBuildSlice hx ht hz hsm h0 rfl hb h hN
def Src (kd : Kd α) (W w : World) (A : Option Addr) (ys : List α) : Prop := (0 < ys.length → ∃ ad, A = some ad) ∧ ∀ ad, A = some ad → ∃ news, Cat kd W ys news ∧ ∀ j u, news[j]? = some u → w.cell? (ad.add j) = some u
theorem cat_of_cells {ad : Addr} : ∀ {ys : List α} (n : Nat), (∀ j x, ys[j]? = some x → ∃ cs, kd.K W x cs ∧ ∀ i u, cs[i]? = some u → w.cell? (ad.add ((n + j) * kd.sz + i)) = some u) → ∃ news, Cat kd W ys news ∧ ∀ j u, news[j]? = some u → w.cell? (ad.add (n * kd.sz + j)) = some u
  | [], n, _ => ⟨[], rfl, fun j u h => by simp at h⟩
  | x :: ys, n, h => by
    obtain ⟨a, hK, ha⟩ := h 0 x rfl
    obtain ⟨news, h1, h2⟩ := cat_of_cells (ad := ad) (ys := ys) (n + 1) (fun j y hj => by
      obtain ⟨cs, k1, k2⟩ := h (j + 1) y (by simpa using hj)
      exact ⟨cs, k1, fun i u hu => by rw [show n + 1 + j = n + (j + 1) by omega]; exact k2 i u hu⟩)
    refine ⟨a ++ news, ⟨a, news, rfl, hK, h1⟩, fun j u hj => ?_⟩
    have hl := kd.K_len hK
    rcases Nat.lt_or_ge j a.length with hj' | hj'
    · rw [List.getElem?_append_left hj'] at hj
      exact ha j u hj
    · rw [List.getElem?_append_right hj'] at hj
      have := h2 _ u hj
      rwa [show (n + 1) * kd.sz + (j - a.length) = n * kd.sz + j by rw [Nat.succ_mul]; omega] at this
theorem src_C (hC : kd.C W A xs) (g : Grow W w) : Src kd W w A xs := by
  refine ⟨fun h0 => ?_, ?_⟩
  · obtain ⟨ad, e, _⟩ := hC.2 h0; exact ⟨ad, e⟩
  · rintro ad rfl
    by_cases h0 : 0 < xs.length
    · obtain ⟨ad', e, h⟩ := hC.2 h0
      injection e with e
      subst e
      obtain ⟨news, h1, h2⟩ := cat_of_cells (W := W) (w := w) (ad := ad) (ys := xs) (kd := kd) 0 (fun j x hj => by
        obtain ⟨cs, k1, k2⟩ := h j x hj
        exact ⟨cs, k1, fun i u hu => by rw [Nat.zero_add]; exact g _ _ (k2 i u hu)⟩)
      exact ⟨news, h1, fun j u hj => by have := h2 j u hj; rwa [Nat.zero_mul, Nat.zero_add] at this⟩
    · have : xs = [] := List.eq_nil_of_length_eq_zero (by omega)
      subst this
      exact ⟨[], rfl, fun j u hj => by simp at hj⟩
theorem src_row {e : TypeId} {n cp : Nat} (h : (row kd W e (.slice A n cp) xs).q w) : Src kd W w A xs := by
  obtain ⟨cs, ho, hr⟩ := h
  refine ⟨fun h0 => ?_, ?_⟩
  · obtain ⟨hl, ho⟩ := ho
    rcases ho with ⟨e1, e2⟩ | ⟨b, cap, cur, e1, _⟩
    · omega
    · injection e1 with e1; exact ⟨_, e1⟩
  · rintro ad rfl
    refine ⟨cs, hr, fun j u hj => ?_⟩
    have ho' := ho
    obtain ⟨hl, ho⟩ := ho
    rcases ho with ⟨e1, e2⟩ | ⟨b, cap, cur, e1, _⟩
    · injection e1 with e1; cases e1
    · injection e1 with e1
      injection e1 with e1
      subst e1
      exact ho'.cells (g := b) rfl j u hj
theorem oAppA {e : TypeId} {zv : Value} {s by_ m cp : Nat} {ys : List α} (hx : E.op x = some v) (hy : E.op y = some (.slice A m cp)) (ht : elemI c.P t = some (e, zv, s, by_)) (hsz : kd.sz = s)
    (hp : Pick H (row kd W e v xs) H') (hm : ys.length = m) (hsrc : ∀ w, St c.B H w → Src kd W w A ys) (hl : xs.length + m ≤ 1000000000) (hby : Nat.ble by_ 140000 = true)
    (h : ∀ A' cp', xs.length + m ≤ cp' → O M.toMd rest ((d, .slice A' (xs.length + m) cp') :: E) D (row kd W e (.slice A' (xs.length + m) cp') (xs ++ ys) :: H')) (hN : Nat.blt d c.N = true := by rfl) :
    O M.toMd (⟨some d, .call { callee := .builtin .append, args := #[x, y], argTypes := #[t, t] }, ty, pos, af, none⟩ :: rest) E D H :=
  oEff rfl hN fun a w ha hw => by
    have hb2 : by_ ≤ 140000 := Nat.le_of_ble_eq_true hby
    have hml : maxLen = 9223372036854775807 := rfl
    subst hsz
    obtain ⟨ht1, i0, hi, hz0, hz1, hz2, hzs, hsp⟩ := elemI_spec ht
    obtain ⟨cs, ho, hr⟩ : (row kd W e v xs).q w := hw.get hp
    have hlb : (xs.length + m) * by_ ≤ 140737488355328 := Nat.le_trans (Nat.mul_le_mul hl hb2) (by decide)
    obtain ⟨hs1, hs2⟩ := hsrc w hw
    cases A with
    | none =>
      have hm0 : ys = [] := by
        cases ys with
        | nil => rfl
        | cons y ys => obtain ⟨_, h⟩ := hs1 (by simp); cases h
      subst hm0
      simp only [List.length_nil] at hm
      subst hm
      obtain ⟨A', n', cp', rfl, e1, e2⟩ : ∃ A' n' cp', v = .slice A' n' cp' ∧ n' = xs.length ∧ n' ≤ cp' := by
        obtain ⟨hl, ho⟩ := ho
        rcases ho with ⟨rfl, e2⟩ | ⟨b, cap, cur, rfl, _, hh, h1, _⟩
        · exact ⟨_, _, _, rfl, e2.symm, Nat.le_refl _⟩
        · exact ⟨_, _, _, rfl, rfl, h1⟩
      subst e1
      refine ⟨.slice A' (xs.length + 0) cp', w, _, ?_, ?_, h A' cp' (by omega)⟩
      · have hrun : (Builtin.append_ #[t, t] ty #[.slice A' xs.length cp', .slice none 0 cp]).run c.P w = .ok (.slice A' (xs.length + 0) cp') w := by
          cases A' <;> simp [Builtin.append_, run_underlying ht1, sizeOf, typeInfo, hi, Builtin.lenOf, Builtin.firstCells, loadCells, loadCellsFrom, e2, storeCells]
        simp [execOp, resolve, invoke, builtin, ha.op hx, ha.op hy, hrun]
      · refine hw.upd' hp (Chg.refl _ _) ?_ (fun k hk => .inl hk)
        rw [List.append_nil, Nat.add_zero]
        exact ⟨cs, ho, hr⟩
    | some ad =>
      obtain ⟨news, hcat, hnews⟩ := hs2 ad rfl
      obtain ⟨v', w', hrun, hown, hgr, hnil, hat⟩ := run_append_own_at (P := c.P) (w := w) 0 t ty e i0 zv kd.sz by_ ht1 hi hz0 hz1 hz2 hzs hsp v xs.length cs ho ad m cp news (by rw [hcat.len, hm]) hnews hcat.ones (by omega) hlb (Nat.zero_le _)
      obtain ⟨A', cp', rfl, hcp⟩ : ∃ A' cp', v' = .slice A' (xs.length + m) cp' ∧ xs.length + m ≤ cp' := by
        obtain ⟨_, ho2⟩ := hown
        rcases ho2 with ⟨rfl, e2⟩ | ⟨g, cap, cur, rfl, _, _, h1, _⟩
        · exact ⟨_, _, by rw [e2], by omega⟩
        · exact ⟨_, _, rfl, h1⟩
      refine ⟨_, w', _, ?_, ?_, h A' cp' hcp⟩
      · simp [execOp, resolve, invoke, builtin, ha.op hx, ha.op hy, hrun]
      · refine hw.upd' hp ((Chg.of_grown hgr).mono (fun k hk => hk.symm)) ⟨cs ++ news, by rw [List.length_append, hm]; exact hown, hr.app hcat⟩ ?_
        intro k hk
        have hk : (Value.slice A' (xs.length + m) cp').ownBlock = some k := hk
        rcases hat with h1 | h1
        · exact .inl (show v.ownBlock = some k from h1 ▸ hk)
        · right; rw [h1] at hk; have := Option.some.inj hk; omega
theorem K_at {x : α} {cs : List Value} (h : kd.K W x cs) : kd.K (Base.at W).e x cs := by rw [Base.at_e]; exact h
end
end Go.Proofs.YtogaiijhicfoaaaGreatK


/-
  What is frozen for the rest of a body; bundles of rows (a slice of slices of one's own).
-/
namespace Go.Proofs.YtogaiijhicfoaaaGreatK
set_option linter.unusedVariables false
set_option linter.unusedSimpArgs false
open Go.RowKit
@[reducible] def Cx.base (c : Cx) (B' : Base) : Cx := ⟨c.P, c.F, c.N, B', c.fn, c.dp, c.call⟩
section
variable {c : Cx} {Q : Post} {x : Code} {E : Env} {D : List Deferred} {H H' Ψ Φ : List Res}
theorem wFreeze (Ψ : List Res) (hs : Split H Ψ Φ) (h : ∀ B', Grow c.B.e B'.e → (∀ r Φ'', Pick Ψ r Φ'' → r.q B'.e) → W (c.base B') x (fun e E D H' => Q e E D (H' ++ Ψ)) E D Φ) : W c x Q E D H := by
  intro a w ha hw
  have hS : St c.B (Φ ++ Ψ) w := (hw.perm hs.perm).swap
  have hq : ∀ r Φ'', Pick Ψ r Φ'' → r.q (c.B.call w Φ).e := fun r Φ'' hp => by
    obtain ⟨h1, h2⟩ := (Sep.all _ _ _).1 hS.sep
    refine r.st w _ (h1 r (List.mem_append_right _ hp.mem)).1 (fun k hk => ?_)
    rw [Base.e_heap, if_neg]
    · rfl
    · rintro ⟨s, hs, hsk⟩
      exact (List.pairwise_append.1 h2).2.2 s hs r hp.mem k hsk hk
  refine wpIn_mono (h (c.B.call w Φ) hS.egrow hq a w ha hS.lend) ?_
  rintro e a' w' ⟨E', D', H', h1, h2, h3, h4⟩
  exact ⟨E', D', H' ++ Ψ, h1, hS.give h2, h3, h4⟩
end
section
variable {B : Base} {Φ Φ' Ψ : List Res} {r r' : Res} {i : Nat}
theorem perm_at {α : Type} {l : List α} {i : Nat} {r : α} (h : l[i]? = some r) : (r :: l.eraseIdx i).Perm l := by
  induction l generalizing i with
  | nil => simp at h
  | cons x l ih =>
    cases i with
    | zero => simp at h; subst h; exact List.Perm.refl _
    | succ i => exact (List.Perm.swap _ _ _).trans ((ih (by simpa using h)).cons _)
theorem bun_focus (h : Ψ[i]? = some r) : Leads B (bun Ψ :: Φ) (r :: bun (Ψ.eraseIdx i) :: Φ) := fun w hS => by
  have h1 := hS.unpack
  have h2 : St B (Ψ.eraseIdx i ++ (r :: Φ)) w := h1.perm (((perm_at h).symm.append_right Φ).trans List.perm_middle.symm)
  exact h2.pack.perm (List.Perm.swap _ _ _)
theorem bun_back (hi : i < Ψ.length) : Leads B (r' :: bun (Ψ.eraseIdx i) :: Φ) (bun (Ψ.set i r') :: Φ) := fun w hS => by
  have h1 := (hS.perm (List.Perm.swap _ _ _)).unpack
  refine St.pack (h1.perm (List.perm_middle.trans ?_))
  have h2 : (Ψ.set i r')[i]? = some r' := by simp [hi]
  have := perm_at h2
  rw [List.eraseIdx_set_eq] at this
  exact this.append_right Φ
end
abbrev Hdr := Option Addr × Nat × Nat
abbrev hV (h : Hdr) : Value := .slice h.1 h.2.1 h.2.2
def kHdr : Kd Hdr := Kd.scalar hV (fun _ => rfl)
section
variable {α : Type} {kd : Kd α} {W : World} {ei eo : TypeId} {hs : List Hdr} {xss : List (List α)} {B : Base} {Φ Φ' Φ'' : List Res} {w : World}
def rws (kd : Kd α) (W : World) (ei : TypeId) (hs : List Hdr) (xss : List (List α)) : List Res := List.zipWith (fun h xs => row kd W ei (hV h) xs) hs xss
theorem rws_at {i : Nat} {u : Hdr} {xs : List α} (hu : hs[i]? = some u) (hx : xss[i]? = some xs) : (rws kd W ei hs xss)[i]? = some (row kd W ei (hV u) xs) := by
  unfold rws; rw [List.getElem?_zipWith, hu, hx]
theorem rws_set {i : Nat} {u : Hdr} {xs : List α} : (rws kd W ei hs xss).set i (row kd W ei (hV u) xs) = rws kd W ei (hs.set i u) (xss.set i xs) := by
  unfold rws
  induction hs generalizing xss i with
  | nil => simp
  | cons h hs ih =>
    cases xss with
    | nil => simp
    | cons x xss =>
      cases i with
      | zero => rfl
      | succ i => simp only [List.zipWith_cons_cons, List.set_cons_succ]; rw [ih]
theorem rws_new (n : Nat) : Leads B Φ (bun (rws kd W ei (List.replicate n (none, 0, 0)) (List.replicate n [])) :: Φ) := fun w h => by
  have hmem : ∀ r ∈ rws kd W ei (List.replicate n (none, 0, 0)) (List.replicate n []), r = row kd W ei (.slice none 0 0) [] := by
    intro r hr
    unfold rws at hr
    rw [List.zipWith_replicate, Nat.min_self] at hr
    exact (List.mem_replicate.1 hr).2
  have hfp : ∀ k, ¬ (row kd W ei (.slice none 0 0) []).fp k := fun k hk => by simp [row, Value.ownBlock] at hk
  refine h.add (Chg.refl _ _) ⟨fun r hr => ?_, ?_⟩ (fun k hk => ?_)
  · rw [hmem r hr]; exact ⟨[], World.ownsRow_nil _ _ _ _, rfl⟩
  · refine List.pairwise_of_forall_mem_list (fun r hr s hs k hk => ?_)
    rw [hmem r hr] at hk; exact (hfp k hk).elim
  · obtain ⟨r, hr, hk⟩ := hk
    rw [hmem r hr] at hk; exact (hfp k hk).elim
theorem Pick.leads {r r' : Res} (hp : Pick Φ r Φ') (h : ∀ Φ, Leads B (r :: Φ) (r' :: Φ)) : Leads B Φ (r' :: Φ') := fun w hS => h _ w (hS.perm hp.perm)
theorem grid_C {A : Option Addr} {n cp : Nat} {W0 : World} (h1 : (row kHdr W0 eo (.slice A n cp) hs).q w) (h2 : (bun (rws kd W ei hs xss)).q w) (hl : hs.length = xss.length) (g : Grow W w) : (Kd.slice kd).C w A xss := by
  have hn : ∀ w' x cs, kHdr.K W0 x cs → kHdr.K w' x cs := fun _ _ _ h => h
  obtain ⟨cs, ho, hr⟩ := h1
  have hr' : Cat kHdr w hs cs := by
    clear ho hl h2
    induction hs generalizing cs with
    | nil => exact hr
    | cons x xs ih => obtain ⟨a, rest, e, hK, hR⟩ := hr; exact ⟨a, rest, e, hK, ih rest hR⟩
  obtain ⟨e1, e2, ⟨hbig, hC⟩, _⟩ := row_C (kd := kHdr) (W := w) (e := eo) (n := n) (cp := cp) (A := A) ⟨cs, ho, hr'⟩ (Grow.refl _)
  refine ⟨by omega, fun h0 => ?_⟩
  obtain ⟨ad, rfl, hc⟩ := hC (by omega)
  refine ⟨ad, rfl, fun j xs hj => ?_⟩
  have hjl : j < hs.length := by rw [hl]; exact (List.getElem?_eq_some_iff.1 hj).1
  obtain ⟨c, hK, hcell⟩ := hc j _ (List.getElem?_eq_getElem hjl)
  have hq := h2.1 _ (List.mem_of_getElem? (rws_at (kd := kd) (W := W) (ei := ei) (List.getElem?_eq_getElem hjl) hj))
  obtain ⟨f1, f2, f3, _⟩ := row_C hq g
  refine ⟨_, ⟨hs[j].1, hs[j].2.2, rfl, by omega, f3⟩, fun i u hi => ?_⟩
  refine hcell i u ?_
  rw [show c = [hV hs[j]] from hK]
  rw [← f1] at hi
  exact hi
end
section
variable {c : Cx} {N : Md c} {M : Me c} {rest : List Oper} {E : Env} {D : List Deferred} {H H' H'' : List Res}
variable {α : Type} {kd : Kd α} {W : World} {ei : TypeId} {hs : List Hdr} {xss : List (List α)}
theorem oFocus {i : Nat} {u : Hdr} {xs : List α} (hp : Pick H (bun (rws kd W ei hs xss)) H') (hu : hs[i]? = some u) (hx : xss[i]? = some xs) (h : O N rest E D (row kd W ei (hV u) xs :: bun ((rws kd W ei hs xss).eraseIdx i) :: H')) : O N rest E D H :=
  oConv (fun w hS => bun_focus (rws_at hu hx) w (hS.perm hp.perm)) h
theorem oBack {i : Nat} {u : Hdr} {xs : List α} (hp : Pick H (row kd W ei (hV u) xs) H') (hp' : Pick H' (bun ((rws kd W ei hs xss).eraseIdx i)) H'') (hi : i < hs.length) (hl : hs.length = xss.length) (h : O N rest E D (bun (rws kd W ei (hs.set i u) (xss.set i xs)) :: H'')) : O N rest E D H := by
  refine oConv (fun w hS => ?_) h
  rw [← rws_set]
  exact bun_back (by unfold rws; rw [List.length_zipWith]; omega) w (hS.perm (hp.perm.trans (hp'.perm.cons _)))
end
end Go.Proofs.YtogaiijhicfoaaaGreatK


/-
  The builtin copy; more on bundles.
-/
namespace Go.Proofs.YtogaiijhicfoaaaGreatK
set_option linter.unusedVariables false
set_option linter.unusedSimpArgs false
open Go.RowKit
def setL {α : Type} : List α → Nat → List α → List α
  | l, _, [] => l
  | l, o, v :: r => setL (l.set o v) (o + 1) r
theorem setL_eq {α : Type} : ∀ (vs l : List α) (o : Nat), o + vs.length ≤ l.length → setL l o vs = l.take o ++ vs ++ l.drop (o + vs.length)
  | [], l, o, h => by simp [setL]
  | v :: r, l, o, h => by
    rw [setL, setL_eq r _ _ (by simpa [Nat.add_assoc, Nat.add_comm 1] using h)]
    have ho : o < l.length := by simp at h; omega
    have h1 : (List.take (o + 1) l).set o v = List.take o l ++ [v] := by
      apply List.ext_getElem?
      intro i
      have e1 : (List.take o l).length = o := by rw [List.length_take]; omega
      have e2 : (List.take (o + 1) l).length = o + 1 := by rw [List.length_take]; omega
      rw [List.getElem?_set, List.getElem?_append, e1, e2]
      by_cases e : o = i
      · subst e; simp
      · rw [if_neg e]
        by_cases e2 : i < o
        · rw [if_pos e2, List.getElem?_take, List.getElem?_take, if_pos (by omega), if_pos e2]
        · rw [if_neg e2, List.getElem?_take, if_neg (by omega), List.getElem?_eq_none (by simp; omega)]
    rw [List.take_set, h1, List.drop_set_of_lt (by omega)]
    simp [Nat.add_assoc, Nat.add_comm 1]
theorem setCells_heap {b : Nat} {t : TypeId} : ∀ (vs : List Value) (o : Nat) (w : World) (l : List Value), w.heap[b]? = some (.cells l.toArray t (0, 0)) → (w.setCells b o vs).heap[b]? = some (.cells (setL l o vs).toArray t (0, 0))
  | [], _, _, _, h => h
  | v :: r, o, w, l, h => setCells_heap r (o + 1) _ _ (set_heap h)
theorem setCells_chg {b : Nat} : ∀ (vs : List Value) (o : Nat) (w : World), Chg w (w.setCells b o vs) (fun k => k = b)
  | [], _, w => Chg.refl _ _
  | v :: r, o, w => (Chg.setCell w ⟨b, o, none⟩ v).trans (setCells_chg r (o + 1) _)
section
variable {c : Cx} {N : Md c} {M : Me c} {d : Nat} {ty : TypeId} {pos : String} {af : Array Edge} {rest : List Oper} {E : Env} {D : List Deferred} {H H' H'' : List Res} {v : Value} {x y z : Operand} {k : IntKind} {t t' : TypeId}
end
section
variable {α : Type} {kd : Kd α} {W : World} {ei : TypeId} {hs : List Hdr} {xss : List (List α)} {B : Base} {Φ Φ' Φ'' : List Res}
theorem bun_snoc {Ψ : List Res} {r : Res} (h1 : Pick Φ r Φ') (h2 : Pick Φ' (bun Ψ) Φ'') : Leads B Φ (bun (Ψ ++ [r]) :: Φ'') := fun w h => by
  have h3 : St B (bun Ψ :: r :: Φ'') w := h.perm (h1.perm.trans ((h2.perm.cons _).trans (List.Perm.swap _ _ _)))
  have h4 := h3.unpack
  exact St.pack (Ψ := Ψ ++ [r]) (by rw [List.append_assoc]; exact h4)
theorem rws_snoc {u : Hdr} {l : List α} (hl : hs.length = xss.length) : rws kd W ei (hs ++ [u]) (xss ++ [l]) = rws kd W ei hs xss ++ [row kd W ei (hV u) l] := by
  unfold rws; rw [List.zipWith_append hl]; rfl
theorem bun_nil : Leads B Φ (bun [] :: Φ) := fun w h => St.pack (Ψ := []) h
end
section
variable {c : Cx} {N : Md c} {rest : List Oper} {E : Env} {D : List Deferred} {H H' H'' : List Res} {α : Type} {kd : Kd α} {W : World} {ei : TypeId} {hs : List Hdr} {xss : List (List α)}
theorem oSnoc {u : Hdr} {l : List α} (h1 : Pick H (row kd W ei (hV u) l) H') (h2 : Pick H' (bun (rws kd W ei hs xss)) H'') (hl : hs.length = xss.length) (h : O N rest E D (bun (rws kd W ei (hs ++ [u]) (xss ++ [l])) :: H'')) : O N rest E D H :=
  oConv (bun_snoc h1 h2) (by rw [← rws_snoc hl]; exact h)
end
end Go.Proofs.YtogaiijhicfoaaaGreatK


/-
  The library's slices.Sort and slices.Compact at []int, as the walk meets them: out of the kit's contracts.
-/
namespace Go.Proofs.YtogaiijhicfoaaaGreatK
set_option linter.unusedVariables false
set_option linter.unusedSimpArgs false
open Go.RowKit Go.Shelf Go.Sort
section
variable {B : Base} {w : World} {P : Program} {ρ : Ren} {W : World} {e : TypeId} {A : Option Addr} {n cp : Nat} {zs : List Int}
theorem cat_scalar {α : Type} {enc : α → Value} {h1 : ∀ x, (enc x).oneCell' = true} : ∀ {xs : List α} {cs : List Value}, Cat (Kd.scalar enc h1) W xs cs ↔ cs = xs.map enc
  | [], cs => Iff.rfl
  | x :: xs, cs => by
    constructor
    · rintro ⟨a, rest, e, hK, hR⟩
      rw [e, show a = [enc x] from hK, cat_scalar.1 hR]; rfl
    · intro h
      exact ⟨[enc x], xs.map enc, h, rfl, cat_scalar.2 rfl⟩
theorem row_at {α : Type} {enc : α → Value} {h1 : ∀ x, (enc x).oneCell' = true} {xs : List α} (h : (row (Kd.scalar enc h1) W e (.slice A n cp) xs).q w) (h0 : 0 < n) :
    n = xs.length ∧ ∃ b cur, A = some ⟨b, 0, none⟩ ∧ w.heap[b]? = some (.cells cur e (0, 0)) ∧ n ≤ cp ∧ cp ≤ maxLen ∧ cur.size = cp ∧ cur.toList.take n = xs.map enc := by
  obtain ⟨cs, ⟨hl, ho⟩, hr⟩ := h
  have hcs := cat_scalar.1 hr
  rcases ho with ⟨e1, e2⟩ | ⟨b, cap, cur, e1, _, hh, k1, k2, k3, k4⟩
  · injection e1 with e1 e3 e4; omega
  · injection e1 with e1 e3 e4
    subst e1 e3 e4
    have e5 : (Kd.scalar enc h1).sz = 1 := rfl
    rw [e5, Nat.mul_one] at k3 k4
    exact ⟨rfl, b, cur, rfl, hh, k1, k2, k3, by rw [k4, hcs]⟩
theorem row_mk {α : Type} {enc : α → Value} {h1 : ∀ x, (enc x).oneCell' = true} {xs : List α} {b : Nat} {cur : Array Value} (hh : w.heap[b]? = some (.cells cur e (0, 0))) (hn : xs.length ≤ cp) (hm : cp ≤ maxLen) (hs : cur.size = cp) (ht : cur.toList.take xs.length = xs.map enc) :
    (row (Kd.scalar enc h1) W e (.slice (some ⟨b, 0, none⟩) xs.length cp) xs).q w := by
  have e5 : (Kd.scalar enc h1).sz = 1 := rfl
  exact ⟨xs.map enc, ⟨by rw [e5, List.length_map, Nat.mul_one], .inr ⟨b, cp, cur, rfl, Nat.zero_le _, hh, hn, hm, by rw [e5, Nat.mul_one]; exact hs, by rw [e5, Nat.mul_one]; exact ht⟩⟩, cat_scalar.2 rfl⟩
theorem row_holds {zs : List Int} {b : Nat} {cur : Array Value} {m : Nat} (hh : w.heap[b]? = some (.cells cur e (0, 0))) (ht : cur.toList.take m = zs.map (Value.int .i64)) : Holds (Value.int .i64) w b 0 zs.toArray := by
  intro j hj
  have hj' : j < zs.length := by simpa using hj
  have h1 : (cur.toList.take m)[j]? = some (.int .i64 zs[j]) := by rw [ht]; simp [hj']
  rw [List.getElem?_take] at h1
  split at h1
  · constructor
    · unfold World.cell?
      rw [hh]
      simp only [Option.isSome_none, Bool.false_eq_true, if_false, Nat.zero_add]
      rw [show (zs.toArray)[j]! = zs[j] by simp [hj']]
      simpa using h1
    · unfold World.frozen?
      rw [hh]; simp
  · cases h1
theorem put_heap {b : Nat} {cur : Array Value} {q : Nat} {os : Array Obj} {zs : List Int} (hh : w.heap[b]? = some (.cells cur e (0, 0))) :
    (grow (putRow (Value.int .i64) (Sort.ahead w q) b 0 zs.toArray) os).heap[b]? = some (.cells (putCells (Value.int .i64) 0 zs.toArray cur) e (0, 0)) := by
  have hb : b < w.heap.size := (Array.getElem?_eq_some_iff.1 hh).1
  show ((w.heap.modify b _) ++ os)[b]? = _
  rw [Array.getElem?_append_left (by simpa using hb), Array.getElem?_modify, if_pos rfl, hh]
  rfl
theorem put_chg {b : Nat} {q : Nat} {os : Array Obj} {zs : List Int} {S : Nat → Prop} (hS : S b) : Chg w (grow (putRow (Value.int .i64) (Sort.ahead w q) b 0 zs.toArray) os) S := by
  refine ⟨rfl, rfl, rfl, ?_, fun k hk hn => ?_⟩
  · show w.heap.size ≤ ((w.heap.modify b _) ++ os).size
    rw [Array.size_append, Array.size_modify]; omega
  · show ((w.heap.modify b _) ++ os)[k]? = _
    rw [Array.getElem?_append_left (by simpa using hk), Array.getElem?_modify, if_neg (by rintro rfl; exact hn hS)]
theorem put_take {cur : Array Value} {zs : List Int} (h : zs.length ≤ cur.size) : (putCells (Value.int .i64) 0 zs.toArray cur).toList.take zs.length = zs.map (Value.int .i64) := by
  apply List.ext_getElem?
  intro k
  rw [List.getElem?_take]
  split
  · rename_i hk
    have hk' : k < cur.size := by omega
    simp [putCells, hk, hk']
  · rename_i hk
    simp at hk
    simp [hk]
theorem rowI_put {zs zs' : List Int} (hS : St B [row (Kd.int .i64) W e (.slice A n cp) zs] w) (h0 : 0 < n) (hl : zs'.length = zs.length) (q : Nat) (os : Array Obj) :
    ∃ b, A = some ⟨b, 0, none⟩ ∧ St B [row (Kd.int .i64) W e (.slice A n cp) zs'] (grow (putRow (Value.int .i64) (Sort.ahead w q) b 0 zs'.toArray) os) := by
  obtain ⟨e1, b, cur, rfl, hh, k1, k2, k3, k4⟩ := row_at (hS.get .here) h0
  refine ⟨b, rfl, hS.upd' .here (put_chg rfl) ?_ (fun k hk => .inl hk)⟩
  subst e1
  rw [← hl]
  exact row_mk (put_heap hh) (by omega) k2 (by simp [putCells, k3]) (put_take (by omega))
def leI (x y : Int) : Bool := decide (x ≤ y)
theorem sort_int (Ly : Lays.n189 P ρ) (hS : St B [row (Kd.int .i64) W e (.slice A n cp) zs] w) (hz : zs.length ≤ 1000000000) :
    CallsIn Fence.wide 0 P (ρ.f 189) #[.slice A n cp] w (Ret B (fun _ : Unit => True) (fun _ => .tuple #[]) (fun _ => [row (Kd.int .i64) W e (.slice A n cp) (zs.mergeSort leI)])) := by
  refine callsIn_wide.2 ?_
  rcases Nat.eq_zero_or_pos n with rfl | h0
  · have hn : 0 = zs.length := (row_len (hS.get .here)).1
    have : zs = [] := List.eq_nil_of_length_eq_zero hn.symm
    subst this
    refine (Any.slices_Sort_int_none Ly A cp w).mono ?_
    rintro e' w' ⟨rfl, rfl⟩
    exact ⟨(), trivial, rfl, by simpa using hS⟩
  · obtain ⟨e1, b, cur, rfl, hh, k1, k2, k3, k4⟩ := row_at (hS.get .here) h0
    subst e1
    refine (Any.slices_Sort_int Ly b 0 cp zs w (row_holds hh k4) (Array.getElem?_eq_some_iff.1 hh).1 (by omega)).mono ?_
    rintro e' w' ⟨rfl, q, os, rfl⟩
    obtain ⟨b', hb, h⟩ := rowI_put (zs' := zs.mergeSort leI) hS h0 (by simp) q os
    injection hb with hb
    injection hb with hb
    subst hb
    exact ⟨(), trivial, rfl, h⟩
theorem rowI_cut {zs : List Int} {m : Nat} (hS : St B [row (Kd.int .i64) W e (.slice A n cp) zs] w) (hm : m ≤ n) (h0 : 0 < m) : St B [row (Kd.int .i64) W e (.slice A m cp) (zs.take m)] w := by
  obtain ⟨e1, b, cur, rfl, hh, k1, k2, k3, k4⟩ := row_at (hS.get .here) (by omega)
  subst e1
  refine hS.conv .here (fun _ => ?_) (fun k hk => hk)
  have hl : (zs.take m).length = m := by simp; omega
  have := row_mk (enc := Value.int .i64) (h1 := fun _ => rfl) (xs := zs.take m) (W := W) hh (by omega) k2 k3 (by rw [hl, List.map_take, ← k4, List.take_take, Nat.min_eq_left hm])
  rw [hl] at this
  exact this
theorem compact_int (Ly : Lays2.n20 P ρ) (hS : St B [row (Kd.int .i64) W e (.slice A n cp) zs] w) (hz : zs.length ≤ 1000000000) :
    CallsIn Fence.wide 0 P (ρ.f 20) #[.slice A n cp] w (Ret B (fun _ : Unit => True) (fun _ => .slice A (Lib.compact zs).length cp) (fun _ => [row (Kd.int .i64) W e (.slice A (Lib.compact zs).length cp) (Lib.compact zs)])) := by
  refine callsIn_wide.2 ?_
  rcases Nat.eq_zero_or_pos n with rfl | h0
  · have hn : 0 = zs.length := (row_len (hS.get .here)).1
    have : zs = [] := List.eq_nil_of_length_eq_zero hn.symm
    subst this
    refine (Any.slices_Compact_int_empty Ly A cp w).mono ?_
    rintro e' w' ⟨rfl, rfl⟩
    exact ⟨(), trivial, rfl, hS⟩
  · obtain ⟨e1, b, cur, rfl, hh, k1, k2, k3, k4⟩ := row_at (hS.get .here) h0
    subst e1
    refine (Any.slices_Compact_int Ly b 0 cp zs w (row_holds hh k4) (by omega) (by omega)).mono ?_
    rintro e' w' ⟨rfl, q, rfl⟩
    have hle : (Lib.compact zs).length ≤ zs.length := by
      unfold Lib.compact Lib.compactUpTo
      rw [List.length_map]
      exact Nat.le_trans (List.length_filter_le _ _) (by simp)
    obtain ⟨b', hb, h⟩ := rowI_put (zs' := Lib.compact zs ++ List.replicate (zs.length - (Lib.compact zs).length) 0) hS h0 (by simp; omega) q #[]
    injection hb with hb
    injection hb with hb
    subst hb
    rw [grow_empty] at h
    have hpos : 0 < (Lib.compact zs).length := by
      cases zs with
      | nil => simp at h0
      | cons z zs =>
        unfold Lib.compact
        rw [List.length_cons]
        have key : ∀ m, 0 < (Lib.compactUpTo (z :: zs).toArray (m + 1)).length := by
          intro m
          induction m with
          | zero => rw [Lib.compactUpTo_succ, Lib.keeps_lt_one _ 0 (by omega)]; simp
          | succ m ih => rw [Lib.compactUpTo_succ, List.length_append]; omega
        exact key _
    have h2 := rowI_cut h hle hpos
    rw [List.take_append_of_le_length (Nat.le_refl _), List.take_length] at h2
    exact ⟨(), trivial, rfl, h2⟩
theorem compactTo_spec {zs : List Int} (hs : zs.Pairwise (· ≤ ·)) : ∀ m, m ≤ zs.length → (Lib.compactUpTo zs.toArray m).Pairwise (· < ·) ∧ (∀ x, x ∈ Lib.compactUpTo zs.toArray m ↔ ∃ j, j < m ∧ zs[j]? = some x)
  | 0, _ => by refine ⟨by simp [Lib.compactUpTo], fun x => by simp [Lib.compactUpTo]⟩
  | m + 1, hm => by
    obtain ⟨h1, h2⟩ := compactTo_spec hs m (by omega)
    have hml : m < zs.length := by omega
    have hd : ∀ j, j < zs.length → (zs.toArray)[j]! = zs[j]! := fun j hj => by simp [hj]
    have hg : zs[m]? = some zs[m] := List.getElem?_eq_getElem hml
    have hmono : ∀ i j (hi : i < zs.length) (hj : j < zs.length), i ≤ j → zs[i] ≤ zs[j] := fun i j hi hj hij => by
      rcases Nat.lt_or_ge i j with h | h
      · exact List.pairwise_iff_getElem.1 hs i j hi hj h
      · have : i = j := by omega
        subst this; exact Int.le_refl _
    rw [Lib.compactUpTo_succ]
    have hdm : (zs.toArray)[m]! = zs[m] := by simp [hml]
    cases hk : Lib.keeps zs.toArray m with
    | true =>
      simp only [if_true, hdm]
      refine ⟨List.pairwise_append.2 ⟨h1, by simp, fun x hx y hy => ?_⟩, fun x => ?_⟩
      · obtain ⟨j, hj, hjx⟩ := (h2 x).1 hx
        obtain ⟨hjl, rfl⟩ := List.getElem?_eq_some_iff.1 hjx
        rw [List.mem_singleton.1 hy]
        have hm0 : 0 < m := by omega
        have hne : ¬ zs[m] = zs[m - 1] := fun e => by
          have : Lib.keeps zs.toArray m = false := Lib.keeps_neg hm0 (by rw [hdm, show (zs.toArray)[m - 1]! = zs[m - 1] by simp [show m - 1 < zs.length by omega]]; exact e)
          rw [this] at hk; cases hk
        have a1 := hmono j (m - 1) hjl (by omega) (by omega)
        have a2 := hmono (m - 1) m (by omega) hml (by omega)
        omega
      · rw [List.mem_append, h2, List.mem_singleton]
        constructor
        · rintro (⟨j, hj, hx⟩ | rfl)
          · exact ⟨j, by omega, hx⟩
          · exact ⟨m, by omega, hg⟩
        · rintro ⟨j, hj, hx⟩
          rcases Nat.lt_or_ge j m with h | h
          · exact .inl ⟨j, h, hx⟩
          · have : j = m := by omega
            subst this
            rw [hg] at hx
            exact .inr (Option.some.inj hx).symm
    | false =>
      simp only [Bool.false_eq_true, if_false, List.append_nil]
      refine ⟨h1, fun x => ?_⟩
      rw [h2]
      constructor
      · rintro ⟨j, hj, hx⟩; exact ⟨j, by omega, hx⟩
      · rintro ⟨j, hj, hx⟩
        rcases Nat.lt_or_ge j m with h | h
        · exact ⟨j, h, hx⟩
        · have : j = m := by omega
          subst this
          have hm0 : 0 < j := by
            rcases Nat.eq_zero_or_pos j with h0 | h0
            · subst h0
              rw [Lib.keeps_lt_one _ 0 (by omega)] at hk; cases hk
            · exact h0
          have heq : zs[j] = zs[j - 1] := by
            apply Classical.byContradiction
            intro hne
            have : Lib.keeps zs.toArray j = true := Lib.keeps_pos (by rw [hdm, show (zs.toArray)[j - 1]! = zs[j - 1] by simp [show j - 1 < zs.length by omega]]; exact hne)
            rw [this] at hk; cases hk
          rw [hg] at hx
          refine ⟨j - 1, by omega, ?_⟩
          rw [List.getElem?_eq_getElem (by omega), ← heq]
          exact hx
theorem sorted_spec (zs : List Int) : (Lib.compact (zs.mergeSort leI)).Pairwise (· < ·) ∧ ∀ x, x ∈ Lib.compact (zs.mergeSort leI) ↔ x ∈ zs := by
  have hs : (zs.mergeSort leI).Pairwise (· ≤ ·) := by
    have := List.pairwise_mergeSort (le := leI) (by intro a b c; simp only [leI, decide_eq_true_eq]; omega) (by intro a b; simp only [leI, Bool.or_eq_true, decide_eq_true_eq]; omega) zs
    exact this.imp (fun h => by simpa [leI] using h)
  obtain ⟨h1, h2⟩ := compactTo_spec hs _ (Nat.le_refl _)
  refine ⟨h1, fun x => (h2 x).trans ?_⟩
  rw [← List.mem_mergeSort (le := leI) (l := zs), List.mem_iff_getElem?]
  constructor
  · rintro ⟨j, _, hx⟩; exact ⟨j, hx⟩
  · rintro ⟨j, hx⟩; exact ⟨j, (List.getElem?_eq_some_iff.1 hx).1, hx⟩
theorem rising_eq : ∀ {a b : List Int}, a.Pairwise (· < ·) → b.Pairwise (· < ·) → (∀ x, x ∈ a ↔ x ∈ b) → a = b
  | [], [], _, _, _ => rfl
  | [], y :: b, _, _, h => by have := (h y).2 (by simp); cases this
  | x :: a, [], _, _, h => by have := (h x).1 (by simp); cases this
  | x :: a, y :: b, ha, hb, h => by
    obtain ⟨ha1, ha2⟩ := List.pairwise_cons.1 ha
    obtain ⟨hb1, hb2⟩ := List.pairwise_cons.1 hb
    have hxy : x = y := by
      have h1 := (h x).1 (by simp)
      have h2 := (h y).2 (by simp)
      rcases List.mem_cons.1 h1 with h1 | h1
      · exact h1
      · rcases List.mem_cons.1 h2 with h2 | h2
        · exact h2.symm
        · have := hb1 _ h1; have := ha1 _ h2; omega
    subst hxy
    congr 1
    refine rising_eq ha2 hb2 (fun z => ⟨fun hz => ?_, fun hz => ?_⟩)
    · rcases List.mem_cons.1 ((h z).1 (List.mem_cons_of_mem _ hz)) with e | e
      · have := ha1 _ hz; omega
      · exact e
    · rcases List.mem_cons.1 ((h z).2 (List.mem_cons_of_mem _ hz)) with e | e
      · have := hb1 _ hz; omega
      · exact e
end
end Go.Proofs.YtogaiijhicfoaaaGreatK


/-
  A region that draws its order, with late copies too: the tail is a list of places.
-/
namespace Go.Proofs.YtogaiijhicfoaaaGreatK
set_option linter.unusedVariables false
set_option linter.unusedSimpArgs false
open Go.RowKit
section
variable {P : Program} {ops : Array Oper} {md : Region.Mode} {w : World} {ts : List Nat}
def seqT (md : Region.Mode) (ops : Array Oper) : List Nat → Array Bool → Bool
  | [], listed => (Region.ready md ops listed).isEmpty
  | t :: ts, listed => decide (Region.ready md ops listed = [t]) && seqT md ops ts (listed.setIfInBounds t true)
structure HI (md : Region.Mode) (ops : Array Oper) (ts : List Nat) (listed : Array Bool) : Prop where
  size : listed.size = ops.size
  closed : ∀ j oj, ops[j]? = some oj → listed.getD j false = true → ∀ e ∈ oj.after, Region.binds md e = true → listed.getD e.on false = true
  tail : ∀ t ∈ ts, listed.getD t true = false
theorem HI.set {i : Nat} {listed : Array Bool} (inv : HI md ops ts listed) (hi : i ∈ Region.ready md ops listed) (hin : i ∉ ts) : HI md ops ts (listed.setIfInBounds i true) := by
  obtain ⟨_, oi, hoi, hall⟩ := mem_ready.1 hi
  refine ⟨by simp [inv.size], fun j oj hj hl e he hb => ?_, fun t ht => by rw [getD_set_ne true (by rintro rfl; exact hin ht)]; exact inv.tail t ht⟩
  by_cases hij : i = j
  · subst hij
    have : oj = oi := Option.some.inj (hj.symm.trans hoi)
    subst this
    exact getD_set_true (hall e he hb)
  · rw [getD_set_ne false hij] at hl
    exact getD_set_true (inv.closed j oj hj hl e he hb)
end
section
variable {c : Cx} {Q : Post} {E E' : Env} {D : List Deferred} {H : List Res}
end
end Go.Proofs.YtogaiijhicfoaaaGreatK


/-
  A region that draws its order, in whatever fence (in a round of a range over a function too): what only looks gives values; the tail is a list of places.
-/
namespace Go.Proofs.YtogaiijhicfoaaaGreatK
set_option linter.unusedVariables false
set_option linter.unusedSimpArgs false
open Go.RowKit
section
variable {F : Fence} {m : Nat} {P : Program} {ops : Array Oper} {md : Region.Mode} {w : World} {ts : List Nat}
def plainB (ops : Array Oper) : Bool := ops.all (fun o => plain o.op)
theorem plain_at (h : plainB ops = true) {i : Nat} {o : Oper} (ho : ops[i]? = some o) : plain o.op = true := by
  obtain ⟨hi, he⟩ := Array.getElem?_eq_some_iff.1 ho
  have := Array.all_eq_true.1 h i hi
  rw [he] at this; exact this
theorem wpAnyIn_of_seqT {Q' : Exit → Act → World → Prop} : ∀ (ts : List Nat) (l : List Oper) (listed : Array Bool) (a : Act) (w : World), ts.mapM (fun t => ops[t]?) = some l → seqT md ops ts listed = true → wpListIn F m P ops Q' l a w → wpAnyIn F m P md ops Q' ts.length listed a w
  | [], l, _, _, _, hl, hB, h => by
    simp at hl; subst hl
    exact ⟨by simpa [seqT] using hB, h⟩
  | t :: ts, l, listed, a, w, hl, hB, h => by
    rw [List.mapM_cons] at hl
    cases h0 : ops[t]? with
    | none => rw [h0] at hl; simp at hl
    | some o =>
      rw [h0] at hl
      cases hts : ts.mapM (fun t => ops[t]?) with
      | none => rw [hts] at hl; simp at hl
      | some l' =>
        rw [hts] at hl
        simp at hl
        subst hl
        simp only [seqT, Bool.and_eq_true, decide_eq_true_eq] at hB
        refine ⟨fun h1 => (by rw [hB.1] at h1; cases h1), fun i hi => ?_⟩
        rw [hB.1] at hi
        have hik : i = t := by simpa using hi
        subst hik
        have hw : wpOpIn F m P ops Q' i (wpListIn F m P ops Q' l') a w := by unfold wpOpIn; simp only [h0]; exact h
        exact wpOpIn_mono (fun a' w' h' => wpAnyIn_of_seqT ts l' _ a' w' hts hB.2 h') hw
end
section
variable {c : Cx} {Q : Post} {E E' : Env} {D : List Deferred} {H : List Res}
end
end Go.Proofs.YtogaiijhicfoaaaGreatK


/-
  A region that draws its order, once more: what looks, at any time that the waits leave open; what turns the world (by a value), in its order; then the tail. What may look late is looked at again behind each turn.
-/
namespace Go.Proofs.YtogaiijhicfoaaaGreatK
set_option linter.unusedVariables false
set_option linter.unusedSimpArgs false
open Go.RowKit
section
variable {F : Fence} {m : Nat} {P : Program} {ops : Array Oper} {md : Region.Mode} {ts : List Nat} {listed : Array Bool}
def waitsP (md : Region.Mode) (ops : Array Oper) : Nat → Nat → Nat → Bool
  | 0, j, i => Region.waitsFor md ops j i
  | f + 1, j, i => Region.waitsFor md ops j i || (List.range ops.size).any fun k => Region.waitsFor md ops j k && waitsP md ops f k i
abbrev Clo (md : Region.Mode) (ops : Array Oper) (listed : Array Bool) : Prop := ∀ j oj, ops[j]? = some oj → listed.getD j false = true → ∀ e ∈ oj.after, Region.binds md e = true → listed.getD e.on false = true
theorem waitsP_listed (cl : Clo md ops listed) : ∀ (f j i : Nat), listed.getD j false = true → waitsP md ops f j i = true → listed.getD i false = true := by
  have one : ∀ j i, listed.getD j false = true → Region.waitsFor md ops j i = true → listed.getD i false = true := fun j i hj h => by
    obtain ⟨oj, hoj, e, he, hb, rfl⟩ := Region.waitsFor_spec h
    exact cl j oj hoj hj e he hb
  intro f
  induction f with
  | zero => exact one
  | succ f ih =>
    intro j i hj h
    simp only [waitsP, Bool.or_eq_true] at h
    rcases h with h | h
    · exact one j i hj h
    · obtain ⟨k, _, hk⟩ := List.any_eq_true.1 h
      simp only [Bool.and_eq_true] at hk
      exact ih k i (one j k hj hk.1) hk.2
theorem waitsP_ready (cl : Clo md ops listed) {f j i : Nat} (hj : j ∈ Region.ready md ops listed) (h : waitsP md ops f j i = true) : listed.getD i false = true := by
  obtain ⟨_, oj, hoj, hall⟩ := mem_ready.1 hj
  have one : ∀ i, Region.waitsFor md ops j i = true → listed.getD i false = true := fun i h => by
    obtain ⟨o', ho', e, he, hb, rfl⟩ := Region.waitsFor_spec h
    have : o' = oj := Option.some.inj (ho'.symm.trans hoj)
    subst this
    exact hall e he hb
  cases f with
  | zero => exact one i h
  | succ f =>
    simp only [waitsP, Bool.or_eq_true] at h
    rcases h with h | h
    · exact one i h
    · obtain ⟨k, _, hk⟩ := List.any_eq_true.1 h
      simp only [Bool.and_eq_true] at hk
      exact waitsP_listed cl f k i (one k hk.1) hk.2
def lkA (P : Program) (ops : Array Oper) (A : Act) (w w' : World) (i : Nat) : Prop := ∃ o d, ops[i]? = some o ∧ o.dst = some d ∧ (execOp A.eval o).run P w = .ok (.value (A.tmps.getD d undef)) w'
def opTmps (o : Oper) : List Nat := o.op.operands.toList.filterMap fun | .tmp t => some t | _ => none
def phB (ops : Array Oper) (ts : List Nat) (f : Nat) : List Nat → List (List Nat × Nat) → List Nat → Bool
  | es, [], last => (List.range ops.size).all fun i => ts.contains i || last.contains i || es.any (fun e => Nat.beq e i || waitsP .any ops f e i)
  | es, (ls, e) :: segs, last => !(ts.contains e) && ((List.range ops.size).all fun i => ts.contains i || ls.contains i || Nat.beq e i || es.any (fun e' => Nat.beq e' i || waitsP .any ops f e' i) || waitsP .any ops f i e) && (ls.all fun i => segs.all fun s => !(Nat.beq i s.2)) && phB ops ts f (e :: es) segs last
variable {f : Nat}
structure Inv (ops : Array Oper) (ts : List Nat) (A : Act) (listed : Array Bool) (a : Act) : Prop where
  hi : HI .any ops ts listed
  size : a.tmps.size = A.tmps.size
  dfr : a.defers = A.defers
  v1 : ∀ i o d, ops[i]? = some o → i ∉ ts → o.dst = some d → listed.getD i false = true → a.tmps.getD d undef = A.tmps.getD d undef
  v2 : ∀ t, (∀ i o, ops[i]? = some o → i ∉ ts → o.dst ≠ some t) → a.tmps.getD t undef = A.tmps.getD t undef
def cnt (ops : Array Oper) (ts : List Nat) (listed : Array Bool) : Nat := ((List.range ops.size).filter fun i => !(ts.contains i) && !(listed.getD i true)).length
theorem filter_one {l : List Nat} {p q : Nat → Bool} {i : Nat} (hn : l.Nodup) (hi : i ∈ l) (hp : p i = true) (hq : q i = false) (h : ∀ j, j ≠ i → p j = q j) : (l.filter q).length + 1 = (l.filter p).length := by
  induction l with
  | nil => cases hi
  | cons x l ih =>
    obtain ⟨hx, hn⟩ := List.nodup_cons.1 hn
    rw [List.filter_cons, List.filter_cons]
    by_cases e : x = i
    · subst e
      rw [hp, hq]
      have : l.filter q = l.filter p := List.filter_congr (fun j hj => (h j (by rintro rfl; exact hx hj)).symm)
      simp [this]
    · rw [h x e]
      have := ih hn (by rcases List.mem_cons.1 hi with h | h; exact absurd h.symm e; exact h)
      cases q x <;> simp_all
theorem cnt_set {i : Nat} (hi : i < ops.size) (hs : listed.size = ops.size) (hit : i ∉ ts) (hun : listed.getD i true = false) : cnt ops ts (listed.setIfInBounds i true) + 1 = cnt ops ts listed := by
  unfold cnt
  refine filter_one List.nodup_range (List.mem_range.2 hi) (i := i) ?_ ?_ (fun j hj => ?_)
  · simp [hit, hun]
  · have : (listed.setIfInBounds i true).getD i true = true := by simp [hs, hi]
    simp [this]
  · rw [getD_set_ne true (Ne.symm hj)]
def doneL (ops : Array Oper) (ts : List Nat) : Array Bool := ((List.range ops.size).map fun i => !(ts.contains i)).toArray
end
end Go.Proofs.YtogaiijhicfoaaaGreatK


/-
  The walk of such a region.
-/
namespace Go.Proofs.YtogaiijhicfoaaaGreatK
set_option linter.unusedVariables false
set_option linter.unusedSimpArgs false
open Go.RowKit
section
variable {P : Program} {ops : Array Oper} {a A : Act} {w w' w0 : World}
def isVal : Op → Bool
  | .move _ | .assign _ | .alloc _ | .box _ _ | .build _ _ | .buildSlice _ _ _ | .load _ _ | .binOp _ _ _ _ _ | .unOp _ _ _ | .fieldAddr _ _ _ | .field _ _ _ | .indexAddr _ _ _ | .index _ _ _ | .slice _ _ _ _ _ | .extract _ _ | .makeSlice _ _ _ | .makeFunc _ _ _ | .pick _ _ _ | .convert _ _ _ | .makeInterface _ _ | .lookup _ _ _ _ | .typeAssert _ _ _ _ => true
  | .call { callee := .builtin .append, .. } => true
  | .call { callee := .builtin .len, .. } => true
  | _ => false
theorem val_of {s : Sem Value} {n : Next} (h : (do pure (Next.value (← s)) : Sem Next).run P w = .ok n w') : ∃ v, n = .value v := by
  rw [Sem.run_bind] at h
  cases hs : s.run P w with
  | halt x w1 => rw [hs] at h; simp [Result.andThen] at h
  | ok v w1 =>
    rw [hs, Result.andThen_ok, Sem.run_pure] at h
    injection h with h _
    exact ⟨v, h.symm⟩
theorem val_run {o : Oper} (hv : isVal o.op = true) {ρ : Operand → Value} {n : Next} (h : (execOp ρ o).run P w = .ok n w') : ∃ v, n = .value v := by
  obtain ⟨dst, op, ty, pos, af, g⟩ := o
  have pv : ∀ {u : Value}, (Pure.pure (Next.value u) : Sem Next).run P w = .ok n w' → ∃ v, n = .value v := fun h => by
    rw [Sem.run_pure] at h; injection h with h _; exact ⟨_, h.symm⟩
  cases op <;> simp only [isVal, Bool.false_eq_true] at hv
  case call c =>
    obtain ⟨cal, args, ats⟩ := c
    cases cal with
    | builtin b =>
      cases b <;> simp only [Bool.false_eq_true] at hv
      all_goals
        simp only [execOp, resolve, Sem.run_bind, Sem.run_pure, Result.andThen_ok, invoke, builtin] at h
        first | exact val_of h | (rw [← Sem.run_bind] at h; exact val_of h) | skip
      all_goals
        revert h
        generalize Sem.run P _ w = r
        intro h
        cases r with
        | halt x w1 => simp [Result.andThen] at h
        | ok v w1 => simp only [Result.andThen_ok, Sem.run_pure, Result.ok.injEq] at h; exact ⟨v, h.1.symm⟩
    | _ => simp only [Bool.false_eq_true] at hv
  case pick cc x y =>
    have h' : (do pure (Next.value (if ← asBool (ρ cc) then ρ x else ρ y)) : Sem Next).run P w = .ok n w' := h
    rw [Sem.run_bind] at h'
    cases hs : (asBool (ρ cc)).run P w with
    | halt q w1 => rw [hs] at h'; simp [Result.andThen] at h'
    | ok b w1 =>
      rw [hs, Result.andThen_ok, Sem.run_pure] at h'
      injection h' with h' _
      exact ⟨_, h'.symm⟩
  all_goals first | exact pv h | exact val_of h
def lkX (P : Program) (ops : Array Oper) (w0 : World) (K : Act → Prop) : List Oper → Act → Prop
  | [], a => K a
  | o :: rest, a => if Region.wanted o (yielded ops a.tmps) then ∃ n, (execOp a.eval o).run P w0 = .ok n w0 ∧ ∀ v, n = .value v → lkX P ops w0 K rest (a.put o.dst v) else lkX P ops w0 K rest (a.put o.dst undef)
variable {c : Cx} {Q : Post} {E E' : Env} {D : List Deferred} {H : List Res}
def Md.lk (c : Cx) (ops : Array Oper) (w0 : World) (K : Act → Prop) : Md c where
  X := fun l a w => w = w0 → lkX c.P ops w0 K l a
  ops := ops
  calm o rest a w v hw hp hr hK := by
    rintro rfl
    simp only [lkX, hw, if_true]
    exact ⟨_, hr, fun v' h => by cases h; exact hK rfl⟩
  skip o rest a w hw hK := by
    rintro rfl
    simp only [lkX, hw]
    exact hK rfl
  want dst op ty pos af g rest a w hw h := by
    rintro rfl
    have h := h rfl
    simp only [lkX] at h ⊢
    rw [if_pos hw]
    rw [if_pos (show Region.wanted { dst := dst, op := op, type := ty, pos := pos, after := af, guard := none } (yielded ops a.tmps) = true from rfl)] at h
    exact h
def Again (c : Cx) (ops : Array Oper) (E : Env) (D : List Deferred) (H : List Res) (res : List Nat) : Prop := ∀ a w, Ok c.N E D a → St c.B H w → ∀ i ∈ res, lkA c.P ops a w w i
theorem Again.nil : Again c ops E D H [] := fun _ _ _ _ _ h => by cases h
theorem Again.cons {i d : Nat} {v : Value} {res : List Nat} {op : Op} {ty : TypeId} {pos : String} {af : Array Edge} (ho : ops[i]? = some ⟨some d, op, ty, pos, af, none⟩) (hE : E.find d = some v) (hv : isVal op = true) (hN : Nat.blt d c.N = true) (h : ∀ w0, O (Md.lk c ops w0 (fun a => a.tmps.getD d undef = v)) [⟨some d, op, ty, pos, af, none⟩] E D H) (k : Again c ops E D H res) : Again c ops E D H (i :: res) := by
  intro a w ha hw j hj
  rcases List.mem_cons.1 hj with rfl | hj
  · have h1 := h w a w ha hw rfl
    simp only [lkX] at h1
    rw [if_pos (show Region.wanted { dst := some d, op := op, type := ty, pos := pos, after := af, guard := none } (yielded ops a.tmps) = true from rfl)] at h1
    obtain ⟨n, hr, hk⟩ := h1
    obtain ⟨u, rfl⟩ := val_run (o := ⟨some d, op, ty, pos, af, none⟩) hv hr
    have h2 := hk u rfl
    have hd : d < a.tmps.size := by rw [ha.size]; simpa [Nat.blt_eq] using hN
    have h3 : (a.put (some d) u).tmps.getD d undef = u := by simp [Act.put, hd]
    refine ⟨_, d, ho, rfl, ?_⟩
    rw [hr, ha.fit d v hE]
    congr 2
    rw [← h3]; exact h2
  · exact k a w ha hw j hj
theorem oLkHas {d : Nat} {v : Value} (hE : E.find d = some v) : O (Md.lk c ops w0 (fun a => a.tmps.getD d undef = v)) [] E D H := by
  rintro a w ha hw rfl
  exact ha.fit d v hE
end
end Go.Proofs.YtogaiijhicfoaaaGreatK


/-
  Draws once more: turns of the world that may be calls.
-/
namespace Go.Proofs.YtogaiijhicfoaaaGreatK
set_option linter.unusedVariables false
set_option linter.unusedSimpArgs false
open Go.RowKit
def rnC (P : Program) (ops : Array Oper) (K : Act → World → Prop) : List Oper → Act → World → Prop
  | [], a, w => K a w
  | o :: rest, a, w => if Region.wanted o (yielded ops a.tmps) then ((∃ v w', (execOp a.eval o).run P w = .ok (.value v) w' ∧ rnC P ops K rest (a.put o.dst v) w') ∨ (∃ w', (execOp a.eval o).run P w = .ok .skip w' ∧ rnC P ops K rest (a.put o.dst undef) w') ∨
      (∃ g args w1, (execOp a.eval o).run P w = .ok (.enter g args) w1 ∧ CallsIn Fence.wide 0 P g args w1 (fun e w2 => ∃ v, e = .returned v ∧ rnC P ops K rest (a.put o.dst v) w2))) else rnC P ops K rest (a.put o.dst undef) w
section
variable {c : Cx} {Q : Post} {E E' : Env} {D : List Deferred} {H : List Res} {ops : Array Oper} {w0 : World}
def Me.rnC (c : Cx) (ops : Array Oper) (K : Act → World → Prop) : Me c where
  X := Go.Proofs.YtogaiijhicfoaaaGreatK.rnC c.P ops K
  ops := ops
  calm o rest a w v hw hp hr hK := by
    simp only [Go.Proofs.YtogaiijhicfoaaaGreatK.rnC, hw, if_true]
    exact .inl ⟨_, _, hr, hK⟩
  skip o rest a w hw hK := by simp only [Go.Proofs.YtogaiijhicfoaaaGreatK.rnC, hw]; exact hK
  want dst op ty pos af g rest a w hw h := by
    simp only [Go.Proofs.YtogaiijhicfoaaaGreatK.rnC] at h ⊢
    rw [if_pos hw]
    rw [if_pos (show Region.wanted { dst := dst, op := op, type := ty, pos := pos, after := af, guard := none } (yielded ops a.tmps) = true from rfl)] at h
    exact h
  eff o rest a w v w' hw hp hr hK := by
    simp only [Go.Proofs.YtogaiijhicfoaaaGreatK.rnC, hw, if_true]
    exact .inl ⟨_, _, hr, hK⟩
  effs o rest a w w' hw hp hr hK := by
    simp only [Go.Proofs.YtogaiijhicfoaaaGreatK.rnC, hw, if_true]
    exact .inr (.inl ⟨_, hr, hK⟩)
  enter o rest a w g args w1 hw hp hr hK := by
    simp only [Go.Proofs.YtogaiijhicfoaaaGreatK.rnC, hw, if_true]
    exact .inr (.inr ⟨_, _, _, hr, hK⟩)
variable {ts : List Nat} {listed : Array Bool} {f : Nat}
end
end Go.Proofs.YtogaiijhicfoaaaGreatK


/-
  A region that draws its order, in full: what looks (guards too), turns of the world that may be calls, what looks again, what looks anew behind a turn; then the tail.
-/
namespace Go.Proofs.YtogaiijhicfoaaaGreatK
set_option linter.unusedVariables false
set_option linter.unusedSimpArgs false
open Go.RowKit
section
variable {c : Cx} {Q : Post} {E E' : Env} {D : List Deferred} {H : List Res} {P : Program} {ops : Array Oper} {a A : Act} {w w' w0 : World}
def lkG (P : Program) (ops : Array Oper) (A : Act) (w : World) (i : Nat) : Prop := ∃ o d, ops[i]? = some o ∧ o.dst = some d ∧ (if Region.wanted o (yielded ops A.tmps) = true then (execOp A.eval o).run P w = .ok (.value (A.tmps.getD d undef)) w else A.tmps.getD d undef = undef)
abbrev Segs := List (Nat × List Nat × List Nat)
def segG (c : Cx) (ops : Array Oper) (Q : Post) (tl : List Oper) : Segs → Act → World → Prop
  | [], a, w => wpListIn c.F 0 c.P ops (lift c Q) tl a w
  | (e, res, nw) :: segs, a, w => ∃ o, ops[e]? = some o ∧ rnC c.P ops (fun a' w' => (∀ i ∈ res, lkG c.P ops a' w' i) ∧ ∃ l, nw.mapM (fun k => ops[k]?) = some l ∧ lkX c.P ops w' (fun a'' => segG c ops Q tl segs a'' w') l a') [o] a w
theorem oLkSegG {tl : List Oper} {segs : Segs} (h : O (Me.rnC c ops (segG c ops Q tl segs)).toMd [] E D H) : O (Md.lk c ops w0 (fun a => segG c ops Q tl segs a w0)) [] E D H := by
  rintro a w ha hw rfl
  exact h a w ha hw
theorem oSegG {tl : List Oper} {e : Nat} {res nw : List Nat} {segs : Segs} {o : Oper} (he : ops[e]? = some o) (h : O (Me.rnC c ops (fun a' w' => (∀ i ∈ res, lkG c.P ops a' w' i) ∧ ∃ l, nw.mapM (fun k => ops[k]?) = some l ∧ lkX c.P ops w' (fun a'' => segG c ops Q tl segs a'' w') l a')).toMd [o] E D H) : O (Me.rnC c ops (segG c ops Q tl ((e, res, nw) :: segs))).toMd [] E D H :=
  fun a w ha hw => ⟨o, he, h a w ha hw⟩
def AgainG (c : Cx) (ops : Array Oper) (E : Env) (D : List Deferred) (H : List Res) (res : List Nat) : Prop := ∀ a w, Ok c.N E D a → St c.B H w → ∀ i ∈ res, lkG c.P ops a w i
theorem AgainG.nil : AgainG c ops E D H [] := fun _ _ _ _ _ h => by cases h
theorem AgainG.cons {i d : Nat} {v : Value} {res : List Nat} {op : Op} {ty : TypeId} {pos : String} {af : Array Edge} {g : Option (Nat × Bool)} (ho : ops[i]? = some ⟨some d, op, ty, pos, af, g⟩) (hE : E.find d = some v) (hv : isVal op = true) (hN : Nat.blt d c.N = true) (h : ∀ w0, O (Md.lk c ops w0 (fun a => a.tmps.getD d undef = v)) [⟨some d, op, ty, pos, af, g⟩] E D H) (k : AgainG c ops E D H res) : AgainG c ops E D H (i :: res) := by
  intro a w ha hw j hj
  rcases List.mem_cons.1 hj with rfl | hj
  · have h1 := h w a w ha hw rfl
    simp only [lkX] at h1
    have hd : d < a.tmps.size := by rw [ha.size]; simpa [Nat.blt_eq] using hN
    have h3 : ∀ u, (a.put (some d) u).tmps.getD d undef = u := fun u => by simp [Act.put, hd]
    refine ⟨_, d, ho, rfl, ?_⟩
    by_cases hwd : Region.wanted { dst := some d, op := op, type := ty, pos := pos, after := af, guard := g } (yielded ops a.tmps) = true
    · rw [if_pos hwd] at h1 ⊢
      obtain ⟨n, hr, hk⟩ := h1
      obtain ⟨u, rfl⟩ := val_run (o := ⟨some d, op, ty, pos, af, g⟩) hv hr
      have h2 := hk u rfl
      rw [hr, ha.fit d v hE]
      congr 2
      rw [← h3 u]; exact h2
    · rw [if_neg hwd] at h1 ⊢
      rw [ha.fit d v hE, ← h1, h3]
  · exact k a w ha hw j hj
theorem oAgainG {tl : List Oper} {res nw : List Nat} {segs : Segs} {l : List Oper} (hre : AgainG c ops E D H res) (hl : nw.mapM (fun k => ops[k]?) = some l) (h : ∀ w0, O (Md.lk c ops w0 (fun a'' => segG c ops Q tl segs a'' w0)) l E D H) : O (Me.rnC c ops (fun a' w' => (∀ i ∈ res, lkG c.P ops a' w' i) ∧ ∃ l, nw.mapM (fun k => ops[k]?) = some l ∧ lkX c.P ops w' (fun a'' => segG c ops Q tl segs a'' w') l a')).toMd [] E D H :=
  fun a w ha hw => ⟨hre a w ha hw, l, hl, h w a w ha hw rfl⟩
theorem oTailG {tl : List Oper} (h : O (Me.list c ops Q).toMd tl E D H) : O (Md.lk c ops w0 (fun a => segG c ops Q tl [] a w0)) [] E D H := by
  rintro a w ha hw rfl
  exact h a w ha hw
def guardNe (ops : Array Oper) (o : Oper) (d : Nat) : Bool := match o.guard with
  | none => true
  | some g => match ops[g.1]? with
    | some og => og.dst != some d
    | none => true
theorem yielded_put {o : Oper} {d : Nat} {v : Value} (h : guardNe ops o d = true) : Region.wanted o (yielded ops (a.put (some d) v).tmps) = Region.wanted o (yielded ops a.tmps) := by
  unfold Region.wanted
  unfold guardNe at h
  cases hg : o.guard with
  | none => rfl
  | some g =>
    rw [hg] at h
    simp only at h ⊢
    congr 1
    unfold yielded
    cases hog : ops[g.1]? with
    | none => simp
    | some og =>
      rw [hog] at h
      simp only [bne_iff_ne, ne_eq] at h
      simp only [Option.bind_some]
      cases hd : og.dst with
      | none => simp
      | some d' =>
        have hne : d ≠ d' := by rintro rfl; exact h hd
        simp only [Option.bind_some, Act.put, Array.getElem?_setIfInBounds, if_neg hne]
def keepG (ops : Array Oper) (i j : Nat) : Bool := match ops[i]?, ops[j]? with
  | some o, some o' => (match o'.dst with | some d => !((opTmps o).contains d) && o.dst != some d && guardNe ops o d | none => true)
  | _, _ => false
theorem lk_keepG {i j : Nat} {oj : Oper} {v : Value} (hk : keepG ops i j = true) (hj : ops[j]? = some oj) (hs : Region.noSelect ops = true) (h : lkG P ops a w i) : lkG P ops (a.put oj.dst v) w i := by
  obtain ⟨o, d, ho, hd, hr⟩ := h
  unfold keepG at hk
  rw [ho, hj] at hk
  simp only at hk
  cases hdj : oj.dst with
  | none => exact ⟨o, d, ho, hd, hr⟩
  | some dj =>
    rw [hdj] at hk
    simp only [Bool.and_eq_true, bne_iff_ne, ne_eq] at hk
    have hne : dj ≠ d := by rintro rfl; exact hk.1.2 hd
    refine ⟨o, d, ho, hd, ?_⟩
    have e1 : execOp (a.put (some dj) v).eval o = execOp a.eval o := execOp_congr o (fun cs b => Region.noSelect_spec hs i o cs b ho) (fun x hx => Act.eval_put (fun d' hd' hxd => by
      injection hd' with hd'
      subst hd' hxd
      have : dj ∈ opTmps o := List.mem_filterMap.2 ⟨.tmp dj, by simpa using hx, rfl⟩
      have h1 := hk.1.1
      simp [this] at h1))
    have e2 : (a.put (some dj) v).tmps.getD d undef = a.tmps.getD d undef := by simp only [Act.put, Array.getD_eq_getD_getElem?, Array.getElem?_setIfInBounds, if_neg hne]
    rw [e1, e2, yielded_put hk.2]; exact hr
theorem lk_selfG {i d : Nat} {o : Oper} {v : Value} (ho : ops[i]? = some o) (hd : o.dst = some d) (hn : (opTmps o).contains d = false) (hgn : guardNe ops o d = true) (hs : Region.noSelect ops = true) (hl : d < a.tmps.size) (hr : if Region.wanted o (yielded ops a.tmps) = true then (execOp a.eval o).run P w = .ok (.value v) w else v = undef) : lkG P ops (a.put o.dst v) w i := by
  refine ⟨o, d, ho, hd, ?_⟩
  rw [hd]
  have e1 : execOp (a.put (some d) v).eval o = execOp a.eval o := execOp_congr o (fun cs b => Region.noSelect_spec hs i o cs b ho) (fun x hx => Act.eval_put (fun d' hd' hxd => by
    injection hd' with hd'
    subst hd' hxd
    have : d ∈ opTmps o := List.mem_filterMap.2 ⟨.tmp d, by simpa using hx, rfl⟩
    simp [this] at hn))
  have e2 : (a.put (some d) v).tmps.getD d undef = v := by simp [Act.put, hl]
  rw [e1, e2, yielded_put hgn]; exact hr
def opG (ops : Array Oper) (N i : Nat) : Bool := match ops[i]? with
  | some o => isVal o.op && (match o.dst with | some d => Nat.blt d N && !((opTmps o).contains d) && guardNe ops o d | none => false)
  | none => false
theorem opG_spec {N i : Nat} (h : opG ops N i = true) : ∃ (o : Oper) (d : Nat), ops[i]? = some o ∧ o.dst = some d ∧ isVal o.op = true ∧ d < N ∧ (opTmps o).contains d = false ∧ guardNe ops o d = true := by
  unfold opG at h
  split at h
  · rename_i o ho
    simp only [Bool.and_eq_true] at h
    obtain ⟨h1, h3⟩ := h
    split at h3
    · rename_i d hd
      simp only [Bool.and_eq_true, Nat.blt_eq] at h3
      exact ⟨o, d, ho, hd, h1, h3.1.1, by simpa using h3.1.2, h3.2⟩
    · cases h3
  · cases h
def orderG (ops : Array Oper) (N : Nat) : List Nat → Bool
  | k :: ks => opG ops N k && (ks.all fun j => keepG ops k j) && orderG ops N ks
  | [] => true
theorem lk_canG {N : Nat} {K : Act → Prop} (hs : Region.noSelect ops = true) {w : World} : ∀ (ks : List Nat) (hd : List Oper) (done : List Nat) (a : Act), ks.mapM (fun k => ops[k]?) = some hd → orderG ops N ks = true → a.tmps.size = N → (∀ i ∈ done, lkG c.P ops a w i) → (∀ i ∈ done, ∀ j ∈ ks, keepG ops i j = true) →
      lkX c.P ops w K hd a →
      ∃ A, A.tmps.size = N ∧ A.defers = a.defers ∧ (∀ t, (∀ j ∈ ks, ∀ o, ops[j]? = some o → o.dst ≠ some t) → A.tmps.getD t undef = a.tmps.getD t undef) ∧ (∀ i ∈ done ++ ks, lkG c.P ops A w i) ∧ K A
  | [], hd, done, a, hk, hB, hN, hdn, hkp, h => by
    simp at hk; subst hk
    exact ⟨a, hN, rfl, fun _ _ => rfl, by simpa using hdn, h⟩
  | k :: ks, hd, done, a, hk, hB, hN, hdn, hkp, h => by
    rw [List.mapM_cons] at hk
    simp only [orderG, Bool.and_eq_true] at hB
    obtain ⟨⟨h1, h2⟩, h4⟩ := hB
    obtain ⟨o, d, ho, hd', hv, hdN, hself, hgn⟩ := opG_spec h1
    rw [ho] at hk
    cases hks : ks.mapM (fun k => ops[k]?) with
    | none => rw [hks] at hk; simp at hk
    | some l' =>
      rw [hks] at hk
      simp at hk
      subst hk
      have hgo : ∃ v, (if Region.wanted o (yielded ops a.tmps) = true then (execOp a.eval o).run c.P w = .ok (.value v) w else v = undef) ∧ lkX c.P ops w K l' (a.put o.dst v) := by
        simp only [lkX] at h
        by_cases hw : Region.wanted o (yielded ops a.tmps) = true
        · rw [if_pos hw] at h
          obtain ⟨n, hr, hkk⟩ := h
          obtain ⟨v, rfl⟩ := val_run hv hr
          exact ⟨v, by rw [if_pos hw]; exact hr, hkk v rfl⟩
        · rw [if_neg hw] at h
          exact ⟨undef, by rw [if_neg hw], h⟩
      obtain ⟨v, hr, hkk⟩ := hgo
      obtain ⟨A, hA1, hA2, hA3, hA4, hA5⟩ := lk_canG hs ks l' (done ++ [k]) (a.put o.dst v) hks h4 (by rw [hd']; simpa [Act.put] using hN)
        (fun i hi => by
          rcases List.mem_append.1 hi with hi | hi
          · exact lk_keepG (hkp i hi k List.mem_cons_self) ho hs (hdn i hi)
          · obtain rfl := List.mem_singleton.1 hi
            exact lk_selfG (a := a) ho hd' hself hgn hs (by omega) hr)
        (fun i hi => by
          rcases List.mem_append.1 hi with hi | hi
          · exact fun j hj => hkp i hi j (List.mem_cons_of_mem _ hj)
          · obtain rfl := List.mem_singleton.1 hi
            exact fun j hj => List.all_eq_true.1 h2 j hj)
        hkk
      refine ⟨A, hA1, by rw [hA2, hd']; rfl, fun t ht1 => ?_, by rw [List.append_assoc] at hA4; exact hA4, hA5⟩
      rw [hA3 t (fun j hj => ht1 j (List.mem_cons_of_mem _ hj))]
      have hne : d ≠ t := by rintro rfl; exact ht1 k List.mem_cons_self o ho hd'
      rw [hd']
      simp only [Act.put, Array.getD_eq_getD_getElem?, Array.getElem?_setIfInBounds, if_neg hne]
variable {ts : List Nat} {listed : Array Bool} {f : Nat}
def statG (ops : Array Oper) (ts : List Nat) (f : Nat) : Bool :=
  plainB ops && Region.noSelect ops && ts.all (fun t => Nat.blt t ops.size) && (List.range ops.size).all (fun i => match ops[i]? with
    | some o => o.after.all (fun e => !(Region.binds .any e) || Nat.blt e.on i) && (ts.contains i || ((match o.guard with | none => true | some g => !(ts.contains g.1) && waitsP .any ops f i g.1) && o.dst.isSome && (List.range ops.size).all (fun j => match ops[j]? with
        | some o' => ts.contains j || ((Nat.beq i j || o'.dst != o.dst) && (opTmps o).all (fun t => o'.dst != some t || waitsP .any ops f i j))
        | none => true)))
    | none => true) && ts.all (fun t => (List.range ops.size).all fun i => ts.contains i || waitsP .any ops f t i)
theorem stat_opG (hB : statG ops ts f = true) {i : Nat} {o : Oper} (ho : ops[i]? = some o) (hit : i ∉ ts) : (∀ g, o.guard = some g → g.1 ∉ ts ∧ waitsP .any ops f i g.1 = true) ∧ (∃ d, o.dst = some d) ∧ (∀ j o', ops[j]? = some o' → j ∉ ts → j ≠ i → o'.dst ≠ o.dst) ∧ (∀ t ∈ opTmps o, ∀ j o', ops[j]? = some o' → j ∉ ts → o'.dst = some t → waitsP .any ops f i j = true) := by
  simp only [statG, Bool.and_eq_true] at hB
  have hi := (Array.getElem?_eq_some_iff.1 ho).1
  have h1 := List.all_eq_true.1 hB.1.2 i (List.mem_range.2 hi)
  rw [ho] at h1
  simp only [Bool.and_eq_true, Bool.or_eq_true, Option.isSome_iff_exists] at h1
  rcases h1.2 with h2 | ⟨⟨h2, h3⟩, h4⟩
  · exact absurd (by simpa using h2) hit
  · refine ⟨fun g hg => ?_, h3, fun j o' ho' hjt hji => ?_, fun t ht j o' ho' hjt hd => ?_⟩
    · rw [hg] at h2
      simp only [Bool.and_eq_true] at h2
      exact ⟨by simpa using h2.1, h2.2⟩
    · have hj := (Array.getElem?_eq_some_iff.1 ho').1
      have h5 := List.all_eq_true.1 h4 j (List.mem_range.2 hj)
      rw [ho'] at h5
      simp only [Bool.or_eq_true, Bool.and_eq_true, Nat.beq_eq, bne_iff_ne, ne_eq] at h5
      rcases h5 with h5 | ⟨h5, _⟩
      · exact absurd (by simpa using h5) hjt
      · rcases h5 with h5 | h5
        · exact absurd h5.symm hji
        · exact h5
    · have hj := (Array.getElem?_eq_some_iff.1 ho').1
      have h5 := List.all_eq_true.1 h4 j (List.mem_range.2 hj)
      rw [ho'] at h5
      simp only [Bool.or_eq_true, Bool.and_eq_true] at h5
      rcases h5 with h5 | ⟨_, h5⟩
      · exact absurd (by simpa using h5) hjt
      · have h6 := List.all_eq_true.1 h5 t ht
        simp only [Bool.or_eq_true, bne_iff_ne, ne_eq] at h6
        rcases h6 with h6 | h6
        · exact absurd hd h6
        · exact h6
theorem inv_execG (hB : statG ops ts f = true) {A a : Act} (inv : Inv ops ts A listed a) {i : Nat} {o : Oper} (ho : ops[i]? = some o) (hit : i ∉ ts) (hr : i ∈ Region.ready .any ops listed) : execOp a.eval o = execOp A.eval o := by
  obtain ⟨_, _, _, h4⟩ := stat_opG hB ho hit
  have hsel : Region.noSelect ops = true := by simp only [statG, Bool.and_eq_true] at hB; exact hB.1.1.1.2
  refine execOp_congr o (fun cs b => Region.noSelect_spec hsel i o cs b ho) (fun x hx => ?_)
  cases x with
  | tmp t =>
    show a.tmps.getD t undef = A.tmps.getD t undef
    have ht : t ∈ opTmps o := List.mem_filterMap.2 ⟨.tmp t, by simpa using hx, rfl⟩
    by_cases h : ∃ j o', ops[j]? = some o' ∧ j ∉ ts ∧ o'.dst = some t
    · obtain ⟨j, o', ho', hjt, hd⟩ := h
      exact inv.v1 j o' t ho' hjt hd (waitsP_ready inv.hi.closed hr (h4 t ht j o' ho' hjt hd))
    · exact inv.v2 t (fun j o' ho' hjt hd => h ⟨j, o', ho', hjt, hd⟩)
  | const v => rfl
  | global g => rfl
  | func g => rfl
theorem get_eq {x y : Array Value} (hs : x.size = y.size) (d : Nat) (h : x.getD d undef = y.getD d undef) : x[d]? = y[d]? := by
  by_cases hl : d < x.size
  · have hl' : d < y.size := by omega
    rw [Array.getElem?_eq_getElem hl, Array.getElem?_eq_getElem hl']
    simp only [Array.getD_eq_getD_getElem?, Array.getElem?_eq_getElem hl, Array.getElem?_eq_getElem hl', Option.getD_some] at h
    rw [h]
  · rw [Array.getElem?_eq_none (by omega), Array.getElem?_eq_none (by omega)]
theorem put_same {x : Array Value} {d : Nat} (h : d < x.size) : x.setIfInBounds d (x.getD d undef) = x := by
  apply Array.ext_getElem?
  intro k
  rw [Array.getElem?_setIfInBounds]
  split
  · rename_i e; subst e
    simp [h]
  · rfl
theorem inv_wanted (hB : statG ops ts f = true) {A a : Act} (inv : Inv ops ts A listed a) {i : Nat} {o : Oper} (ho : ops[i]? = some o) (hit : i ∉ ts) (hr : i ∈ Region.ready .any ops listed) : Region.wanted o (yielded ops a.tmps) = Region.wanted o (yielded ops A.tmps) := by
  obtain ⟨h1, _, _, _⟩ := stat_opG hB ho hit
  unfold Region.wanted
  cases hg : o.guard with
  | none => rfl
  | some g =>
    obtain ⟨h2, h3⟩ := h1 g hg
    simp only
    congr 1
    unfold yielded
    cases hog : ops[g.1]? with
    | none => rfl
    | some og =>
      simp only [Option.bind_some]
      cases hd : og.dst with
      | none => rfl
      | some d =>
        have := inv.v1 g.1 og d hog h2 hd (waitsP_ready inv.hi.closed hr h3)
        simp only [Option.bind_some]
        rw [get_eq inv.size d this]
theorem inv_turnG (hB : statG ops ts f = true) {A a : Act} (inv : Inv ops ts A listed a) {i d : Nat} {o : Oper} {v : Value} (ho : ops[i]? = some o) (hit : i ∉ ts) (hr : i ∈ Region.ready .any ops listed) (hd : o.dst = some d) (hdl : d < A.tmps.size) : Inv ops ts (A.put o.dst v) (listed.setIfInBounds i true) (a.put o.dst v) := by
  obtain ⟨_, _, h3, _⟩ := stat_opG hB ho hit
  rw [hd]
  refine ⟨inv.hi.set hr hit, by simp [Act.put, inv.size], inv.dfr, fun j o' d' ho' hjt hd' hl => ?_, fun t ht => ?_⟩
  · by_cases hji : j = i
    · subst hji
      have : o' = o := Option.some.inj (ho'.symm.trans ho)
      subst this
      have : d' = d := Option.some.inj (hd'.symm.trans hd)
      subst this
      simp [Act.put, inv.size, hdl]
    · rw [getD_set_ne false (Ne.symm hji)] at hl
      have hne : d ≠ d' := by rintro rfl; exact h3 j o' ho' hjt hji (hd'.trans hd.symm)
      have := inv.v1 j o' d' ho' hjt hd' hl
      simp only [Act.put, Array.getD_eq_getD_getElem?, Array.getElem?_setIfInBounds, if_neg hne] at this ⊢
      exact this
  · have hne : d ≠ t := by rintro rfl; exact ht i o ho hit hd
    have := inv.v2 t ht
    simp only [Act.put, Array.getD_eq_getD_getElem?, Array.getElem?_setIfInBounds, if_neg hne] at this ⊢
    exact this
theorem inv_putG (hB : statG ops ts f = true) {A a : Act} (inv : Inv ops ts A listed a) {i d : Nat} {o : Oper} (ho : ops[i]? = some o) (hit : i ∉ ts) (hr : i ∈ Region.ready .any ops listed) (hd : o.dst = some d) (hdl : d < A.tmps.size) : Inv ops ts A (listed.setIfInBounds i true) (a.put o.dst (A.tmps.getD d undef)) := by
  have h := inv_turnG (v := A.tmps.getD d undef) hB inv ho hit hr hd hdl
  have e : A.put o.dst (A.tmps.getD d undef) = A := by
    rw [hd]
    obtain ⟨At, Ad⟩ := A
    show Act.mk _ _ = _
    congr 1
    exact put_same hdl
  rw [e] at h
  exact h
theorem step_valG (hB : statG ops ts f = true) {A a : Act} (inv : Inv ops ts A listed a) {Q' : Exit → Act → World → Prop} {i : Nat} (hit : i ∉ ts) (hr : i ∈ Region.ready .any ops listed) {w : World} (hdl : ∀ (i : Nat) (o : Oper) (d : Nat), ops[i]? = some o → o.dst = some d → d < A.tmps.size) (h : lkG c.P ops A w i) {K : Act → World → Prop}
    (hK : ∀ a', Inv ops ts A (listed.setIfInBounds i true) a' → K a' w) : wpOpIn c.F 0 c.P ops Q' i K a w := by
  obtain ⟨o, d, ho, hd, hrun⟩ := h
  have hpl : plainB ops = true := by simp only [statG, Bool.and_eq_true] at hB; exact hB.1.1.1.1
  unfold wpOpIn
  simp only [ho]
  have hp := inv_putG hB inv ho hit hr hd (hdl i o d ho hd)
  rw [inv_wanted hB inv ho hit hr]
  by_cases hwd : Region.wanted o (yielded ops A.tmps) = true
  · rw [if_pos hwd] at hrun ⊢
    refine ⟨fun g _ => c.fn g, ?_⟩
    rw [semAt_plain' _ _ _ (plain_at hpl ho), inv_execG hB inv ho hit hr, hrun]
    exact hK _ hp
  · rw [if_neg hwd] at hrun ⊢
    refine ⟨fun g _ => c.fn g, ?_⟩
    rw [hrun] at hp
    exact hK _ hp
theorem step_turnG (hB : statG ops ts f = true) {A a : Act} (inv : Inv ops ts A listed a) {Q' : Exit → Act → World → Prop} {i : Nat} {o : Oper} (ho : ops[i]? = some o) (hit : i ∉ ts) (hr : i ∈ Region.ready .any ops listed) {w : World} {K K' : Act → World → Prop} (h : rnC c.P ops K [o] A w) (hK : ∀ v w', K (A.put o.dst v) w' → K' (a.put o.dst v) w') : wpOpIn c.F 0 c.P ops Q' i K' a w := by
  have hpl : plainB ops = true := by simp only [statG, Bool.and_eq_true] at hB; exact hB.1.1.1.1
  simp only [rnC] at h
  unfold wpOpIn
  simp only [ho]
  rw [inv_wanted hB inv ho hit hr]
  by_cases hwd : Region.wanted o (yielded ops A.tmps) = true
  · rw [if_pos hwd] at h ⊢
    refine ⟨fun g _ => c.fn g, ?_⟩
    rw [semAt_plain' _ _ _ (plain_at hpl ho), inv_execG hB inv ho hit hr]
    rcases h with ⟨v, w', h1, h2⟩ | ⟨w', h1, h2⟩ | ⟨g, args, w1, h1, h2⟩
    · rw [h1]; exact hK _ _ h2
    · rw [h1]; exact hK _ _ h2
    · rw [h1]
      refine ⟨fun h => (by rw [c.dp] at h; cases h), c.call (h2.mono ?_)⟩
      rintro e w2 ⟨v, rfl, h3⟩
      exact hK _ _ h3
  · rw [if_neg hwd] at h ⊢
    exact ⟨fun g _ => c.fn g, hK _ _ h⟩
def phasesOfG : List Nat → Segs → List (List Nat × Nat) × List Nat
  | ls, [] => ([], ls)
  | ls, (e, res, nw) :: segs => ((ls, e) :: (phasesOfG (res ++ nw) segs).1, (phasesOfG (res ++ nw) segs).2)
theorem phasesOfG_e : ∀ (ls : List Nat) (segs : Segs), (phasesOfG ls segs).1.map (·.2) = segs.map (·.1)
  | ls, [] => rfl
  | ls, (e, res, nw) :: segs => by
    show e :: (phasesOfG (res ++ nw) segs).1.map (·.2) = e :: segs.map (·.1)
    rw [phasesOfG_e (res ++ nw) segs]
def newB (ops : Array Oper) (N : Nat) (ts : List Nat) (f : Nat) (segs : Segs) : Bool := segs.all fun s => orderG ops N s.2.2 && (s.2.1.all fun i => s.2.2.all fun j => keepG ops i j) && (s.2.2.all fun i => !(ts.contains i) && waitsP .any ops f i s.1)
theorem phasesG (hB : statG ops ts f = true) {tl : List Oper} (htl : ts.mapM (fun t => ops[t]?) = some tl) (hseq : seqT .any ops ts (doneL ops ts) = true) {M : Nat} (hdl : ∀ (i : Nat) (o : Oper) (d : Nat), ops[i]? = some o → o.dst = some d → d < M) :
    ∀ (n : Nat) (segs : Segs) (ls es : List Nat) (listed : Array Bool) (A a : Act) (w : World), newB ops M ts f segs = true → cnt ops ts listed = n → A.tmps.size = M → Inv ops ts A listed a → (∀ i ∈ ls, lkG c.P ops A w i) → segG c ops Q tl segs A w → phB ops ts f es (phasesOfG ls segs).1 (phasesOfG ls segs).2 = true →
      (∀ e ∈ es, listed.getD e false = true) → (∀ s ∈ segs, s.1 < ops.size ∧ listed.getD s.1 true = false) → (segs.map (·.1)).Nodup → wpAnyIn c.F 0 c.P .any ops (lift c Q) (n + ts.length) listed a w := by
  have hB' := hB
  simp only [statG, Bool.and_eq_true] at hB'
  intro n
  induction n with
  | zero =>
    intro segs ls es listed A a w hnb hc hM inv hl hcan hph hes hsegs hnd
    have hlist : ∀ i, i < ops.size → i ∉ ts → listed.getD i true = true := fun i hi hit => by
      cases hv : listed.getD i true with
      | true => rfl
      | false =>
        have hm : i ∈ (List.range ops.size).filter fun i => !(ts.contains i) && !(listed.getD i true) := List.mem_filter.2 ⟨List.mem_range.2 hi, by simp [hit, hv]⟩
        unfold cnt at hc
        rw [List.eq_nil_of_length_eq_zero hc] at hm
        cases hm
    cases segs with
    | cons s segs =>
      obtain ⟨e, res, nw⟩ := s
      simp only [phasesOfG, phB, Bool.and_eq_true] at hph
      have h1 := hsegs (e, res, nw) List.mem_cons_self
      have h2 := hlist e h1.1 (by have := hph.1.1.1; simpa using this)
      rw [h1.2] at h2; cases h2
    | nil =>
      have hL : listed = doneL ops ts := by
        apply Array.ext
        · rw [inv.hi.size]; simp [doneL]
        · intro i h1 h2
          have hi : i < ops.size := by rw [← inv.hi.size]; exact h1
          have e1 : listed[i] = listed.getD i true := by simp [h1]
          rw [e1]
          simp only [doneL, List.getElem_toArray, List.getElem_map, List.getElem_range]
          by_cases hit : i ∈ ts
          · rw [inv.hi.tail i hit]; simp [hit]
          · rw [hlist i hi hit]; simp [hit]
      have hA : a = A := by
        obtain ⟨at_, ad⟩ := a
        obtain ⟨At, Ad⟩ := A
        have h1 := inv.dfr
        simp only at h1
        subst h1
        congr 1
        apply Array.ext
        · exact inv.size
        · intro t h1 h2
          have key : at_.getD t undef = At.getD t undef := by
            by_cases h : ∃ j o', ops[j]? = some o' ∧ j ∉ ts ∧ o'.dst = some t
            · obtain ⟨j, o', ho', hjt, hd⟩ := h
              exact inv.v1 j o' t ho' hjt hd (by
                have hj := (Array.getElem?_eq_some_iff.1 ho').1
                have := hlist j hj hjt
                simp [inv.hi.size, hj] at this ⊢
                exact this)
            · exact inv.v2 t (fun j o' ho' hjt hd => h ⟨j, o', ho', hjt, hd⟩)
          simpa [h1, h2] using key
      subst hA
      rw [Nat.zero_add]
      exact wpAnyIn_of_seqT ts tl listed a w htl (by rw [hL]; exact hseq) hcan
  | succ n ih =>
    intro segs ls es listed A a w hnb hc hM inv hl hcan hph hes hsegs hnd
    have hdl' : ∀ (i : Nat) (o : Oper) (d : Nat), ops[i]? = some o → o.dst = some d → d < A.tmps.size := fun i o d h1 h2 => hM ▸ hdl i o d h1 h2
    rw [show n + 1 + ts.length = (n + ts.length) + 1 by omega]
    have hne : Region.ready .any ops listed ≠ [] := by
      have hex : ∃ i, i < ops.size ∧ listed.getD i true = false := by
        apply Classical.byContradiction
        intro h
        have : (List.range ops.size).filter (fun i => !(ts.contains i) && !(listed.getD i true)) = [] := List.filter_eq_nil_iff.2 (fun i hi => by
          have := List.mem_range.1 hi
          cases hv : listed.getD i true with
          | true => simp
          | false => exact absurd ⟨i, this, hv⟩ h)
        unfold cnt at hc
        rw [this] at hc
        cases hc
      have hmin : ∀ n i, i < n → i < ops.size → listed.getD i true = false → Region.ready .any ops listed ≠ [] := by
        intro n
        induction n with
        | zero => intro i hi; omega
        | succ n ihn =>
          intro i hin hi hun
          by_cases hlow : ∃ k, k < i ∧ listed.getD k true = false
          · obtain ⟨k, hk, hku⟩ := hlow
            exact ihn k (by omega) (by omega) hku
          · intro hr
            have : i ∈ Region.ready .any ops listed := mem_ready.2 ⟨hun, ops[i], Array.getElem?_eq_getElem hi, fun e he hb => by
              have h1 := List.all_eq_true.1 hB'.1.2 i (List.mem_range.2 hi)
              rw [Array.getElem?_eq_getElem hi] at h1
              simp only [Bool.and_eq_true] at h1
              have h2 := Array.all_eq_true'.1 h1.1 e he
              rw [hb] at h2
              have h3 : e.on < i := by simpa [Nat.blt_eq] using h2
              have h4 : listed.getD e.on true ≠ false := fun h => hlow ⟨e.on, h3, h⟩
              have h5 : e.on < listed.size := by rw [inv.hi.size]; omega
              simp [h5] at h4 ⊢
              exact h4⟩
            rw [hr] at this; cases this
      obtain ⟨i, hi, hun⟩ := hex
      exact hmin (i + 1) i (by omega) hi hun
    refine ⟨fun h => absurd h hne, fun i hir => ?_⟩
    obtain ⟨hun, oi, hoi, _⟩ := mem_ready.1 hir
    have hi := (Array.getElem?_eq_some_iff.1 hoi).1
    have hit : i ∉ ts := fun h => by
      have h1 := List.all_eq_true.1 hB'.2 i h
      have hz : cnt ops ts listed = 0 := by
        unfold cnt
        rw [List.length_eq_zero_iff, List.filter_eq_nil_iff]
        intro k hk
        have h2 := List.all_eq_true.1 h1 k hk
        rw [Bool.or_eq_true] at h2
        rcases h2 with h2 | h2
        · simp only [h2]; simp
        · have h3 := waitsP_ready inv.hi.closed hir h2
          have : listed.getD k true = true := by
            have hk' := List.mem_range.1 hk
            simp [inv.hi.size, hk'] at h3 ⊢; exact h3
          rw [this]; simp
      omega
    have hc' : cnt ops ts (listed.setIfInBounds i true) = n := by have := cnt_set hi inv.hi.size hit hun; omega
    have hes' : ∀ es' : List Nat, (∀ e ∈ es', listed.getD e false = true) → ∀ e ∈ es', (listed.setIfInBounds i true).getD e false = true := fun es' h e he => getD_set_true (h e he)
    have nolist : ¬ listed.getD i false = true := fun h => by rw [getD_both hun] at h; cases h
    have byes : es.any (fun e' => Nat.beq e' i || waitsP .any ops f e' i) = true → False := fun h => by
      obtain ⟨e', he', h⟩ := List.any_eq_true.1 h
      simp only [Bool.or_eq_true, Nat.beq_eq] at h
      rcases h with rfl | h
      · exact nolist (hes _ he')
      · exact nolist (waitsP_listed inv.hi.closed f e' i (hes _ he') h)
    cases segs with
    | nil =>
      have h1 := List.all_eq_true.1 hph i (List.mem_range.2 hi)
      simp only [Bool.or_eq_true] at h1
      rcases h1 with (h1 | h1) | h1
      · exact absurd (by simpa using h1) hit
      · exact step_valG hB inv hit hir hdl' (hl i (by simpa [phasesOfG] using h1)) (fun a' inv' => ih [] ls es _ A a' w hnb hc' hM inv' hl hcan hph (hes' es hes) (by simp) (by simp))
      · exact (byes h1).elim
    | cons s segs =>
      obtain ⟨e, res, nw⟩ := s
      have hph0 := hph
      simp only [phasesOfG, phB, Bool.and_eq_true] at hph
      have hse := hsegs (e, res, nw) List.mem_cons_self
      obtain ⟨hnd1, hnd2⟩ := List.nodup_cons.1 hnd
      by_cases hie : i = e
      · subst hie
        obtain ⟨o, ho, hrn⟩ := hcan
        obtain ⟨_, ⟨d, hd⟩, _⟩ := stat_opG hB ho hit
        have hsel : Region.noSelect ops = true := hB'.1.1.1.2
        simp only [newB, List.all_cons, Bool.and_eq_true] at hnb
        obtain ⟨⟨⟨hn1, hn2⟩, hn3⟩, hnb'⟩ := hnb
        refine step_turnG hB inv ho hit hir hrn (fun v w' hk => ?_)
        obtain ⟨hre, l, hml, hlk⟩ := hk
        have hM' : (A.put o.dst v).tmps.size = M := by rw [hd]; simpa [Act.put] using hM
        obtain ⟨A2, hA1, hA2, hA3, hA4, hA5⟩ := lk_canG (c := c) hsel nw l res (A.put o.dst v) hml hn1 hM' hre (fun i hi j hj => List.all_eq_true.1 (List.all_eq_true.1 hn2 i hi) j hj) hlk
        have inv1 := inv_turnG (v := v) hB inv ho hit hir hd (hdl' i o d ho hd)
        have hnl : ∀ j ∈ nw, j ∉ ts ∧ (listed.setIfInBounds i true).getD j false = true → False := fun j hj hl => by
          have h1 := List.all_eq_true.1 hn3 j hj
          simp only [Bool.and_eq_true] at h1
          by_cases hji : j = i
          · subst hji
            have := waitsP_ready inv.hi.closed hir h1.2
            exact nolist this
          · have h2 : listed.getD j false = true := by rw [← getD_set_ne false (Ne.symm hji)]; exact hl.2
            exact nolist (waitsP_listed inv.hi.closed f j i h2 h1.2)
        have inv2 : Inv ops ts A2 (listed.setIfInBounds i true) (a.put o.dst v) := by
          refine ⟨inv1.hi, by rw [inv1.size, hA1, hM'], by rw [inv1.dfr, hA2], fun j o' d' ho' hjt hd' hl => ?_, fun t ht => ?_⟩
          · rw [inv1.v1 j o' d' ho' hjt hd' hl]
            refine (hA3 d' (fun k hk ok hok hdk => ?_)).symm
            have hkt : k ∉ ts := by have h1 := List.all_eq_true.1 hn3 k hk; simp only [Bool.and_eq_true] at h1; simpa using h1.1
            by_cases hkj : k = j
            · subst hkj; exact hnl k hk ⟨hjt, hl⟩
            · exact (stat_opG hB ho' hjt).2.2.1 k ok hok hkt hkj (hdk.trans hd'.symm)
          · rw [inv1.v2 t ht]
            refine (hA3 t (fun k hk ok hok hdk => ?_)).symm
            have hkt : k ∉ ts := by have h1 := List.all_eq_true.1 hn3 k hk; simp only [Bool.and_eq_true] at h1; simpa using h1.1
            exact ht k ok hok hkt hdk
        refine ih segs (res ++ nw) (i :: es) _ A2 _ w' hnb' hc' hA1 inv2 hA4 hA5 hph.2 (fun e he => ?_) (fun s hs => ?_) hnd2
        · rcases List.mem_cons.1 he with rfl | he
          · simp [inv.hi.size, hi]
          · exact getD_set_true (hes e he)
        · have := hsegs s (List.mem_cons_of_mem _ hs)
          refine ⟨this.1, ?_⟩
          rw [getD_set_ne true (by rintro rfl; exact hnd1 (List.mem_map.2 ⟨s, hs, rfl⟩))]
          exact this.2
      · have h1 := List.all_eq_true.1 hph.1.1.2 i (List.mem_range.2 hi)
        simp only [Bool.or_eq_true, Nat.beq_eq] at h1
        rcases h1 with (((h1 | h1) | h1) | h1) | h1
        · exact absurd (by simpa using h1) hit
        · refine step_valG hB inv hit hir hdl' (hl i (by simpa using h1)) (fun a' inv' => ih ((e, res, nw) :: segs) ls es _ A a' w hnb hc' hM inv' hl hcan hph0 (hes' es hes) (fun s hs => ?_) hnd)
          have := hsegs s hs
          refine ⟨this.1, ?_⟩
          rcases List.mem_cons.1 hs with rfl | hs
          · rw [getD_set_ne true hie]; exact this.2
          · by_cases hsi : i = s.1
            · have hm : s.1 ∈ (phasesOfG (res ++ nw) segs).1.map (·.2) := by rw [phasesOfG_e]; exact List.mem_map.2 ⟨s, hs, rfl⟩
              obtain ⟨q, hq, hqe⟩ := List.mem_map.1 hm
              have h5 := List.all_eq_true.1 (List.all_eq_true.1 hph.1.2 i (by simpa using h1)) q hq
              rw [hsi, hqe] at h5
              simp at h5
            · rw [getD_set_ne true hsi]; exact this.2
        · exact absurd h1.symm hie
        · exact (byes h1).elim
        · have := waitsP_ready inv.hi.closed hir h1
          rw [getD_both hse.2] at this; cases this
def drawG (ops : Array Oper) (N : Nat) (ks : List Nat) (segs : Segs) (ts : List Nat) (f : Nat) : Bool :=
  statG ops ts f && orderG ops N ks && newB ops N ts f segs && phB ops ts f [] (phasesOfG ks segs).1 (phasesOfG ks segs).2 && seqT .any ops ts (doneL ops ts) && ops.all (fun o => o.dst.all fun d => Nat.blt d N) &&
    ks.all (fun k => !(ts.contains k)) && segs.all (fun s => !(ts.contains s.1) && Nat.blt s.1 ops.size) && decide ((segs.map (·.1)).Nodup) && Nat.beq (cnt ops ts (Array.replicate ops.size false) + ts.length) ops.size
theorem wDrawG (hm : c.P.follows .mixedOrders = true) {id : Nat} {l hd tl : List Oper} (ks : List Nat) (segs : Segs) (ts : List Nat) (f : Nat) (hB : drawG l.toArray c.N ks segs ts f = true) (hk : ks.mapM (fun k => l[k]?) = some hd) (htl : ts.mapM (fun k => l[k]?) = some tl)
    (h : ∀ w0, O (Md.lk c l.toArray w0 (fun a => segG c l.toArray Q tl segs a w0)) hd E D H) : W c (.region id l.toArray true) Q E D H := by
  intro a w ha hw
  refine wpIn_region_any hm ?_
  simp only [drawG, Bool.and_eq_true, decide_eq_true_eq, Nat.beq_eq] at hB
  obtain ⟨⟨⟨⟨⟨⟨⟨⟨⟨hst, hor⟩, hnb⟩, hph⟩, hseq⟩, hN⟩, hkt⟩, hsg⟩, hnd⟩, hcnt⟩ := hB
  have hst' := hst
  simp only [statG, Bool.and_eq_true] at hst'
  have hsel : Region.noSelect l.toArray = true := hst'.1.1.1.2
  have htr := hst'.1.1.2
  have hks : ks.mapM (fun k => l.toArray[k]?) = some hd := by simpa using hk
  have htl' : ts.mapM (fun k => l.toArray[k]?) = some tl := by simpa using htl
  obtain ⟨A, hA1, hA2, hA3, hA4, hA5⟩ := lk_canG (c := c) hsel ks hd [] a hks hor ha.size (by simp) (by simp) (h w.drew a w.drew ha hw.drew rfl)
  rw [List.nil_append] at hA4
  have hdl : ∀ (i : Nat) (o : Oper) (d : Nat), l.toArray[i]? = some o → o.dst = some d → d < c.N := fun i o d ho hd => by
    obtain ⟨hi, he⟩ := Array.getElem?_eq_some_iff.1 ho
    have h1 := Array.all_eq_true.1 hN i hi
    rw [he, hd] at h1
    simpa [Nat.blt_eq] using h1
  have inv : Inv l.toArray ts A (Array.replicate l.toArray.size false) a := by
    refine ⟨⟨by simp, fun j oj _ hl => (by rw [getD_replicate_false] at hl; cases hl), fun t ht => getD_in (by have := List.all_eq_true.1 htr t ht; simpa [Nat.blt_eq] using this) (getD_replicate_false _ _)⟩, by rw [hA1, ha.size], hA2.symm, fun i o d ho hit hd hl => (by rw [getD_replicate_false] at hl; cases hl), fun t ht => (hA3 t (fun j hj o ho hd => ?_)).symm⟩
    have := List.all_eq_true.1 hkt j hj
    exact ht j o ho (by simpa using this) hd
  have hgo := phasesG (c := c) (Q := Q) hst htl' hseq hdl _ segs ks [] (Array.replicate l.toArray.size false) A a w.drew hnb rfl hA1 inv hA4 hA5 hph (by simp) (fun s hs => by
    have h2 := List.all_eq_true.1 hsg s hs
    simp only [Bool.and_eq_true, Nat.blt_eq] at h2
    exact ⟨h2.2, getD_in (by simpa using h2.2) (getD_replicate_false _ _)⟩) hnd
  rw [hcnt] at hgo
  exact hgo
end
end Go.Proofs.YtogaiijhicfoaaaGreatK


/-
  Values of methods.
-/
namespace Go.Proofs.YtogaiijhicfoaaaGreatK
set_option linter.unusedVariables false
set_option linter.unusedSimpArgs false
open Go.RowKit
section
variable {c : Cx} {N : Md c} {d : Nat} {ty : TypeId} {pos : String} {af : Array Edge} {rest : List Oper} {E : Env} {D : List Deferred} {H : List Res}
end
end Go.Proofs.YtogaiijhicfoaaaGreatK


/-
  min, max; addresses in arrays; arrays by value that come in.
-/
namespace Go.Proofs.YtogaiijhicfoaaaGreatK
set_option linter.unusedVariables false
set_option linter.unusedSimpArgs false
open Go.RowKit Go.ChangeShapes Go.WideShapes
section
variable {c : Cx} {M : Md c} {d : Nat} {ty : TypeId} {pos : String} {af : Array Edge} {rest : List Oper} {E : Env} {D : List Deferred} {H : List Res} {x y : Operand} {t t' : TypeId}
theorem oMaxI {k : IntKind} {a b : Int} (hx : E.op x = some (.int k a)) (hy : E.op y = some (.int k b)) (h : O M rest ((d, .int k (if a < b then b else a)) :: E) D H) (hN : Nat.blt d c.N = true := by rfl) : O M (⟨some d, .call { callee := .builtin .max, args := #[x, y], argTypes := #[t, t'] }, ty, pos, af, none⟩ :: rest) E D H :=
  oC _ rfl hN (fun u w ha hw => by
    simp only [execOp, resolve, ha.op hx, ha.op hy, invoke, builtin, Builtin.max_, List.map_cons, List.map_nil, Array.toList_map]
    simp [ha.op hx, ha.op hy, Builtin.max2]) h
def arrT (P : Program) (t : TypeId) : Option (Nat × Nat) := match P.underlying t with
  | some (.array n e) => (P.info? e).map fun i => (n, i.size)
  | _ => none
theorem oIdxA {b o i n s m : Nat} {k : IntKind} {z : Int} (hx : E.op x = some (.pointer (some ⟨b, o, none⟩))) (hy : E.op y = some (.int k z)) (hz : z = (i : Int)) (ht : arrT c.P t = some (n, s)) (hi : i < n) (hm : o + i * s = m) (h : O M rest ((d, .pointer (some ⟨b, m, none⟩)) :: E) D H) (hN : Nat.blt d c.N = true := by rfl) : O M (⟨some d, .indexAddr t x y, ty, pos, af, none⟩ :: rest) E D H :=
  oC _ rfl hN (fun u w ha hw => by
    subst hz
    unfold arrT at ht
    cases hu : c.P.underlying t with
    | none => rw [hu] at ht; cases ht
    | some ut =>
      rw [hu] at ht
      cases ut <;> simp only [Option.map_eq_some_iff, reduceCtorEq, false_and, exists_false] at ht
      case array n' e' =>
        obtain ⟨inf, h2, h3⟩ := ht
        injection h3 with h4 h5
        subst h4 h5
        have he : (⟨b, o, none⟩ : Addr).add (i * inf.size) = ⟨b, m, none⟩ := by rw [add_at, hm]
        simp [execOp, ha.op hx, ha.op hy, Instr.indexAt, asIntOf, run_underlying hu, Instr.sureAddr, sizeOf, typeInfo, h2, hi, he]) h
end
end Go.Proofs.YtogaiijhicfoaaaGreatK
