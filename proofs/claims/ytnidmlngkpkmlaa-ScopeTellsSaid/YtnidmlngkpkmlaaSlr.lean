/-
  The separation logic's rules for a range over a function: what an iterator owes, the statement's rule outside and inside a round, the end of a function that holds such loops.
-/
import Derived.Test.YtnidmlngkpkmlaaSl
namespace Go.Proofs.YtnidmlngkpkmlaaSl
open Go.RowKit Go.Shelf Go.Proofs.YtnidmlngkpkmlaaW.PrintWords

theorem Sep.all (n0 : Nat) (w : World) (Φ : List Res) : Sep n0 w Φ ↔ (∀ r ∈ Φ, r.q w ∧ ∀ k, r.fp k → n0 ≤ k) ∧ Φ.Pairwise (fun r s => ∀ k, r.fp k → ¬ s.fp k) := by
  induction Φ with
  | nil => simp [Sep]
  | cons r Φ ih =>
    simp only [Sep, ih, List.mem_cons, List.pairwise_cons, forall_eq_or_imp]
    constructor
    · rintro ⟨a, b, c, d, e⟩; exact ⟨⟨⟨a, b⟩, d⟩, c, e⟩
    · rintro ⟨⟨⟨a, b⟩, d⟩, c, e⟩; exact ⟨a, b, c, d, e⟩
variable {n0 : Nat} {w0 w w' : World} {Φ Φ' Ψ Fr : List Res} {r r' : Res} {P : Program}
theorem St.perm (h : St n0 w0 Φ w) (hp : Φ.Perm Φ') : St n0 w0 Φ' w := by
  refine ⟨h.below, h.le, (Sep.all _ _ _).2 ?_⟩
  obtain ⟨h1, h2⟩ := (Sep.all _ _ _).1 h.sep
  exact ⟨fun r hr => h1 r (hp.mem_iff.2 hr), (hp.pairwise_iff (fun {a b} hab k hb ha => hab k ha hb)).1 h2⟩
theorem St.swap (h : St n0 w0 (Φ ++ Ψ) w) : St n0 w0 (Ψ ++ Φ) w := h.perm List.perm_append_comm
theorem St.tail (h : St n0 w0 (Φ ++ Ψ) w) : St n0 w0 Ψ w := by
  obtain ⟨h1, h2⟩ := (Sep.all _ _ _).1 h.sep
  exact ⟨h.below, h.le, (Sep.all _ _ _).2 ⟨fun r hr => h1 r (List.mem_append_right _ hr), (List.pairwise_append.1 h2).2.1⟩⟩
theorem St.drop (h : St n0 w0 (r :: Φ) w) : St n0 w0 Φ w := ⟨h.below, h.le, h.sep.2.2.2⟩
theorem St.head (h : St n0 w0 (Φ ++ Ψ) w) : St n0 w0 Φ w := h.swap.tail

theorem Pick.perm (hp : Pick Φ r Φ') : Φ.Perm (r :: Φ') := by
  induction hp with
  | here => exact .refl _
  | there _ ih => exact (ih.cons _).trans (.swap _ _ _)
/-- How an iterator may end. -/
def IterEnd (n0 : Nat) (w0 : World) (N : Nat) (A Ax : Nat → List Res → Prop) (Fr0 : List Res) (e : Ending) (W' : World) : Prop :=
  (∃ v, e = .returned v) ∧ ((∃ Ψ', A N Ψ' ∧ St n0 w0 (Fr0 ++ Ψ') W') ∨ (∃ j Ψ', j < N ∧ Ax (j + 1) Ψ' ∧ St n0 w0 (Fr0 ++ Ψ') W'))
/-- How a call of yield may end. -/
def YieldEnd (n0 : Nat) (w0 : World) (j : Nat) (A Ax : Nat → List Res → Prop) (Fr : List Res) (e : Ending) (W' : World) : Prop :=
  (e = .returned (.bool true) ∧ ∃ Ψ', A (j + 1) Ψ' ∧ St n0 w0 (Fr ++ Ψ') W') ∨ (e = .returned (.bool false) ∧ ∃ Ψ', Ax (j + 1) Ψ' ∧ St n0 w0 (Fr ++ Ψ') W')
/-- What the iterator g (what it has captured: lb), which hands out xs, owes to whatever loop. Fr0: its own resources. -/
def IterC (P : Program) (g : Nat) (lb : Array Value) (n0 : Nat) (w0 : World) (xs : List (Array Value)) (Fr0 : List Res) : Prop :=
  ∀ (l : Nat) (A Ax : Nat → List Res → Prop) (Ψ0 : List Res) (W : World),
    (∀ (j : Nat) (hj : j < xs.length) (Ψ Fr : List Res) (W1 : World), A j Ψ → St n0 w0 (Fr ++ Ψ) W1 →
      YieldAt Fence.wide 0 P l xs[j] W1 (YieldEnd n0 w0 j A Ax Fr)) →
    A 0 Ψ0 → St n0 w0 (Fr0 ++ Ψ0) W →
    CallsIn Fence.wide 0 P g (#[.func (.yield l) #[] #[]] ++ lb) W (IterEnd n0 w0 xs.length A Ax Fr0)

/-- How a round may be left. -/
def roundQ (n0 : Nat) (w0 : World) (Fr : List Res) (I : Nat → List Res → Prop) (Ix : Nat → Code → List Res → Prop) (j : Nat) : Exit → Act → World → Prop
  | .normal, _, W' => ∃ Ψ', I (j + 1) Ψ' ∧ St n0 w0 (Ψ' ++ Fr) W'
  | .ret, _, W' => ∃ Ψ', Ix (j + 1) .ret Ψ' ∧ St n0 w0 (Ψ' ++ Fr) W'
  | .exit id, _, W' => ∃ Ψ', Ix (j + 1) (.exit id) Ψ' ∧ St n0 w0 (Ψ' ++ Fr) W'
  | .goto t, _, W' => ∃ Ψ', Ix (j + 1) (.goto t) Ψ' ∧ St n0 w0 (Ψ' ++ Fr) W'
  | .panic _, _, _ => False
  | .outgrown, _, _ => False

/-- The frame in which the assignment to the loop's left sides is walked. -/
def handed (ps : Array Tmp) (xs : Array Value) (tmps : Array Value) : Array Value := (ps.toList.zip xs.toList).foldl (fun t p => t.setIfInBounds p.1 p.2) tmps
theorem handed_eq (ps : Array Tmp) (xs : Array Value) (tmps : Array Value) : (ps.zip xs).foldl (fun t (p, v) => t.setIfInBounds p v) tmps = handed ps xs tmps := by
  unfold handed; rw [← Array.foldl_toList, Array.toList_zip]

/-- One round, as the iterator meets it. -/
theorem yield_round {l : Nat} {fn : FuncId} {tmps : Array Value} {ps : Array Tmp} {assign body : Code} {D : Nat} {x : Array Value} {I : Nat → List Res → Prop} {Ix : Nat → Code → List Res → Prop} {j : Nat} {Fr0 : List Res} {W1 : World}
    (hS : St n0 w0 (ob l (.loop { state := .ready, pending := none, fn, tmps, params := ps, assign, body, defers := D }) :: (Ψ ++ Fr0)) W1) (hps : x.size = ps.size)
    (hround : ∀ (Fr : List Res) (W : World), St n0 w0 (Ψ ++ Fr) W →
      assign.wpIn (Fence.wide.inRound l) 0 P (Exit.then (fun a1 W1 => ∃ Ψ1, St n0 w0 (Ψ1 ++ Fr) W1 ∧
        ∀ (Fr2 : List Res) (W2 : World) (rec : Loop) (Fr3 : List Res), Pick Fr2 (ob l (.loop rec)) Fr3 → rec.defers = D → St n0 w0 (Ψ1 ++ Fr2) W2 →
          body.wpIn (Fence.wide.inRound l) 0 P (roundQ n0 w0 Fr2 I Ix j) a1 W2) (fun _ _ _ => False)) { tmps := handed ps x tmps, defers := [] } W) :
    YieldAt Fence.wide 0 P l x W1 fun e W' =>
      (e = .returned (.bool true) ∧ ∃ Ψ', I (j + 1) Ψ' ∧ St n0 w0 (ob l (.loop { state := .ready, pending := none, fn, tmps, params := ps, assign, body, defers := D }) :: (Ψ' ++ Fr0)) W') ∨
      (e = .returned (.bool false) ∧ ∃ c Ψ', Ix (j + 1) c Ψ' ∧ St n0 w0 (ob l (.loop { state := .done, pending := some c, fn, tmps, params := ps, assign, body, defers := D }) :: (Ψ' ++ Fr0)) W') := by
  have hl : W1.heap[l]? = some (.loop { state := .ready, pending := none, fn, tmps, params := ps, assign, body, defers := D }) := hS.get .here
  refine ⟨fn, _, assign, body, run_yield (P := P) (args := x) hl hps, roundIn_of_wpIn trivial ?_⟩
  rw [handed_eq]
  have hS1 : St n0 w0 (Ψ ++ (ob l (.loop { state := .ready, pending := none, fn, tmps, params := ps, assign, body, defers := D }) :: Fr0)) W1 := hS.perm List.perm_middle.symm
  refine wpIn_mono (hround _ _ hS1) ?_
  rintro e a1 Wa hp
  cases e with
  | normal =>
    obtain ⟨Ψ1, hSa, hbody⟩ := hp
    have hSa' := hSa.perm List.perm_middle
    have hla : Wa.heap[l]? = some (.loop { state := .ready, pending := none, fn, tmps, params := ps, assign, body, defers := D }) := hSa'.get .here
    refine ⟨_, run_beginRound hla rfl, ?_⟩
    have hSb : St n0 w0 (ob l (.loop { state := .busy, pending := none, fn, tmps, params := ps, assign, body, defers := D }) :: (Ψ1 ++ Fr0)) (Wa.putObj l (.loop { state := .busy, pending := none, fn, tmps, params := ps, assign, body, defers := D })) := hSa'.put .here
    refine wpIn_mono (hbody _ _ _ Fr0 .here rfl (hSb.perm List.perm_middle.symm)) ?_
    have fin : ∀ (jump : Option Code) (Ψ' : List Res) (W3 : World), St n0 w0 (Ψ' ++ ob l (.loop { state := .busy, pending := none, fn, tmps, params := ps, assign, body, defers := D }) :: Fr0) W3 →
        ∃ v w', (Instr.endRound l jump).run P W3 = .ok v w' ∧ v = .bool jump.isNone ∧ St n0 w0 (ob l (.loop { state := if jump.isNone then .ready else .done, pending := jump, fn, tmps, params := ps, assign, body, defers := D }) :: (Ψ' ++ Fr0)) w' := fun jump Ψ' W3 h3 => by
      have h3' := h3.perm List.perm_middle
      have hl3 : W3.heap[l]? = some (.loop { state := .busy, pending := none, fn, tmps, params := ps, assign, body, defers := D }) := h3'.get .here
      exact ⟨_, _, run_endRound jump hl3, rfl, h3'.put .here⟩
    rintro e a3 W3 hp
    cases e with
    | normal => obtain ⟨Ψ', hI, h3⟩ := hp; obtain ⟨v, w', hr, rfl, h4⟩ := fin none Ψ' W3 h3; exact ⟨_, _, hr, .inl ⟨rfl, Ψ', hI, h4⟩⟩
    | ret => obtain ⟨Ψ', hI, h3⟩ := hp; obtain ⟨v, w', hr, rfl, h4⟩ := fin (some .ret) Ψ' W3 h3; exact ⟨_, _, hr, .inr ⟨rfl, _, Ψ', hI, h4⟩⟩
    | exit id => obtain ⟨Ψ', hI, h3⟩ := hp; obtain ⟨v, w', hr, rfl, h4⟩ := fin (some (.exit id)) Ψ' W3 h3; exact ⟨_, _, hr, .inr ⟨rfl, _, Ψ', hI, h4⟩⟩
    | goto t => obtain ⟨Ψ', hI, h3⟩ := hp; obtain ⟨v, w', hr, rfl, h4⟩ := fin (some (.goto t)) Ψ' W3 h3; exact ⟨_, _, hr, .inr ⟨rfl, _, Ψ', hI, h4⟩⟩
    | panic ch => exact hp.elim
    | outgrown => exact hp.elim
  | exit id => exact hp.elim
  | goto t => exact hp.elim
  | ret => exact hp.elim
  | panic ch => exact hp.elim
  | outgrown => exact hp.elim

/-- The statement outside of a round. -/
theorem wpIn_range {g : Operand} {ps : Array Tmp} {assign body : Code} {Q : Exit → Act → World → Prop} {a : Act} {Ψ0 Fr0 : List Res} {gf : Nat} {lb : Array Value} {xs : List (Array Value)}
    (hS : St n0 w0 (Ψ0 ++ Fr0) w) (hg : a.eval g = .func (.func gf) #[] lb) (eg : ∀ args w, (callFunc gf args).run P w = .ok (.enter gf args) w)
    (hit : IterC P gf lb n0 w0 xs Fr0) (hps : ∀ (j : Nat) (hj : j < xs.length), (xs[j]).size = ps.size)
    (I : Nat → List Res → Prop) (Ix : Nat → Code → List Res → Prop) (h0 : I 0 Ψ0)
    (hround : ∀ (l D : Nat) (j : Nat) (hj : j < xs.length) (Ψ Fr : List Res) (W : World), I j Ψ → St n0 w0 (Ψ ++ Fr) W →
      assign.wpIn (Fence.wide.inRound l) 0 P (Exit.then (fun a1 W1 => ∃ Ψ1, St n0 w0 (Ψ1 ++ Fr) W1 ∧
        ∀ (Fr2 : List Res) (W2 : World) (rec : Loop) (Fr3 : List Res), Pick Fr2 (ob l (.loop rec)) Fr3 → rec.defers = D → St n0 w0 (Ψ1 ++ Fr2) W2 →
          body.wpIn (Fence.wide.inRound l) 0 P (roundQ n0 w0 Fr2 I Ix j) a1 W2) (fun _ _ _ => False)) { tmps := handed ps xs[j] a.tmps, defers := [] } W)
    (hdone : ∀ (D : Nat) (Ψ : List Res) (W : World), I xs.length Ψ → St n0 w0 (ob D (.deferred (some [])) :: (Ψ ++ Fr0)) W → Q .normal { a with defers := { target := .collected D, args := #[] } :: a.defers } W)
    (hstop : ∀ (D : Nat) (j : Nat) (c : Code) (Ψ : List Res) (W : World), j < xs.length → Ix (j + 1) c Ψ → St n0 w0 (ob D (.deferred (some [])) :: (Ψ ++ Fr0)) W → c.wpIn Fence.wide 0 P Q { a with defers := { target := .collected D, args := #[] } :: a.defers } W) :
    (Code.rangeFunc g ps assign body).wpIn Fence.wide 0 P Q a w := by
  refine wpIn_rangeFunc ?_
  intro fn _
  obtain ⟨W1, hW1⟩ : ∃ W1, (w.alloc (.deferred (some []))).alloc (.loop { state := .ready, pending := none, fn, tmps := a.tmps, params := ps, assign, body, defers := w.heap.size }) = W1 := ⟨_, rfl⟩
  refine ⟨w.heap.size + 1, [{ target := .collected w.heap.size, args := #[] }], W1, { target := .fn (.func gf) lb, args := #[.func (.yield (w.heap.size + 1)) #[] #[]] }, W1, gf,
    #[.func (.yield (w.heap.size + 1)) #[] #[]] ++ lb, W1, by rw [← hW1]; exact run_enterLoop_outer _ _ _ _ _, ?_, fun _ _ => trivial, ?_, fun h => by simp [Fence.wide] at h, ?_⟩
  · simp only [resolve, hg]
    simp [go_sem]
  · simp [invoke, go_sem, eg]
  · have hS1 := (hS.alloc (.deferred (some []))).alloc (.loop { state := .ready, pending := none, fn, tmps := a.tmps, params := ps, assign, body, defers := w.heap.size })
    rw [World.size_alloc, hW1] at hS1
    clear hW1
    generalize hD : w.heap.size = D at hS1 ⊢
    generalize hl : D + 1 = l at hS1 ⊢
    have hS2 : St n0 w0 (Fr0 ++ (ob l (.loop { state := .ready, pending := none, fn, tmps := a.tmps, params := ps, assign, body, defers := D }) :: ob D (.deferred (some [])) :: Ψ0)) W1 := by
      have : (ob l (.loop { state := .ready, pending := none, fn, tmps := a.tmps, params := ps, assign, body, defers := D }) :: ob D (.deferred (some [])) :: (Ψ0 ++ Fr0)) = (ob l (.loop { state := .ready, pending := none, fn, tmps := a.tmps, params := ps, assign, body, defers := D }) :: ob D (.deferred (some [])) :: Ψ0) ++ Fr0 := rfl
      rw [this] at hS1
      exact hS1.swap
    refine (hit l (fun j Ψ => ∃ Ψ', Ψ = ob l (.loop { state := .ready, pending := none, fn, tmps := a.tmps, params := ps, assign, body, defers := D }) :: ob D (.deferred (some [])) :: Ψ' ∧ I j Ψ')
      (fun j Ψ => ∃ c Ψ', Ψ = ob l (.loop { state := .done, pending := some c, fn, tmps := a.tmps, params := ps, assign, body, defers := D }) :: ob D (.deferred (some [])) :: Ψ' ∧ Ix j c Ψ') _ _ ?_ ⟨Ψ0, rfl, h0⟩ hS2).mono ?_
    · rintro j hj Ψ Fr W1 ⟨Ψ', rfl, hI⟩ hSt
      have hSt' : St n0 w0 (ob l (.loop { state := .ready, pending := none, fn, tmps := a.tmps, params := ps, assign, body, defers := D }) :: (Ψ' ++ (ob D (.deferred (some [])) :: Fr))) W1 := by
        have h1 := hSt.swap
        exact h1.perm (.cons _ (by simpa using List.perm_middle.symm))
      refine YieldAt.mono (yield_round (I := I) (Ix := Ix) (j := j) hSt' (hps j hj) (fun Fr' W' hS' => hround l D j hj Ψ' Fr' W' hI hS')) ?_
      rintro e W' (⟨rfl, Ψ2, hI2, h2⟩ | ⟨rfl, c, Ψ2, hI2, h2⟩)
      · refine .inl ⟨rfl, _, ⟨Ψ2, rfl, hI2⟩, ?_⟩
        exact St.swap (Φ := ob l _ :: ob D (.deferred (some [])) :: Ψ2) (h2.perm (.cons _ List.perm_middle))
      · refine .inr ⟨rfl, _, ⟨c, Ψ2, rfl, hI2⟩, ?_⟩
        exact St.swap (Φ := ob l _ :: ob D (.deferred (some [])) :: Ψ2) (h2.perm (.cons _ List.perm_middle))
    · rintro e W2 ⟨⟨v, rfl⟩, (⟨_, ⟨Ψ', rfl, hI⟩, h2⟩ | ⟨j, _, hj, ⟨c, Ψ', rfl, hI⟩, h2⟩)⟩
      · have h3 := h2.swap
        have hl2 : W2.heap[l]? = some (.loop { state := .ready, pending := none, fn, tmps := a.tmps, params := ps, assign, body, defers := D }) := h3.get .here
        refine ⟨none, _, run_endLoop hl2 (by simp), hdone D Ψ' _ hI ?_⟩
        exact (h3.put (o' := .loop { state := .exhausted, pending := none, fn, tmps := a.tmps, params := ps, assign, body, defers := D }) .here).drop
      · have h3 := h2.swap
        have hl2 : W2.heap[l]? = some (.loop { state := .done, pending := some c, fn, tmps := a.tmps, params := ps, assign, body, defers := D }) := h3.get .here
        refine ⟨some c, _, run_endLoop hl2 (by simp), hstop D j c Ψ' _ hj hI ?_⟩
        exact (h3.put (o' := .loop { state := .exhausted, pending := some c, fn, tmps := a.tmps, params := ps, assign, body, defers := D }) .here).drop
end Go.Proofs.YtnidmlngkpkmlaaSl
