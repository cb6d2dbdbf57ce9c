/-
  The ground of the walks: how data lie (kinds), resources with footprints, and the state of a walk: what it owns, and what lies around it.
-/
import Derived.Below
import Derived.WalkKit
import Derived.KernelRfl
import Derived.RangeFuncRecord
import Derived.Laws.AppendOwn
import Derived.Maps.OwnIn
import Derived.Lib.Hide
namespace Go.Proofs.YtnidmlngkpkmlaaK
set_option linter.unusedVariables false
set_option linter.unusedSimpArgs false
open Classical Go.RowKit

/-! ### 1. Worlds -/
/-- What could be read can be read. -/
def Grow (w w' : World) : Prop := ∀ a v, w.cell? a = some v → w'.cell? a = some v
theorem Grow.refl (w : World) : Grow w w := fun _ _ h => h
theorem Grow.trans {a b c : World} (h : Grow a b) (k : Grow b c) : Grow a c := fun x v hx => k x v (h x v hx)

/-- The base of a walk: the world at its start, and which of its blocks are the walk's own. -/
structure Base where
  w : World
  O : Nat → Prop
/-- The base, without what is the walk's own. -/
noncomputable def Base.e (B : Base) : World := { B.w with heap := B.w.heap.mapIdx fun k o => if B.O k then .deferred none else o }
structure Base.ok (B : Base) (w : World) : Prop where
  os : w.os = B.w.os
  tape : w.tape = B.w.tape
  output : w.output = B.w.output
  size : B.w.heap.size ≤ w.heap.size
  block : ∀ k, k < B.w.heap.size → ¬ B.O k → w.heap[k]? = B.w.heap[k]?
def Base.mine (B : Base) (k : Nat) : Prop := B.O k ∨ B.w.heap.size ≤ k
def Base.at (w : World) : Base := ⟨w, fun _ => False⟩

theorem Base.e_heap (B : Base) (k : Nat) : B.e.heap[k]? = if B.O k then B.w.heap[k]?.map fun _ => .deferred none else B.w.heap[k]? := by
  simp only [Base.e, Array.getElem?_mapIdx]
  split <;> cases B.w.heap[k]? <;> simp_all
theorem Base.grow {B : Base} {w : World} (h : B.ok w) : Grow B.e w := by
  intro a v hv
  unfold World.cell? at hv ⊢
  rw [B.e_heap] at hv
  by_cases ho : B.O a.block
  · rw [if_pos ho] at hv
    cases hb : B.w.heap[a.block]? <;> simp [hb] at hv
  · rw [if_neg ho] at hv
    by_cases hk : a.block < B.w.heap.size
    · rw [h.block _ hk ho]; exact hv
    · rw [Array.getElem?_eq_none (by omega)] at hv; cases hv
theorem Base.at_e (w : World) : (Base.at w).e = w := by
  have h : (Base.at w).e.heap = w.heap := by
    apply Array.ext_getElem?
    intro i
    rw [Base.e_heap, if_neg (show ¬ (Base.at w).O i from fun h => h)]
    rfl
  show ({ w with heap := (Base.at w).e.heap } : World) = w
  rw [h]
theorem Base.at_ok (w : World) : (Base.at w).ok w := ⟨rfl, rfl, rfl, Nat.le_refl _, fun _ _ _ => rfl⟩
theorem Base.at_below {w w' : World} (h : (Base.at w).ok w') : Below w.heap.size w w' := ⟨h.os, h.tape, h.output, h.size, fun k hk => h.block k hk (fun h => h)⟩

/-! ### 2. Kinds of data that are read -/
structure Kd (α : Type) where
  sz : Nat
  K : World → α → List Value → Prop
  K_len : ∀ {w x cs}, K w x cs → cs.length = sz
  K_one : ∀ {w x cs}, K w x cs → ∀ u ∈ cs, u.oneCell' = true
  K_grow : ∀ {w w' : World} {x cs}, Grow w w' → K w x cs → K w' x cs
/-- A row of elements, read. -/
def Kd.C {α : Type} (d : Kd α) (w : World) (A : Option Addr) (xs : List α) : Prop :=
  xs.length ≤ 9223372036854775807 ∧ (0 < xs.length → ∃ ad, A = some ad ∧ ∀ j x, xs[j]? = some x → ∃ c, d.K w x c ∧ ∀ i u, c[i]? = some u → w.cell? (ad.add (j * d.sz + i)) = some u)
namespace Kd
variable {α β : Type} {d : Kd α} {w w' : World} {A : Option Addr} {xs : List α}
theorem C_grow (g : Grow w w') (h : d.C w A xs) : d.C w' A xs := ⟨h.1, fun hn => by
  obtain ⟨ad, e, hc⟩ := h.2 hn
  exact ⟨ad, e, fun j x hx => by
    obtain ⟨c, hK, hcell⟩ := hc j x hx
    exact ⟨c, d.K_grow g hK, fun i u hu => g _ _ (hcell i u hu)⟩⟩⟩
theorem C_nil (d : Kd α) (w : World) (A : Option Addr) : d.C w A [] := ⟨by simp, fun h => by simp at h⟩
def scalar (enc : α → Value) (h1 : ∀ x, (enc x).oneCell' = true) : Kd α where
  sz := 1
  K := fun _ x cs => cs = [enc x]
  K_len := fun h => by rw [h]; rfl
  K_one := fun h u hu => by
    rw [h] at hu
    rw [List.mem_singleton.1 hu]
    exact h1 _
  K_grow := fun _ h => h
def int (k : IntKind) : Kd Int := scalar (Value.int k) (fun _ => rfl)
def bool : Kd Bool := scalar Value.bool (fun _ => rfl)
def string : Kd ByteArray := scalar Value.string (fun _ => rfl)
def slice (d : Kd α) : Kd (List α) where
  sz := 1
  K := fun w xs cs => ∃ A c, cs = [.slice A xs.length c] ∧ xs.length ≤ c ∧ d.C w A xs
  K_len := by
    rintro w x cs ⟨A, c, rfl, _⟩
    rfl
  K_one := by
    rintro w x cs ⟨A, c, rfl, _⟩ u hu
    rw [List.mem_singleton.1 hu]
    rfl
  K_grow := by
    rintro w w' x cs g ⟨A, c, rfl, hl, hC⟩
    exact ⟨A, c, rfl, hl, C_grow g hC⟩
def pair (a : Kd α) (b : Kd β) : Kd (α × β) where
  sz := a.sz + b.sz
  K := fun w x cs => ∃ c1 c2, cs = c1 ++ c2 ∧ a.K w x.1 c1 ∧ b.K w x.2 c2
  K_len := by
    rintro w x cs ⟨c1, c2, rfl, h1, h2⟩
    rw [List.length_append, a.K_len h1, b.K_len h2]
  K_one := by
    rintro w x cs ⟨c1, c2, rfl, h1, h2⟩ u hu
    rcases List.mem_append.1 hu with h | h
    · exact a.K_one h1 u h
    · exact b.K_one h2 u h
  K_grow := by
    rintro w w' x cs g ⟨c1, c2, rfl, h1, h2⟩
    exact ⟨c1, c2, rfl, a.K_grow g h1, b.K_grow g h2⟩
def iso (d : Kd α) (f : β → α) : Kd β where
  sz := d.sz
  K := fun w x cs => d.K w (f x) cs
  K_len := fun h => d.K_len h
  K_one := fun h => d.K_one h
  K_grow := fun g h => d.K_grow g h
end Kd

/-! ### 3. Resources, and the state of a walk -/
/-- What has turned between two worlds lies in S, or is new. -/
structure Chg (w w' : World) (S : Nat → Prop) : Prop where
  os : w'.os = w.os
  tape : w'.tape = w.tape
  output : w'.output = w.output
  size : w.heap.size ≤ w'.heap.size
  block : ∀ k, k < w.heap.size → ¬ S k → w'.heap[k]? = w.heap[k]?
theorem Chg.refl (w : World) (S : Nat → Prop) : Chg w w S := ⟨rfl, rfl, rfl, Nat.le_refl _, fun _ _ _ => rfl⟩
theorem Chg.trans {a b c : World} {S : Nat → Prop} (h : Chg a b S) (k : Chg b c S) : Chg a c S :=
  ⟨k.os.trans h.os, k.tape.trans h.tape, k.output.trans h.output, Nat.le_trans h.size k.size, fun i hi hn => (k.block i (Nat.lt_of_lt_of_le hi h.size) hn).trans (h.block i hi hn)⟩
theorem Chg.of_grown {w w' : World} {row : Option Nat} (h : w.grownBy w' row) : Chg w w' (fun k => some k = row) := ⟨h.os, h.tape, h.output, h.size, h.block⟩
theorem Chg.of_below {w w' : World} (h : Below w.heap.size w w') (S : Nat → Prop) : Chg w w' S := ⟨h.os, h.tape, h.output, h.size, fun k hk _ => h.block k hk⟩
theorem Chg.mono {w w' : World} {S S' : Nat → Prop} (h : Chg w w' S) (hs : ∀ k, S k → S' k) : Chg w w' S' := ⟨h.os, h.tape, h.output, h.size, fun k hk hn => h.block k hk (fun h' => hn (hs k h'))⟩
theorem Chg.alloc (w : World) (o : Obj) (S : Nat → Prop) : Chg w (w.alloc o) S := ⟨rfl, rfl, rfl, by simp, fun k hk _ => Below.heap_alloc _ _ _ hk⟩
theorem Chg.setCell (w : World) (a : Addr) (v : Value) : Chg w (w.setCell a v) (fun k => k = a.block) := ⟨rfl, rfl, rfl, by simp [World.setCell], fun k _ hn => Below.heap_setCell _ _ _ _ hn⟩
theorem Chg.putObj (w : World) (b : Nat) (o : Obj) : Chg w (w.putObj b o) (fun k => k = b) := ⟨rfl, rfl, rfl, by simp, fun k _ hn => World.putObj_heap_other hn⟩
theorem Chg.drew (w : World) (S : Nat → Prop) : Chg w w.drew S := ⟨rfl, rfl, rfl, Nat.le_refl _, fun _ _ _ => rfl⟩

/-- A resource: blocks (its footprint), and what holds of the world as long as these blocks lie as they lay. -/
structure Res where
  fp : Nat → Prop
  q : World → Prop
  inb : ∀ w, q w → ∀ k, fp k → k < w.heap.size
  st : ∀ w w', q w → (∀ k, fp k → w'.heap[k]? = w.heap[k]?) → q w'

def Sep (M : Nat → Prop) (w : World) : List Res → Prop
  | [] => True
  | r :: Φ => r.q w ∧ (∀ k, r.fp k → M k) ∧ (∀ s ∈ Φ, ∀ k, r.fp k → ¬ s.fp k) ∧ Sep M w Φ

structure St (B : Base) (Φ : List Res) (w : World) : Prop where
  ok : B.ok w
  sep : Sep B.mine w Φ

inductive Upd : List Res → Res → Res → List Res → Prop
  | here {r r' : Res} {Φ : List Res} : Upd (r :: Φ) r r' (r' :: Φ)
  | there {x r r' : Res} {Φ Φ' : List Res} (h : Upd Φ r r' Φ') : Upd (x :: Φ) r r' (x :: Φ')
inductive Pick : List Res → Res → List Res → Prop
  | here {r : Res} {Φ : List Res} : Pick (r :: Φ) r Φ
  | there {x r : Res} {Φ Φ' : List Res} (h : Pick Φ r Φ') : Pick (x :: Φ) r (x :: Φ')
/-- Φ is Ψ and the rest Φ'. -/
inductive Split : List Res → List Res → List Res → Prop
  | nil {Φ : List Res} : Split Φ [] Φ
  | cons {r : Res} {Ψ Φ Φ' Φ'' : List Res} (h : Pick Φ r Φ') (k : Split Φ' Ψ Φ'') : Split Φ (r :: Ψ) Φ''

/-- Ψ is among Φ. -/
inductive Has : List Res → List Res → Prop
  | nil {Φ : List Res} : Has Φ []
  | cons {r : Res} {Ψ Φ Φ' : List Res} (h : Pick Φ r Φ') (k : Has Φ' Ψ) : Has Φ (r :: Ψ)
theorem Has.split {Φ Ψ : List Res} (h : Has Φ Ψ) : ∃ Φ', Split Φ Ψ Φ' := by
  induction h with
  | nil => exact ⟨_, .nil⟩
  | cons h _ ih => obtain ⟨Φ', h'⟩ := ih; exact ⟨Φ', .cons h h'⟩

theorem Upd.mem {Φ Φ' : List Res} {r r' : Res} (h : Upd Φ r r' Φ') : r ∈ Φ := by
  induction h with
  | here => exact List.mem_cons_self
  | there _ ih => exact List.mem_cons_of_mem _ ih
theorem Upd.from_ {Φ Φ' : List Res} {r r' : Res} (h : Upd Φ r r' Φ') : ∀ s ∈ Φ', s = r' ∨ s ∈ Φ := by
  induction h with
  | here => exact fun s hs => (List.mem_cons.1 hs).imp id (List.mem_cons_of_mem _)
  | there _ ih => exact fun s hs => (List.mem_cons.1 hs).elim (fun h => .inr (h ▸ List.mem_cons_self)) (fun h => (ih s h).imp id (List.mem_cons_of_mem _))
theorem Pick.mem {Φ Φ' : List Res} {r : Res} (h : Pick Φ r Φ') : r ∈ Φ := by
  induction h with
  | here => exact List.mem_cons_self
  | there _ ih => exact List.mem_cons_of_mem _ ih
theorem Pick.perm {Φ Φ' : List Res} {r : Res} (hp : Pick Φ r Φ') : Φ.Perm (r :: Φ') := by
  induction hp with
  | here => exact .refl _
  | there _ ih => exact (ih.cons _).trans (.swap _ _ _)
theorem Split.perm {Φ Ψ Φ' : List Res} (h : Split Φ Ψ Φ') : Φ.Perm (Ψ ++ Φ') := by
  induction h with
  | nil => exact .refl _
  | cons hp _ ih => exact hp.perm.trans (ih.cons _)

variable {M : Nat → Prop} {B : Base} {w w' : World} {Φ Φ' Ψ : List Res} {r r' : Res}

theorem Sep.get (h : Sep M w Φ) (hm : r ∈ Φ) : r.q w ∧ ∀ k, r.fp k → M k := by
  induction Φ with
  | nil => cases hm
  | cons x Φ ih =>
    obtain ⟨h1, h2, _, h4⟩ := h
    rcases List.mem_cons.1 hm with rfl | hm
    · exact ⟨h1, h2⟩
    · exact ih h4 hm
theorem Sep.keep (h : Sep M w Φ) {S : Nat → Prop} (hc : Chg w w' S) (hd : ∀ s ∈ Φ, ∀ k, S k → ¬ s.fp k) : Sep M w' Φ := by
  induction Φ with
  | nil => trivial
  | cons x Φ ih =>
    obtain ⟨h1, h2, h3, h4⟩ := h
    exact ⟨x.st w w' h1 (fun k hk => hc.block k (x.inb w h1 k hk) (fun hs => hd x List.mem_cons_self k hs hk)), h2, h3, ih h4 (fun s hs => hd s (List.mem_cons_of_mem _ hs))⟩
theorem Sep.upd (h : Sep M w Φ) (hu : Upd Φ r r' Φ') (hn : ∀ k, w.heap.size ≤ k → M k) (hc : Chg w w' r.fp) (hq : r'.q w') (hf : ∀ k, r'.fp k → r.fp k ∨ w.heap.size ≤ k) : Sep M w' Φ' := by
  induction hu with
  | @here r r' Φ =>
    obtain ⟨h1, h2, h3, h4⟩ := h
    refine ⟨hq, fun k hk => ?_, fun s hs k hk hsk => ?_, h4.keep hc h3⟩
    · rcases hf k hk with h | h
      · exact h2 k h
      · exact hn k h
    · rcases hf k hk with h | h
      · exact h3 s hs k h hsk
      · have := s.inb w (h4.get hs).1 k hsk; omega
  | @there x r r' Φ Φ' hu ih =>
    obtain ⟨h1, h2, h3, h4⟩ := h
    refine ⟨x.st w w' h1 (fun k hk => hc.block k (x.inb w h1 k hk) (h3 r hu.mem k hk)), h2, fun s hs k hk hsk => ?_, ih h4 hc hq hf⟩
    rcases hu.from_ s hs with rfl | hs'
    · rcases hf k hsk with h | h
      · exact h3 r hu.mem k hk h
      · have := x.inb w h1 k hk; omega
    · exact h3 s hs' k hk hsk
theorem Sep.all (M : Nat → Prop) (w : World) (Φ : List Res) : Sep M w Φ ↔ (∀ r ∈ Φ, r.q w ∧ ∀ k, r.fp k → M k) ∧ Φ.Pairwise (fun r s => ∀ k, r.fp k → ¬ s.fp k) := by
  induction Φ with
  | nil => simp [Sep]
  | cons r Φ ih =>
    simp only [Sep, ih, List.mem_cons, List.pairwise_cons, forall_eq_or_imp]
    constructor
    · rintro ⟨a, b, c, d, e⟩; exact ⟨⟨⟨a, b⟩, d⟩, c, e⟩
    · rintro ⟨⟨⟨a, b⟩, d⟩, c, e⟩; exact ⟨a, b, c, d, e⟩
theorem St.perm (h : St B Φ w) (hp : Φ.Perm Φ') : St B Φ' w := by
  refine ⟨h.ok, (Sep.all _ _ _).2 ?_⟩
  obtain ⟨h1, h2⟩ := (Sep.all _ _ _).1 h.sep
  exact ⟨fun r hr => h1 r (hp.mem_iff.2 hr), (hp.pairwise_iff (fun {a b} hab k hb ha => hab k ha hb)).1 h2⟩
theorem St.swap (h : St B (Φ ++ Ψ) w) : St B (Ψ ++ Φ) w := h.perm List.perm_append_comm
theorem St.tail (h : St B (Φ ++ Ψ) w) : St B Ψ w := by
  obtain ⟨h1, h2⟩ := (Sep.all _ _ _).1 h.sep
  exact ⟨h.ok, (Sep.all _ _ _).2 ⟨fun r hr => h1 r (List.mem_append_right _ hr), (List.pairwise_append.1 h2).2.1⟩⟩
theorem St.head (h : St B (Φ ++ Ψ) w) : St B Φ w := h.swap.tail
theorem St.drop (h : St B (r :: Φ) w) : St B Φ w := ⟨h.ok, h.sep.2.2.2⟩
/-- Some of the resources. -/
theorem St.sub (h : St B Φ w) (hs : Split Φ Ψ Φ') : St B Ψ w := (h.perm hs.perm).head
theorem St.has (h : St B Φ w) (hs : Has Φ Ψ) : St B Ψ w := by obtain ⟨_, hs⟩ := hs.split; exact h.sub hs
/-- Whoever owns Φ owns Ψ. -/
def Leads (B : Base) (Φ Ψ : List Res) : Prop := ∀ w, St B Φ w → St B Ψ w
theorem Leads.has (h : Has Φ Ψ) : Leads B Φ Ψ := fun _ hS => hS.has h
theorem Leads.trans {Ψ' : List Res} (h : Leads B Φ Ψ) (k : Leads B Ψ Ψ') : Leads B Φ Ψ' := fun w hS => k w (h w hS)
theorem St.get (h : St B Φ w) (hm : Pick Φ r Φ') : r.q w := (h.sep.get hm.mem).1
theorem St.new (h : St B Φ w) : ∀ k, w.heap.size ≤ k → B.mine k := fun k hk => .inr (Nat.le_trans h.ok.size hk)
theorem Base.ok.chg {S : Nat → Prop} (h : B.ok w) (hc : Chg w w' S) (hS : ∀ k, S k → B.mine k) : B.ok w' :=
  ⟨hc.os.trans h.os, hc.tape.trans h.tape, hc.output.trans h.output, Nat.le_trans h.size hc.size, fun k hk hn => (hc.block k (Nat.lt_of_lt_of_le hk h.size) (fun hs => by
    rcases hS k hs with h1 | h1
    · exact hn h1
    · omega)).trans (h.block k hk hn)⟩
theorem St.upd (h : St B Φ w) (hu : Upd Φ r r' Φ') (hc : Chg w w' r.fp) (hq : r'.q w') (hf : ∀ k, r'.fp k → r.fp k ∨ w.heap.size ≤ k) : St B Φ' w' :=
  ⟨h.ok.chg hc (fun k hk => (h.sep.get hu.mem).2 k hk), h.sep.upd hu h.new hc hq hf⟩
theorem St.keep (h : St B Φ w) (hc : Chg w w' (fun _ => False)) : St B Φ w' :=
  ⟨h.ok.chg hc (fun k hk => hk.elim), h.sep.keep hc (fun _ _ _ hk => hk.elim)⟩
theorem St.drew (h : St B Φ w) : St B Φ w.drew := h.keep (Chg.drew _ _)
theorem St.add (h : St B Φ w) (hc : Chg w w' (fun _ => False)) (hq : r.q w') (hf : ∀ k, r.fp k → w.heap.size ≤ k) : St B (r :: Φ) w' := by
  have hk := h.keep hc
  refine ⟨hk.ok, hq, fun k hk' => h.new k (hf k hk'), fun s hs k hrk hsk => ?_, hk.sep⟩
  have := s.inb w (h.sep.get hs).1 k hsk
  have := hf k hrk
  omega
theorem St.start (w : World) : St (Base.at w) [] w := ⟨Base.at_ok w, trivial⟩
theorem St.conv (h : St B Φ w) (hu : Upd Φ r r' Φ') (hq : r.q w → r'.q w) (hf : ∀ k, r'.fp k → r.fp k) : St B Φ' w :=
  h.upd hu (Chg.refl _ _) (hq (h.sep.get hu.mem).1) (fun k hk => .inl (hf k hk))

/-- What a call is given: the resources Ψ as its own; all else is its base. -/
def Base.call (B : Base) (w : World) (Ψ : List Res) : Base := ⟨w, fun k => ∃ r ∈ Ψ, r.fp k⟩
theorem St.lend (h : St B (Ψ ++ Φ) w) : St (B.call w Ψ) Ψ w := by
  refine ⟨⟨rfl, rfl, rfl, Nat.le_refl _, fun _ _ _ => rfl⟩, (Sep.all _ _ _).2 ?_⟩
  obtain ⟨h1, h2⟩ := (Sep.all _ _ _).1 h.head.sep
  exact ⟨fun r hr => ⟨(h1 r hr).1, fun k hk => .inl ⟨r, hr, hk⟩⟩, h2⟩
theorem St.give {Ψ' : List Res} (h : St B (Ψ ++ Φ) w) (h' : St (B.call w Ψ) Ψ' w') : St B (Ψ' ++ Φ) w' := by
  have hs := h.sep
  obtain ⟨h1, h2⟩ := (Sep.all _ _ _).1 hs
  have hpre : ∀ k, (∃ r ∈ Ψ, r.fp k) → B.mine k ∧ k < w.heap.size := by
    rintro k ⟨r, hr, hk⟩
    exact ⟨(h1 r (List.mem_append_left _ hr)).2 k hk, r.inb w (h1 r (List.mem_append_left _ hr)).1 k hk⟩
  have hc : Chg w w' (fun k => ∃ r ∈ Ψ, r.fp k) := ⟨h'.ok.os, h'.ok.tape, h'.ok.output, h'.ok.size, h'.ok.block⟩
  have hok : B.ok w' := h.ok.chg hc (fun k hk => (hpre k hk).1)
  have hdis : ∀ s ∈ Φ, ∀ k, (∃ r ∈ Ψ, r.fp k) → ¬ s.fp k := by
    rintro s hs' k ⟨r, hr, hk⟩ hsk
    exact (List.pairwise_append.1 h2).2.2 r hr s hs' k hk hsk
  have hΦ : Sep B.mine w' Φ := (h.tail.sep).keep hc hdis
  obtain ⟨k1, k2⟩ := (Sep.all _ _ _).1 hΦ
  obtain ⟨g1, g2⟩ := (Sep.all _ _ _).1 h'.sep
  refine ⟨hok, (Sep.all _ _ _).2 ⟨fun r hr => ?_, List.pairwise_append.2 ⟨g2, k2, fun r hr s hs' k hk hsk => ?_⟩⟩⟩
  · rcases List.mem_append.1 hr with hr | hr
    · refine ⟨(g1 r hr).1, fun k hk => ?_⟩
      rcases (g1 r hr).2 k hk with h3 | h3
      · exact (hpre k h3).1
      · exact h.new k h3
    · exact k1 r hr
  · rcases (g1 r hr).2 k hk with h3 | h3
    · exact hdis s hs' k h3 hsk
    · have h4 := (h1 s (List.mem_append_right _ hs')).1
      have := s.inb w h4 k hsk
      have h5 : w.heap.size ≤ k := h3
      omega
/-- What was read of the base is read of the call's base. -/
theorem St.egrow (h : St B (Ψ ++ Φ) w) : Grow B.e (B.call w Ψ).e := by
  intro a v hv
  obtain ⟨h1, _⟩ := (Sep.all _ _ _).1 h.head.sep
  have h0 : B.e.heap[a.block]? = B.w.heap[a.block]? ∧ ¬ B.O a.block ∧ a.block < B.w.heap.size := by
    unfold World.cell? at hv
    rw [B.e_heap] at hv ⊢
    by_cases ho : B.O a.block
    · rw [if_pos ho] at hv
      cases hb : B.w.heap[a.block]? <;> simp [hb] at hv
    · rw [if_neg ho] at hv
      refine ⟨by rw [if_neg ho], ho, ?_⟩
      by_cases hk : a.block < B.w.heap.size
      · exact hk
      · rw [Array.getElem?_eq_none (by omega)] at hv; cases hv
  obtain ⟨h0, ho, hk⟩ := h0
  have hno : ¬ ∃ r ∈ Ψ, r.fp a.block := by
    rintro ⟨r, hr, hf⟩
    rcases (h1 r hr).2 _ hf with h3 | h3
    · exact ho h3
    · omega
  have h3 : (B.call w Ψ).e.heap[a.block]? = B.e.heap[a.block]? := by
    rw [Base.e_heap, h0, if_neg (show ¬ (B.call w Ψ).O a.block from hno)]
    exact h.ok.block _ hk ho
  unfold World.cell? at hv ⊢
  rw [h3]; exact hv

/-! ### 4. Blocks -/
def ob (b : Nat) (o : Obj) : Res where
  fp k := k = b
  q w := w.heap[b]? = some o
  inb w h k hk := by subst hk; exact (Array.getElem?_eq_some_iff.1 h).1
  st w w' h hk := (hk b rfl).trans h
/-- A variable in memory: a block of the cells cs, of a variable of type t. -/
abbrev blk (b : Nat) (t : TypeId) (cs : List Value) : Res := ob b (.cells cs.toArray t (0, 0))
theorem St.alloc (h : St B Φ w) (o : Obj) : St B (ob w.heap.size o :: Φ) (w.alloc o) :=
  h.add (Chg.alloc w o _) (World.alloc_heap_new w o) (fun k hk => by have : k = w.heap.size := hk; omega)
theorem St.put (h : St B Φ w) {b : Nat} {o o' : Obj} (hu : Upd Φ (ob b o) (ob b o') Φ') : St B Φ' (w.putObj b o') :=
  h.upd hu (Chg.putObj w b o') (World.putObj_heap_same (Array.getElem?_eq_some_iff.1 ((h.sep.get hu.mem).1 : w.heap[b]? = some o)).1) (fun k hk => .inl hk)
theorem cell_of {b i : Nat} {t : TypeId} {cs : List Value} {fz : Nat × Nat} (h : w.heap[b]? = some (.cells cs.toArray t fz)) : w.cell? ⟨b, i, none⟩ = cs[i]? := by
  unfold World.cell?; simp [h]
theorem frozen_of {b i : Nat} {t : TypeId} {cs : Array Value} (h : w.heap[b]? = some (.cells cs t (0, 0))) : w.frozen? ⟨b, i, none⟩ = false := by
  unfold World.frozen?; simp [h]
theorem St.cell {b : Nat} {t : TypeId} {cs : List Value} (h : St B Φ w) (hm : Pick Φ (blk b t cs) Φ') (i : Nat) {v : Value} (hv : cs[i]? = some v) : w.cell? ⟨b, i, none⟩ = some v := by
  rw [cell_of (h.get hm)]; exact hv
theorem St.ext (h : St B Φ w) {a : Addr} {v : Value} (hc : B.e.cell? a = some v) : w.cell? a = some v := Base.grow h.ok a v hc
theorem set_heap {b i : Nat} {t : TypeId} {cs : List Value} {v : Value} (h : w.heap[b]? = some (.cells cs.toArray t (0, 0))) : (w.setCell ⟨b, i, none⟩ v).heap[b]? = some (.cells (cs.set i v).toArray t (0, 0)) := by
  simp [World.setCell, Array.getElem?_modify, h]
theorem St.set {b : Nat} {t : TypeId} {cs : List Value} (h : St B Φ w) (i : Nat) (v : Value) (hu : Upd Φ (blk b t cs) (blk b t (cs.set i v)) Φ') : St B Φ' (w.setCell ⟨b, i, none⟩ v) :=
  h.upd hu (Chg.setCell w ⟨b, i, none⟩ v) (set_heap (h.sep.get hu.mem).1) (fun k hk => .inl hk)
end Go.Proofs.YtnidmlngkpkmlaaK
