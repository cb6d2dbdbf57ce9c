/-
  Texts Ka, Kb, Kc, Kd, Ke, Kf, Kg, Kh, Ki, Kj, Kn, Kk, Ko in one.
-/
import Derived.Below
import Derived.WalkKit
import Derived.KernelRfl
import Derived.RangeFuncRecord
import Derived.Laws.AppendOwn
import Derived.Maps.OwnIn
import Derived.Lib.Hide
import Derived.TacticsIn
import Derived.StillTail
import Derived.Calls
import Derived.BigFrameIn
import Derived.LoopNIn
import Derived.RangeFuncCalls
import Derived.IntWalk
import Derived.WideLaws
import Derived.Laws.Strings
import Derived.Laws.Tables
import Derived.Laws.OwnMore
import Derived.Laws.MakeOwn
import Derived.Laws.Cells
import Derived.Laws.Entries
import Derived.Maps.AppendAt
import Derived.DataElems
import Derived.Deep.Slices
import Derived.DataReads

/-
  The ground of the walks: how data lie (kinds), resources with footprints, and the state of a walk: what it owns, and what lies around it.
-/
namespace Go.Proofs.YtogaiijhicfoaaaGreatK
set_option linter.unusedVariables false
set_option linter.unusedSimpArgs false
open Classical Go.RowKit

def Grow (w w' : World) : Prop := ∀ a v, w.cell? a = some v → w'.cell? a = some v
theorem Grow.refl (w : World) : Grow w w := fun _ _ h => h
theorem Grow.trans {a b c : World} (h : Grow a b) (k : Grow b c) : Grow a c := fun x v hx => k x v (h x v hx)

structure Base where
  w : World
  O : Nat → Prop
noncomputable def Base.e (B : Base) : World := { B.w with heap := B.w.heap.mapIdx fun k o => if B.O k then .deferred none else o }
structure Base.ok (B : Base) (w : World) : Prop where
  os : w.os = B.w.os
  tape : w.tape = B.w.tape
  output : w.output = B.w.output
  size : B.w.heap.size ≤ w.heap.size
  block : ∀ k, k < B.w.heap.size → ¬ B.O k → w.heap[k]? = B.w.heap[k]?
def Base.mine (B : Base) (k : Nat) : Prop := B.O k ∨ B.w.heap.size ≤ k
def Base.at (w : World) : Base := ⟨w, fun _ => False⟩

theorem Base.e_heap (B : Base) (k : Nat) : B.e.heap[k]? = if B.O k then B.w.heap[k]?.map fun _ => .deferred none else B.w.heap[k]? := by
  simp only [Base.e, Array.getElem?_mapIdx]
  split <;> cases B.w.heap[k]? <;> simp_all
theorem Base.grow {B : Base} {w : World} (h : B.ok w) : Grow B.e w := by
  intro a v hv
  unfold World.cell? at hv ⊢
  rw [B.e_heap] at hv
  by_cases ho : B.O a.block
  · rw [if_pos ho] at hv
    cases hb : B.w.heap[a.block]? <;> simp [hb] at hv
  · rw [if_neg ho] at hv
    by_cases hk : a.block < B.w.heap.size
    · rw [h.block _ hk ho]; exact hv
    · rw [Array.getElem?_eq_none (by omega)] at hv; cases hv
theorem Base.at_e (w : World) : (Base.at w).e = w := by
  have h : (Base.at w).e.heap = w.heap := by
    apply Array.ext_getElem?
    intro i
    rw [Base.e_heap, if_neg (show ¬ (Base.at w).O i from fun h => h)]
    rfl
  show ({ w with heap := (Base.at w).e.heap } : World) = w
  rw [h]
theorem Base.at_ok (w : World) : (Base.at w).ok w := ⟨rfl, rfl, rfl, Nat.le_refl _, fun _ _ _ => rfl⟩
theorem Base.at_below {w w' : World} (h : (Base.at w).ok w') : Below w.heap.size w w' := ⟨h.os, h.tape, h.output, h.size, fun k hk => h.block k hk (fun h => h)⟩

structure Kd (α : Type) where
  sz : Nat
  K : World → α → List Value → Prop
  K_len : ∀ {w x cs}, K w x cs → cs.length = sz
  K_one : ∀ {w x cs}, K w x cs → ∀ u ∈ cs, u.oneCell' = true
  K_grow : ∀ {w w' : World} {x cs}, Grow w w' → K w x cs → K w' x cs
def Kd.C {α : Type} (d : Kd α) (w : World) (A : Option Addr) (xs : List α) : Prop :=
  xs.length ≤ 9223372036854775807 ∧ (0 < xs.length → ∃ ad, A = some ad ∧ ∀ j x, xs[j]? = some x → ∃ c, d.K w x c ∧ ∀ i u, c[i]? = some u → w.cell? (ad.add (j * d.sz + i)) = some u)
namespace Kd
variable {α β : Type} {d : Kd α} {w w' : World} {A : Option Addr} {xs : List α}
theorem C_grow (g : Grow w w') (h : d.C w A xs) : d.C w' A xs := ⟨h.1, fun hn => by
  obtain ⟨ad, e, hc⟩ := h.2 hn
  exact ⟨ad, e, fun j x hx => by
    obtain ⟨c, hK, hcell⟩ := hc j x hx
    exact ⟨c, d.K_grow g hK, fun i u hu => g _ _ (hcell i u hu)⟩⟩⟩
theorem C_nil (d : Kd α) (w : World) (A : Option Addr) : d.C w A [] := ⟨by simp, fun h => by simp at h⟩
def scalar (enc : α → Value) (h1 : ∀ x, (enc x).oneCell' = true) : Kd α where
  sz := 1
  K := fun _ x cs => cs = [enc x]
  K_len := fun h => by rw [h]; rfl
  K_one := fun h u hu => by
    rw [h] at hu
    rw [List.mem_singleton.1 hu]
    exact h1 _
  K_grow := fun _ h => h
def int (k : IntKind) : Kd Int := scalar (Value.int k) (fun _ => rfl)
def bool : Kd Bool := scalar Value.bool (fun _ => rfl)
def string : Kd ByteArray := scalar Value.string (fun _ => rfl)
def slice (d : Kd α) : Kd (List α) where
  sz := 1
  K := fun w xs cs => ∃ A c, cs = [.slice A xs.length c] ∧ xs.length ≤ c ∧ d.C w A xs
  K_len := by
    rintro w x cs ⟨A, c, rfl, _⟩
    rfl
  K_one := by
    rintro w x cs ⟨A, c, rfl, _⟩ u hu
    rw [List.mem_singleton.1 hu]
    rfl
  K_grow := by
    rintro w w' x cs g ⟨A, c, rfl, hl, hC⟩
    exact ⟨A, c, rfl, hl, C_grow g hC⟩
def pair (a : Kd α) (b : Kd β) : Kd (α × β) where
  sz := a.sz + b.sz
  K := fun w x cs => ∃ c1 c2, cs = c1 ++ c2 ∧ a.K w x.1 c1 ∧ b.K w x.2 c2
  K_len := by
    rintro w x cs ⟨c1, c2, rfl, h1, h2⟩
    rw [List.length_append, a.K_len h1, b.K_len h2]
  K_one := by
    rintro w x cs ⟨c1, c2, rfl, h1, h2⟩ u hu
    rcases List.mem_append.1 hu with h | h
    · exact a.K_one h1 u h
    · exact b.K_one h2 u h
  K_grow := by
    rintro w w' x cs g ⟨c1, c2, rfl, h1, h2⟩
    exact ⟨c1, c2, rfl, a.K_grow g h1, b.K_grow g h2⟩
def iso (d : Kd α) (f : β → α) : Kd β where
  sz := d.sz
  K := fun w x cs => d.K w (f x) cs
  K_len := fun h => d.K_len h
  K_one := fun h => d.K_one h
  K_grow := fun g h => d.K_grow g h
end Kd

structure Chg (w w' : World) (S : Nat → Prop) : Prop where
  os : w'.os = w.os
  tape : w'.tape = w.tape
  output : w'.output = w.output
  size : w.heap.size ≤ w'.heap.size
  block : ∀ k, k < w.heap.size → ¬ S k → w'.heap[k]? = w.heap[k]?
theorem Chg.refl (w : World) (S : Nat → Prop) : Chg w w S := ⟨rfl, rfl, rfl, Nat.le_refl _, fun _ _ _ => rfl⟩
theorem Chg.trans {a b c : World} {S : Nat → Prop} (h : Chg a b S) (k : Chg b c S) : Chg a c S :=
  ⟨k.os.trans h.os, k.tape.trans h.tape, k.output.trans h.output, Nat.le_trans h.size k.size, fun i hi hn => (k.block i (Nat.lt_of_lt_of_le hi h.size) hn).trans (h.block i hi hn)⟩
theorem Chg.of_grown {w w' : World} {row : Option Nat} (h : w.grownBy w' row) : Chg w w' (fun k => some k = row) := ⟨h.os, h.tape, h.output, h.size, h.block⟩
theorem Chg.mono {w w' : World} {S S' : Nat → Prop} (h : Chg w w' S) (hs : ∀ k, S k → S' k) : Chg w w' S' := ⟨h.os, h.tape, h.output, h.size, fun k hk hn => h.block k hk (fun h' => hn (hs k h'))⟩
theorem Chg.alloc (w : World) (o : Obj) (S : Nat → Prop) : Chg w (w.alloc o) S := ⟨rfl, rfl, rfl, by simp, fun k hk _ => Below.heap_alloc _ _ _ hk⟩
theorem Chg.setCell (w : World) (a : Addr) (v : Value) : Chg w (w.setCell a v) (fun k => k = a.block) := ⟨rfl, rfl, rfl, by simp [World.setCell], fun k _ hn => Below.heap_setCell _ _ _ _ hn⟩
theorem Chg.putObj (w : World) (b : Nat) (o : Obj) : Chg w (w.putObj b o) (fun k => k = b) := ⟨rfl, rfl, rfl, by simp, fun k _ hn => World.putObj_heap_other hn⟩
theorem Chg.drew (w : World) (S : Nat → Prop) : Chg w w.drew S := ⟨rfl, rfl, rfl, Nat.le_refl _, fun _ _ _ => rfl⟩

structure Res where
  fp : Nat → Prop
  q : World → Prop
  inb : ∀ w, q w → ∀ k, fp k → k < w.heap.size
  st : ∀ w w', q w → (∀ k, fp k → w'.heap[k]? = w.heap[k]?) → q w'

def Sep (M : Nat → Prop) (w : World) : List Res → Prop
  | [] => True
  | r :: Φ => r.q w ∧ (∀ k, r.fp k → M k) ∧ (∀ s ∈ Φ, ∀ k, r.fp k → ¬ s.fp k) ∧ Sep M w Φ

structure St (B : Base) (Φ : List Res) (w : World) : Prop where
  ok : B.ok w
  sep : Sep B.mine w Φ

inductive Upd : List Res → Res → Res → List Res → Prop
  | here {r r' : Res} {Φ : List Res} : Upd (r :: Φ) r r' (r' :: Φ)
  | there {x r r' : Res} {Φ Φ' : List Res} (h : Upd Φ r r' Φ') : Upd (x :: Φ) r r' (x :: Φ')
inductive Pick : List Res → Res → List Res → Prop
  | here {r : Res} {Φ : List Res} : Pick (r :: Φ) r Φ
  | there {x r : Res} {Φ Φ' : List Res} (h : Pick Φ r Φ') : Pick (x :: Φ) r (x :: Φ')
inductive Split : List Res → List Res → List Res → Prop
  | nil {Φ : List Res} : Split Φ [] Φ
  | cons {r : Res} {Ψ Φ Φ' Φ'' : List Res} (h : Pick Φ r Φ') (k : Split Φ' Ψ Φ'') : Split Φ (r :: Ψ) Φ''

inductive Has : List Res → List Res → Prop
  | nil {Φ : List Res} : Has Φ []
  | cons {r : Res} {Ψ Φ Φ' : List Res} (h : Pick Φ r Φ') (k : Has Φ' Ψ) : Has Φ (r :: Ψ)
theorem Has.split {Φ Ψ : List Res} (h : Has Φ Ψ) : ∃ Φ', Split Φ Ψ Φ' := by
  induction h with
  | nil => exact ⟨_, .nil⟩
  | cons h _ ih => obtain ⟨Φ', h'⟩ := ih; exact ⟨Φ', .cons h h'⟩

theorem Upd.mem {Φ Φ' : List Res} {r r' : Res} (h : Upd Φ r r' Φ') : r ∈ Φ := by
  induction h with
  | here => exact List.mem_cons_self
  | there _ ih => exact List.mem_cons_of_mem _ ih
theorem Upd.from_ {Φ Φ' : List Res} {r r' : Res} (h : Upd Φ r r' Φ') : ∀ s ∈ Φ', s = r' ∨ s ∈ Φ := by
  induction h with
  | here => exact fun s hs => (List.mem_cons.1 hs).imp id (List.mem_cons_of_mem _)
  | there _ ih => exact fun s hs => (List.mem_cons.1 hs).elim (fun h => .inr (h ▸ List.mem_cons_self)) (fun h => (ih s h).imp id (List.mem_cons_of_mem _))
theorem Pick.mem {Φ Φ' : List Res} {r : Res} (h : Pick Φ r Φ') : r ∈ Φ := by
  induction h with
  | here => exact List.mem_cons_self
  | there _ ih => exact List.mem_cons_of_mem _ ih
theorem Pick.perm {Φ Φ' : List Res} {r : Res} (hp : Pick Φ r Φ') : Φ.Perm (r :: Φ') := by
  induction hp with
  | here => exact .refl _
  | there _ ih => exact (ih.cons _).trans (.swap _ _ _)
theorem Split.perm {Φ Ψ Φ' : List Res} (h : Split Φ Ψ Φ') : Φ.Perm (Ψ ++ Φ') := by
  induction h with
  | nil => exact .refl _
  | cons hp _ ih => exact hp.perm.trans (ih.cons _)

variable {M : Nat → Prop} {B : Base} {w w' : World} {Φ Φ' Ψ : List Res} {r r' : Res}

theorem Sep.get (h : Sep M w Φ) (hm : r ∈ Φ) : r.q w ∧ ∀ k, r.fp k → M k := by
  induction Φ with
  | nil => cases hm
  | cons x Φ ih =>
    obtain ⟨h1, h2, _, h4⟩ := h
    rcases List.mem_cons.1 hm with rfl | hm
    · exact ⟨h1, h2⟩
    · exact ih h4 hm
theorem Sep.keep (h : Sep M w Φ) {S : Nat → Prop} (hc : Chg w w' S) (hd : ∀ s ∈ Φ, ∀ k, S k → ¬ s.fp k) : Sep M w' Φ := by
  induction Φ with
  | nil => trivial
  | cons x Φ ih =>
    obtain ⟨h1, h2, h3, h4⟩ := h
    exact ⟨x.st w w' h1 (fun k hk => hc.block k (x.inb w h1 k hk) (fun hs => hd x List.mem_cons_self k hs hk)), h2, h3, ih h4 (fun s hs => hd s (List.mem_cons_of_mem _ hs))⟩
theorem Sep.upd (h : Sep M w Φ) (hu : Upd Φ r r' Φ') (hn : ∀ k, w.heap.size ≤ k → M k) (hc : Chg w w' r.fp) (hq : r'.q w') (hf : ∀ k, r'.fp k → r.fp k ∨ w.heap.size ≤ k) : Sep M w' Φ' := by
  induction hu with
  | @here r r' Φ =>
    obtain ⟨h1, h2, h3, h4⟩ := h
    refine ⟨hq, fun k hk => ?_, fun s hs k hk hsk => ?_, h4.keep hc h3⟩
    · rcases hf k hk with h | h
      · exact h2 k h
      · exact hn k h
    · rcases hf k hk with h | h
      · exact h3 s hs k h hsk
      · have := s.inb w (h4.get hs).1 k hsk; omega
  | @there x r r' Φ Φ' hu ih =>
    obtain ⟨h1, h2, h3, h4⟩ := h
    refine ⟨x.st w w' h1 (fun k hk => hc.block k (x.inb w h1 k hk) (h3 r hu.mem k hk)), h2, fun s hs k hk hsk => ?_, ih h4 hc hq hf⟩
    rcases hu.from_ s hs with rfl | hs'
    · rcases hf k hsk with h | h
      · exact h3 r hu.mem k hk h
      · have := x.inb w h1 k hk; omega
    · exact h3 s hs' k hk hsk
theorem Sep.all (M : Nat → Prop) (w : World) (Φ : List Res) : Sep M w Φ ↔ (∀ r ∈ Φ, r.q w ∧ ∀ k, r.fp k → M k) ∧ Φ.Pairwise (fun r s => ∀ k, r.fp k → ¬ s.fp k) := by
  induction Φ with
  | nil => simp [Sep]
  | cons r Φ ih =>
    simp only [Sep, ih, List.mem_cons, List.pairwise_cons, forall_eq_or_imp]
    constructor
    · rintro ⟨a, b, c, d, e⟩; exact ⟨⟨⟨a, b⟩, d⟩, c, e⟩
    · rintro ⟨⟨⟨a, b⟩, d⟩, c, e⟩; exact ⟨a, b, c, d, e⟩
theorem St.perm (h : St B Φ w) (hp : Φ.Perm Φ') : St B Φ' w := by
  refine ⟨h.ok, (Sep.all _ _ _).2 ?_⟩
  obtain ⟨h1, h2⟩ := (Sep.all _ _ _).1 h.sep
  exact ⟨fun r hr => h1 r (hp.mem_iff.2 hr), (hp.pairwise_iff (fun {a b} hab k hb ha => hab k ha hb)).1 h2⟩
theorem St.swap (h : St B (Φ ++ Ψ) w) : St B (Ψ ++ Φ) w := h.perm List.perm_append_comm
theorem St.tail (h : St B (Φ ++ Ψ) w) : St B Ψ w := by
  obtain ⟨h1, h2⟩ := (Sep.all _ _ _).1 h.sep
  exact ⟨h.ok, (Sep.all _ _ _).2 ⟨fun r hr => h1 r (List.mem_append_right _ hr), (List.pairwise_append.1 h2).2.1⟩⟩
theorem St.head (h : St B (Φ ++ Ψ) w) : St B Φ w := h.swap.tail
theorem St.drop (h : St B (r :: Φ) w) : St B Φ w := ⟨h.ok, h.sep.2.2.2⟩
theorem St.sub (h : St B Φ w) (hs : Split Φ Ψ Φ') : St B Ψ w := (h.perm hs.perm).head
theorem St.has (h : St B Φ w) (hs : Has Φ Ψ) : St B Ψ w := by obtain ⟨_, hs⟩ := hs.split; exact h.sub hs
def Leads (B : Base) (Φ Ψ : List Res) : Prop := ∀ w, St B Φ w → St B Ψ w
theorem Leads.has (h : Has Φ Ψ) : Leads B Φ Ψ := fun _ hS => hS.has h
theorem Leads.trans {Ψ' : List Res} (h : Leads B Φ Ψ) (k : Leads B Ψ Ψ') : Leads B Φ Ψ' := fun w hS => k w (h w hS)
theorem St.get (h : St B Φ w) (hm : Pick Φ r Φ') : r.q w := (h.sep.get hm.mem).1
theorem St.new (h : St B Φ w) : ∀ k, w.heap.size ≤ k → B.mine k := fun k hk => .inr (Nat.le_trans h.ok.size hk)
theorem Base.ok.chg {S : Nat → Prop} (h : B.ok w) (hc : Chg w w' S) (hS : ∀ k, S k → B.mine k) : B.ok w' :=
  ⟨hc.os.trans h.os, hc.tape.trans h.tape, hc.output.trans h.output, Nat.le_trans h.size hc.size, fun k hk hn => (hc.block k (Nat.lt_of_lt_of_le hk h.size) (fun hs => by
    rcases hS k hs with h1 | h1
    · exact hn h1
    · omega)).trans (h.block k hk hn)⟩
theorem St.upd (h : St B Φ w) (hu : Upd Φ r r' Φ') (hc : Chg w w' r.fp) (hq : r'.q w') (hf : ∀ k, r'.fp k → r.fp k ∨ w.heap.size ≤ k) : St B Φ' w' :=
  ⟨h.ok.chg hc (fun k hk => (h.sep.get hu.mem).2 k hk), h.sep.upd hu h.new hc hq hf⟩
theorem St.keep (h : St B Φ w) (hc : Chg w w' (fun _ => False)) : St B Φ w' :=
  ⟨h.ok.chg hc (fun k hk => hk.elim), h.sep.keep hc (fun _ _ _ hk => hk.elim)⟩
theorem St.drew (h : St B Φ w) : St B Φ w.drew := h.keep (Chg.drew _ _)
theorem St.add (h : St B Φ w) (hc : Chg w w' (fun _ => False)) (hq : r.q w') (hf : ∀ k, r.fp k → w.heap.size ≤ k) : St B (r :: Φ) w' := by
  have hk := h.keep hc
  refine ⟨hk.ok, hq, fun k hk' => h.new k (hf k hk'), fun s hs k hrk hsk => ?_, hk.sep⟩
  have := s.inb w (h.sep.get hs).1 k hsk
  have := hf k hrk
  omega
theorem St.start (w : World) : St (Base.at w) [] w := ⟨Base.at_ok w, trivial⟩
theorem St.conv (h : St B Φ w) (hu : Upd Φ r r' Φ') (hq : r.q w → r'.q w) (hf : ∀ k, r'.fp k → r.fp k) : St B Φ' w :=
  h.upd hu (Chg.refl _ _) (hq (h.sep.get hu.mem).1) (fun k hk => .inl (hf k hk))

def Base.call (B : Base) (w : World) (Ψ : List Res) : Base := ⟨w, fun k => ∃ r ∈ Ψ, r.fp k⟩
theorem St.lend (h : St B (Ψ ++ Φ) w) : St (B.call w Ψ) Ψ w := by
  refine ⟨⟨rfl, rfl, rfl, Nat.le_refl _, fun _ _ _ => rfl⟩, (Sep.all _ _ _).2 ?_⟩
  obtain ⟨h1, h2⟩ := (Sep.all _ _ _).1 h.head.sep
  exact ⟨fun r hr => ⟨(h1 r hr).1, fun k hk => .inl ⟨r, hr, hk⟩⟩, h2⟩
theorem St.give {Ψ' : List Res} (h : St B (Ψ ++ Φ) w) (h' : St (B.call w Ψ) Ψ' w') : St B (Ψ' ++ Φ) w' := by
  have hs := h.sep
  obtain ⟨h1, h2⟩ := (Sep.all _ _ _).1 hs
  have hpre : ∀ k, (∃ r ∈ Ψ, r.fp k) → B.mine k ∧ k < w.heap.size := by
    rintro k ⟨r, hr, hk⟩
    exact ⟨(h1 r (List.mem_append_left _ hr)).2 k hk, r.inb w (h1 r (List.mem_append_left _ hr)).1 k hk⟩
  have hc : Chg w w' (fun k => ∃ r ∈ Ψ, r.fp k) := ⟨h'.ok.os, h'.ok.tape, h'.ok.output, h'.ok.size, h'.ok.block⟩
  have hok : B.ok w' := h.ok.chg hc (fun k hk => (hpre k hk).1)
  have hdis : ∀ s ∈ Φ, ∀ k, (∃ r ∈ Ψ, r.fp k) → ¬ s.fp k := by
    rintro s hs' k ⟨r, hr, hk⟩ hsk
    exact (List.pairwise_append.1 h2).2.2 r hr s hs' k hk hsk
  have hΦ : Sep B.mine w' Φ := (h.tail.sep).keep hc hdis
  obtain ⟨k1, k2⟩ := (Sep.all _ _ _).1 hΦ
  obtain ⟨g1, g2⟩ := (Sep.all _ _ _).1 h'.sep
  refine ⟨hok, (Sep.all _ _ _).2 ⟨fun r hr => ?_, List.pairwise_append.2 ⟨g2, k2, fun r hr s hs' k hk hsk => ?_⟩⟩⟩
  · rcases List.mem_append.1 hr with hr | hr
    · refine ⟨(g1 r hr).1, fun k hk => ?_⟩
      rcases (g1 r hr).2 k hk with h3 | h3
      · exact (hpre k h3).1
      · exact h.new k h3
    · exact k1 r hr
  · rcases (g1 r hr).2 k hk with h3 | h3
    · exact hdis s hs' k h3 hsk
    · have h4 := (h1 s (List.mem_append_right _ hs')).1
      have := s.inb w h4 k hsk
      have h5 : w.heap.size ≤ k := h3
      omega
theorem St.egrow (h : St B (Ψ ++ Φ) w) : Grow B.e (B.call w Ψ).e := by
  intro a v hv
  obtain ⟨h1, _⟩ := (Sep.all _ _ _).1 h.head.sep
  have h0 : B.e.heap[a.block]? = B.w.heap[a.block]? ∧ ¬ B.O a.block ∧ a.block < B.w.heap.size := by
    unfold World.cell? at hv
    rw [B.e_heap] at hv ⊢
    by_cases ho : B.O a.block
    · rw [if_pos ho] at hv
      cases hb : B.w.heap[a.block]? <;> simp [hb] at hv
    · rw [if_neg ho] at hv
      refine ⟨by rw [if_neg ho], ho, ?_⟩
      by_cases hk : a.block < B.w.heap.size
      · exact hk
      · rw [Array.getElem?_eq_none (by omega)] at hv; cases hv
  obtain ⟨h0, ho, hk⟩ := h0
  have hno : ¬ ∃ r ∈ Ψ, r.fp a.block := by
    rintro ⟨r, hr, hf⟩
    rcases (h1 r hr).2 _ hf with h3 | h3
    · exact ho h3
    · omega
  have h3 : (B.call w Ψ).e.heap[a.block]? = B.e.heap[a.block]? := by
    rw [Base.e_heap, h0, if_neg (show ¬ (B.call w Ψ).O a.block from hno)]
    exact h.ok.block _ hk ho
  unfold World.cell? at hv ⊢
  rw [h3]; exact hv

def ob (b : Nat) (o : Obj) : Res where
  fp k := k = b
  q w := w.heap[b]? = some o
  inb w h k hk := by subst hk; exact (Array.getElem?_eq_some_iff.1 h).1
  st w w' h hk := (hk b rfl).trans h
abbrev blk (b : Nat) (t : TypeId) (cs : List Value) : Res := ob b (.cells cs.toArray t (0, 0))
theorem St.alloc (h : St B Φ w) (o : Obj) : St B (ob w.heap.size o :: Φ) (w.alloc o) :=
  h.add (Chg.alloc w o _) (World.alloc_heap_new w o) (fun k hk => by have : k = w.heap.size := hk; omega)
theorem St.put (h : St B Φ w) {b : Nat} {o o' : Obj} (hu : Upd Φ (ob b o) (ob b o') Φ') : St B Φ' (w.putObj b o') :=
  h.upd hu (Chg.putObj w b o') (World.putObj_heap_same (Array.getElem?_eq_some_iff.1 ((h.sep.get hu.mem).1 : w.heap[b]? = some o)).1) (fun k hk => .inl hk)
theorem cell_of {b i : Nat} {t : TypeId} {cs : List Value} {fz : Nat × Nat} (h : w.heap[b]? = some (.cells cs.toArray t fz)) : w.cell? ⟨b, i, none⟩ = cs[i]? := by
  unfold World.cell?; simp [h]
theorem frozen_of {b i : Nat} {t : TypeId} {cs : Array Value} (h : w.heap[b]? = some (.cells cs t (0, 0))) : w.frozen? ⟨b, i, none⟩ = false := by
  unfold World.frozen?; simp [h]
theorem St.cell {b : Nat} {t : TypeId} {cs : List Value} (h : St B Φ w) (hm : Pick Φ (blk b t cs) Φ') (i : Nat) {v : Value} (hv : cs[i]? = some v) : w.cell? ⟨b, i, none⟩ = some v := by
  rw [cell_of (h.get hm)]; exact hv
theorem St.ext (h : St B Φ w) {a : Addr} {v : Value} (hc : B.e.cell? a = some v) : w.cell? a = some v := Base.grow h.ok a v hc
theorem set_heap {b i : Nat} {t : TypeId} {cs : List Value} {v : Value} (h : w.heap[b]? = some (.cells cs.toArray t (0, 0))) : (w.setCell ⟨b, i, none⟩ v).heap[b]? = some (.cells (cs.set i v).toArray t (0, 0)) := by
  simp [World.setCell, Array.getElem?_modify, h]
theorem St.set {b : Nat} {t : TypeId} {cs : List Value} (h : St B Φ w) (i : Nat) (v : Value) (hu : Upd Φ (blk b t cs) (blk b t (cs.set i v)) Φ') : St B Φ' (w.setCell ⟨b, i, none⟩ v) :=
  h.upd hu (Chg.setCell w ⟨b, i, none⟩ v) (set_heap (h.sep.get hu.mem).1) (fun k hk => .inl hk)
end Go.Proofs.YtogaiijhicfoaaaGreatK


/-
  The walk over named slots: a state is a list of slots with values, the deferred calls, the resources; one rule for each form of code, and for each operation that leaves the world alone.
-/
namespace Go.Proofs.YtogaiijhicfoaaaGreatK
set_option linter.unusedVariables false
set_option linter.unusedSimpArgs false
open Go.RowKit

abbrev Env := List (Nat × Value)
def Env.find : Env → Nat → Option Value
  | [], _ => none
  | (k, v) :: E, t => bif Nat.beq k t then some v else Env.find E t
def Env.op (E : Env) : Operand → Option Value
  | .tmp t => E.find t
  | .const v => some v
  | .global g => some (.pointer (some ⟨g, 0, none⟩))
  | .func f => some (.func (.func f) #[] #[])
def Env.ops (E : Env) : List Operand → Option (List Value)
  | [] => some []
  | x :: xs => match E.op x with
    | none => none
    | some v => match Env.ops E xs with
      | none => none
      | some vs => some (v :: vs)
def Fits (E : Env) (a : Act) : Prop := ∀ t v, E.find t = some v → a.tmps.getD t undef = v
structure Ok (N : Nat) (E : Env) (D : List Deferred) (a : Act) : Prop where
  size : a.tmps.size = N
  fit : Fits E a
  dfr : a.defers = D
theorem Fits.op {E : Env} {a : Act} (h : Fits E a) {x : Operand} {v : Value} (hx : E.op x = some v) : a.eval x = v := by
  cases x with
  | tmp t => exact h t v hx
  | const u => exact Option.some.inj hx
  | global g => exact Option.some.inj hx
  | func f => exact Option.some.inj hx
theorem Fits.ops {E : Env} {a : Act} (h : Fits E a) : ∀ {xs : List Operand} {vs : List Value}, E.ops xs = some vs → xs.map a.eval = vs
  | [], vs, hx => by simp only [Env.ops, Option.some.injEq] at hx; subst hx; rfl
  | x :: xs, vs, hx => by
    simp only [Env.ops] at hx
    split at hx
    · cases hx
    · rename_i v hv
      split at hx
      · cases hx
      · rename_i us hus
        injection hx with hx
        subst hx
        simp [h.op hv, Fits.ops h hus]
theorem Env.find_cons (k t : Nat) (v : Value) (E : Env) : Env.find ((k, v) :: E) t = if k = t then some v else E.find t := by
  show (bif Nat.beq k t then some v else Env.find E t) = _
  by_cases h : k = t
  · subst h; simp
  · have : Nat.beq k t = false := by cases hb : Nat.beq k t <;> simp_all [Nat.beq_eq]
    rw [this, if_neg h]; rfl
theorem Ok.put {N : Nat} {E : Env} {D : List Deferred} {a : Act} (h : Ok N E D a) {d : Nat} {v : Value} (hd : Nat.blt d N = true) : Ok N ((d, v) :: E) D (a.put (some d) v) := by
  have hd' : d < a.tmps.size := by have := h.size; have : d < N := by simpa [Nat.blt_eq] using hd
                                   omega
  refine ⟨by simpa [Act.put] using h.size, fun t u hu => ?_, h.dfr⟩
  rw [Env.find_cons] at hu
  simp only [Act.put, Array.getD_eq_getD_getElem?, Array.getElem?_setIfInBounds]
  split at hu
  · rename_i e; subst e; injection hu with hu; subst hu; simp [hd']
  · rename_i hne
    rw [if_neg hne]
    have := h.fit t u hu
    rwa [Array.getD_eq_getD_getElem?] at this
theorem Ok.put_none {N : Nat} {E : Env} {D : List Deferred} {a : Act} (h : Ok N E D a) {v : Value} : Ok N E D (a.put none v) := h
def Cov (E : Env) : Env → Prop
  | [] => True
  | (t, v) :: E' => E.find t = some v ∧ Cov E E'
theorem Cov.find {E : Env} : ∀ {E' : Env} {t : Nat} {v : Value}, Cov E E' → E'.find t = some v → E.find t = some v
  | (k, u) :: E', t, v, h, hf => by
    rw [Env.find_cons] at hf
    split at hf
    · rename_i e; subst e; injection hf with hf; subst hf; exact h.1
    · exact Cov.find h.2 hf
theorem Ok.cov {N : Nat} {E E' : Env} {D : List Deferred} {a : Act} (h : Ok N E D a) (hc : Cov E E') : Ok N E' D a := ⟨h.size, fun t v hv => h.fit t v (hc.find hv), h.dfr⟩
theorem Ok.enter (N : Nat) (args : List Value) (h : args.length ≤ N) : Ok N ((args.zipIdx).map fun p => (p.2, p.1)) [] { tmps := args.toArray ++ Array.replicate (N - args.toArray.size) undef, defers := [] } := by
  refine ⟨by simp; omega, ?_, rfl⟩
  have key : ∀ (l : List Value) (k t : Nat) (v : Value), Env.find ((l.zipIdx k).map fun p => (p.2, p.1)) t = some v → k ≤ t ∧ l[t - k]? = some v := by
    intro l
    induction l with
    | nil => intro k t v h; cases h
    | cons x l ih =>
      intro k t v h
      rw [List.zipIdx_cons, List.map_cons, Env.find_cons] at h
      split at h
      · rename_i e; subst e; injection h with h; subst h; simp
      · obtain ⟨h1, h2⟩ := ih _ _ _ h
        refine ⟨by omega, ?_⟩
        have : t - k = (t - (k + 1)) + 1 := by omega
        rw [this, List.getElem?_cons_succ]; exact h2
  intro t v hv
  obtain ⟨_, h2⟩ := key args 0 t v hv
  have ht : t < args.length := (List.getElem?_eq_some_iff.1 h2).1
  simp only [Array.getD_eq_getD_getElem?]
  rw [Array.getElem?_append_left (by simpa using ht)]
  simp at h2
  simp [h2]

structure Cx where
  P : Program
  F : Fence
  N : Nat
  B : Base
  fn : ∀ f, F.fn f
  dp : F.depth.isSome = false
  call : ∀ {g : FuncId} {args : Array Value} {w : World} {R : Ending → World → Prop}, CallsIn Fence.wide 0 P g args w R → CallsIn F 0 P g args w R
abbrev Post := Exit → Env → List Deferred → List Res → Prop
def okE : Exit → Prop
  | .panic _ => False
  | _ => True
def lift (c : Cx) (Q : Post) : Exit → Act → World → Prop := fun e a w => ∃ E D H, Ok c.N E D a ∧ St c.B H w ∧ Q e E D H ∧ okE e
def W (c : Cx) (x : Code) (Q : Post) (E : Env) (D : List Deferred) (H : List Res) : Prop := ∀ a w, Ok c.N E D a → St c.B H w → x.wpIn c.F 0 c.P (lift c Q) a w
@[reducible] def thn (K : Env → List Deferred → List Res → Prop) (Q : Post) : Post
  | .normal, E, D, H => K E D H
  | e, E, D, H => Q e E D H
@[reducible] def inBlk (id : Nat) (Q : Post) : Post
  | .exit i, E, D, H => bif Nat.beq i id then Q .normal E D H else Q (.exit i) E D H
  | e, E, D, H => Q e E D H
theorem lift_mono {c : Cx} {Q Q' : Post} (h : ∀ e E D H, Q e E D H → Q' e E D H) : ∀ e a w, lift c Q e a w → lift c Q' e a w := fun _ _ _ ⟨E, D, H, h1, h2, h3, h4⟩ => ⟨E, D, H, h1, h2, h _ _ _ _ h3, h4⟩
section
variable {c : Cx} {Q Q' : Post} {E E' : Env} {D : List Deferred} {H H' : List Res} {x y : Code}
theorem wMono (h : W c x Q' E D H) (hq : ∀ e E D H, Q' e E D H → Q e E D H) : W c x Q E D H := fun a w ha hw => wpIn_mono (h a w ha hw) (lift_mono hq)
theorem wForget (hE : Cov E E') (hH : Leads c.B H H') (h : W c x Q E' D H') : W c x Q E D H := fun a w ha hw => h a w (ha.cov hE) (hH _ hw)
theorem wSeq (h : W c x (thn (W c y Q) Q) E D H) : W c (x.seq y) Q E D H := fun a w ha hw => wpIn_seq (wpIn_mono (h a w ha hw) (by
  rintro e a w ⟨E, D, H, h1, h2, h3⟩
  cases e with
  | normal => exact h3.1 a w h1 h2
  | _ => exact ⟨E, D, H, h1, h2, h3⟩))
theorem wSkip (h : Q .normal E D H) : W c .skip Q E D H := fun a w ha hw => wpIn_skip ⟨E, D, H, ha, hw, h, trivial⟩
theorem wRet (h : Q .ret E D H) : W c .ret Q E D H := fun a w ha hw => wpIn_ret ⟨E, D, H, ha, hw, h, trivial⟩
theorem wExit {id : Nat} (h : Q (.exit id) E D H) : W c (.exit id) Q E D H := fun a w ha hw => wpIn_exit ⟨E, D, H, ha, hw, h, trivial⟩
theorem wCondT {o : Operand} (hc : E.op o = some (.bool true)) (h : W c x Q E D H) : W c (.cond o x y) Q E D H := fun a w ha hw => wpIn_cond_true (ha.fit.op hc) (h a w ha hw)
theorem wCondF {o : Operand} (hc : E.op o = some (.bool false)) (h : W c y Q E D H) : W c (.cond o x y) Q E D H := fun a w ha hw => wpIn_cond_false (ha.fit.op hc) (h a w ha hw)
theorem wCond {o : Operand} {p : Prop} [Decidable p] (hc : E.op o = some (.bool (decide p))) (h1 : p → W c x Q E D H) (h0 : ¬ p → W c y Q E D H) : W c (.cond o x y) Q E D H := by
  intro a w ha hw
  by_cases hp : p
  · exact wpIn_cond_true (by rw [ha.fit.op hc]; simp [hp]) (h1 hp a w ha hw)
  · exact wpIn_cond_false (by rw [ha.fit.op hc]; simp [hp]) (h0 hp a w ha hw)
theorem wCondB {o : Operand} {p : Bool} (hc : E.op o = some (.bool p)) (h1 : p = true → W c x Q E D H) (h0 : p = false → W c y Q E D H) : W c (.cond o x y) Q E D H := by
  intro a w ha hw
  cases p
  · exact wpIn_cond_false (ha.fit.op hc) (h0 rfl a w ha hw)
  · exact wpIn_cond_true (ha.fit.op hc) (h1 rfl a w ha hw)
theorem wBlock {id : Nat} (h : W c x (inBlk id Q) E D H) : W c (.block id x) Q E D H := fun a w ha hw => wpIn_block (wpIn_mono (h a w ha hw) (by
  rintro e a w ⟨E, D, H, h1, h2, h3⟩
  cases e with
  | exit i =>
    simp only [Exit.inBlock]
    by_cases hi : i = id
    · rw [if_pos hi]
      have : Nat.beq i id = true := by simpa [Nat.beq_eq] using hi
      simp only [inBlk, this, cond_true] at h3
      exact ⟨E, D, H, h1, h2, h3.1, trivial⟩
    · rw [if_neg hi]
      have : Nat.beq i id = false := by cases hb : Nat.beq i id <;> simp_all [Nat.beq_eq]
      simp only [inBlk, this, cond_false] at h3
      exact ⟨E, D, H, h1, h2, h3⟩
  | _ => exact ⟨E, D, H, h1, h2, h3⟩))
theorem wLoop {ι : Type} (Ei : ι → Env) (Hi : ι → List Res) (inv : ι → Prop) (μ : ι → Nat) (i0 : ι) (h0 : inv i0) (hE : Cov E (Ei i0)) (hH : Leads c.B H (Hi i0))
    (round : ∀ i, inv i → W c x (thn (fun E' D' H' => D' = D ∧ ∃ i', inv i' ∧ μ i' < μ i ∧ Cov E' (Ei i') ∧ Leads c.B H' (Hi i')) Q) (Ei i) D (Hi i)) : W c (.loop x) Q E D H := by
  have key : ∀ m i a w, μ i < m → inv i → Ok c.N (Ei i) D a → St c.B (Hi i) w → Code.roundsIn c.F 0 c.P x (lift c Q) m a w := by
    intro m
    induction m with
    | zero => intro i a w h; omega
    | succ m ih =>
      intro i a w hm hi ha hw
      rw [roundsIn_succ]
      refine wpIn_mono (round i hi a w ha hw) ?_
      rintro e a' w' ⟨E', D', H', h1, h2, h3⟩
      cases e with
      | normal =>
        obtain ⟨⟨rfl, i', hi', hlt, hcov, hsp⟩, _⟩ := h3
        exact ih i' a' w' (by omega) hi' (h1.cov hcov) (hsp _ h2)
      | _ => exact ⟨E', D', H', h1, h2, h3⟩
  intro a w ha hw
  exact wpIn_loop_rounds (μ i0 + 1) (key _ i0 a w (Nat.lt_succ_self _) h0 (ha.cov hE) (hH _ hw))
theorem wCut {ι : Type} (Ei : ι → Env) (Hi : ι → List Res) (inv : ι → Prop) (h : W c x (thn (fun E' D' H' => D' = D ∧ ∃ i', inv i' ∧ Cov E' (Ei i') ∧ Leads c.B H' (Hi i')) Q) E D H) (k : ∀ i, inv i → W c y Q (Ei i) D (Hi i)) : W c (x.seq y) Q E D H :=
  wSeq (wMono h (by
    intro e E' D' H' hq
    cases e with
    | normal =>
      obtain ⟨rfl, i', hi, hcov, hsp⟩ := hq
      exact wForget hcov hsp (k i' hi)
    | _ => exact hq))
end

def plain : Op → Bool
  | .defer _ => false
  | _ => true
theorem semAt_plain' (F : Fence) (ρ : Operand → Value) (o : Oper) (h : plain o.op = true) : o.semAt F.round ρ = execOp ρ o :=
  Oper.semAt_plain F ρ o (fun c hc => by rw [hc] at h; simp [plain] at h)
structure Md (c : Cx) where
  X : List Oper → Act → World → Prop
  ops : Array Oper
  calm : ∀ o rest a w v, Region.wanted o (yielded ops a.tmps) = true → plain o.op = true → (execOp a.eval o).run c.P w = .ok (.value v) w → X rest (a.put o.dst v) w → X (o :: rest) a w
  skip : ∀ o rest a w, Region.wanted o (yielded ops a.tmps) = false → X rest (a.put o.dst undef) w → X (o :: rest) a w
  want : ∀ (dst : Option Tmp) (op : Op) (ty : TypeId) (pos : String) (af : Array Edge) (g : Nat × Bool) rest (a : Act) w, Region.wanted ⟨dst, op, ty, pos, af, some g⟩ (yielded ops a.tmps) = true → X (⟨dst, op, ty, pos, af, none⟩ :: rest) a w → X (⟨dst, op, ty, pos, af, some g⟩ :: rest) a w
def O {c : Cx} (M : Md c) (l : List Oper) (E : Env) (D : List Deferred) (H : List Res) : Prop := ∀ a w, Ok c.N E D a → St c.B H w → M.X l a w
def Md.list (c : Cx) (ops : Array Oper) (Q : Post) : Md c where
  X := wpListIn c.F 0 c.P ops (lift c Q)
  ops := ops
  calm o rest a w v hw hp hr hK := by
    simp only [wpListIn, hw, if_true]
    exact ⟨fun f _ => c.fn f, by rw [semAt_plain' _ _ _ hp, hr]; exact hK⟩
  skip o rest a w hw hK := by
    simp only [wpListIn, hw]
    exact ⟨fun f _ => c.fn f, hK⟩
  want dst op ty pos af g rest a w hw h := by
    simp only [wpListIn] at h ⊢
    rw [if_pos hw]
    rw [if_pos (show Region.wanted { dst := dst, op := op, type := ty, pos := pos, after := af, guard := none } (yielded ops a.tmps) = true from rfl)] at h
    exact h
section
variable {c : Cx} {Q : Post} {E : Env} {D : List Deferred} {H : List Res}
theorem oNil {ops : Array Oper} (h : Q .normal E D H) : O (Md.list c ops Q) [] E D H := fun a w ha hw => ⟨E, D, H, ha, hw, h, trivial⟩
structure Me (c : Cx) extends Md c where
  eff : ∀ o rest a w v w', Region.wanted o (yielded ops a.tmps) = true → plain o.op = true → (execOp a.eval o).run c.P w = .ok (.value v) w' → X rest (a.put o.dst v) w' → X (o :: rest) a w
  effs : ∀ o rest a w w', Region.wanted o (yielded ops a.tmps) = true → plain o.op = true → (execOp a.eval o).run c.P w = .ok .skip w' → X rest (a.put o.dst undef) w' → X (o :: rest) a w
  enter : ∀ o rest a w g args w1, Region.wanted o (yielded ops a.tmps) = true → plain o.op = true → (execOp a.eval o).run c.P w = .ok (.enter g args) w1 →
    CallsIn Fence.wide 0 c.P g args w1 (fun e w2 => ∃ v, e = .returned v ∧ X rest (a.put o.dst v) w2) → X (o :: rest) a w
def Me.list (c : Cx) (ops : Array Oper) (Q : Post) : Me c where
  toMd := Md.list c ops Q
  eff o rest a w v w' hw hp hr hK := by
    show wpListIn _ _ _ _ _ _ _ _
    simp only [wpListIn]
    rw [if_pos (show Region.wanted o (yielded ops a.tmps) = true from hw)]
    exact ⟨fun f _ => c.fn f, by rw [semAt_plain' _ _ _ hp, hr]; exact hK⟩
  effs o rest a w w' hw hp hr hK := by
    show wpListIn _ _ _ _ _ _ _ _
    simp only [wpListIn]
    rw [if_pos (show Region.wanted o (yielded ops a.tmps) = true from hw)]
    exact ⟨fun f _ => c.fn f, by rw [semAt_plain' _ _ _ hp, hr]; exact hK⟩
  enter o rest a w g args w1 hw hp hr hK := by
    show wpListIn _ _ _ _ _ _ _ _
    simp only [wpListIn]
    rw [if_pos (show Region.wanted o (yielded ops a.tmps) = true from hw)]
    refine ⟨fun f _ => c.fn f, ?_⟩
    rw [semAt_plain' _ _ _ hp, hr]
    refine ⟨fun h => absurd h (by rw [c.dp]; simp), (c.call hK).mono ?_⟩
    rintro e w2 ⟨v, rfl, hx⟩
    exact hx
def Me.tail (c : Cx) (ops : Array Oper) (Q : Post) : Me c where
  X := wpList c.P ops (lift c Q)
  ops := ops
  calm o rest a w v hw hp hr hK := by
    simp only [wpList, hw, if_true]
    exact .inl (by simp only [Oper.wp, hr]; exact hK)
  skip o rest a w hw hK := by simp only [wpList, hw]; exact hK
  want dst op ty pos af g rest a w hw h := by
    simp only [wpList] at h ⊢
    rw [if_pos hw]
    rw [if_pos (show Region.wanted { dst := dst, op := op, type := ty, pos := pos, after := af, guard := none } (yielded ops a.tmps) = true from rfl)] at h
    exact h
  eff o rest a w v w' hw hp hr hK := by
    simp only [wpList, hw, if_true]
    exact .inl (by simp only [Oper.wp, hr]; exact hK)
  effs o rest a w w' hw hp hr hK := by
    simp only [wpList, hw, if_true]
    exact .inl (by simp only [Oper.wp, hr]; exact hK)
  enter o rest a w g args w1 hw hp hr hK := by
    simp only [wpList, hw, if_true]
    refine .inl ?_
    simp only [Oper.wp, hr]
    refine Calls.mono (callsIn_wide.1 hK) ?_
    rintro e w2 ⟨v, rfl, hx⟩
    exact hx
def Md.head (c : Cx) (ops : Array Oper) (w0 : World) (tail : List Oper) (Q : Post) : Md c where
  X := fun l a w => w = w0 → wpStill c.P ops w0 (fun a' => wpList c.P ops (lift c Q) tail a' w0) l a
  ops := ops
  calm o rest a w v hw hp hr hK := by
    rintro rfl
    simp only [wpStill, hw, if_true, Oper.still, hr, Oper.stillUpon]
    exact ⟨trivial, hK rfl⟩
  skip o rest a w hw hK := by
    rintro rfl
    simp only [wpStill, hw]
    exact hK rfl
  want dst op ty pos af g rest a w hw h := by
    rintro rfl
    have h := h rfl
    simp only [wpStill] at h ⊢
    rw [if_pos hw]
    rw [if_pos (show Region.wanted { dst := dst, op := op, type := ty, pos := pos, after := af, guard := none } (yielded ops a.tmps) = true from rfl)] at h
    exact h
theorem oHead {ops : Array Oper} {w0 : World} {tail : List Oper} (h : O (Me.tail c ops Q).toMd tail E D H) : O (Md.head c ops w0 tail Q) [] E D H := by
  rintro a w ha hw rfl
  exact h a w ha hw
theorem oNilT {ops : Array Oper} (h : Q .normal E D H) : O (Me.tail c ops Q).toMd [] E D H := fun a w ha hw => ⟨E, D, H, ha, hw, h, trivial⟩
theorem wRegion' {id : Nat} {l : List Oper} (h : O (Me.list c l.toArray Q).toMd l E D H) : W c (.region id l.toArray false) Q E D H := fun a w ha hw => wpIn_region_lit (h a w ha hw)
end
end Go.Proofs.YtogaiijhicfoaaaGreatK


/-
  The walk's rules for operations that leave the world alone.
-/
namespace Go.Proofs.YtogaiijhicfoaaaGreatK
set_option linter.unusedVariables false
set_option linter.unusedSimpArgs false
open Go.RowKit
variable {c : Cx} {M : Md c} {d : Nat} {ty : TypeId} {pos : String} {af : Array Edge} {rest : List Oper} {E : Env} {D : List Deferred} {H H' : List Res} {v : Value} {x y z : Operand} {k : IntKind} {t t' : TypeId}

theorem oC {op : Op} (v : Value) (hp : plain op = true) (hN : Nat.blt d c.N = true) (hy : ∀ a w, Fits E a → St c.B H w → (execOp a.eval ⟨some d, op, ty, pos, af, none⟩).run c.P w = .ok (.value v) w)
    (k : O M rest ((d, v) :: E) D H) : O M (⟨some d, op, ty, pos, af, none⟩ :: rest) E D H :=
  fun a w ha hw => M.calm _ _ _ _ v rfl hp (hy a w ha.fit hw) (k _ _ (ha.put hN) hw)

theorem bool_find {E : Env} {a : Act} (h : Fits E a) {t : Nat} {b : Bool} (hf : E.find t = some (.bool b)) : a.tmps[t]? = some (.bool b) := by
  have := h t _ hf
  rw [Array.getD_eq_getD_getElem?] at this
  cases hx : a.tmps[t]? with
  | none => rw [hx] at this; simp [undef] at this
  | some u => rw [hx] at this; simp at this; rw [this]
theorem yielded_of {E : Env} {a : Act} (h : Fits E a) {ops : Array Oper} {j t : Nat} {b : Bool} (hj : (ops[j]?).bind (·.dst) = some t) (hf : E.find t = some (.bool b)) : yielded ops a.tmps j = some b := by
  unfold yielded
  rw [hj]
  simp only [Option.bind_some, bool_find h hf]
theorem oSkip {op : Op} {j t : Nat} {b b' : Bool} (hj : (M.ops[j]?).bind (·.dst) = some t) (hf : E.find t = some (.bool b)) (hb : (b == b') = false) (hN : Nat.blt d c.N = true)
    (k : O M rest ((d, undef) :: E) D H) : O M (⟨some d, op, ty, pos, af, some (j, b')⟩ :: rest) E D H :=
  fun a w ha hw => M.skip _ _ _ _ (by
    simp only [Region.wanted, yielded_of ha.fit hj hf]
    simpa using hb) (k _ _ (ha.put hN) hw)
theorem oSkipU {op : Op} {j t : Nat} {b' : Bool} (hj : (M.ops[j]?).bind (·.dst) = some t) (hf : E.find t = some undef) (hN : Nat.blt d c.N = true)
    (k : O M rest ((d, undef) :: E) D H) : O M (⟨some d, op, ty, pos, af, some (j, b')⟩ :: rest) E D H :=
  fun a w ha hw => M.skip _ _ _ _ (by
    have h1 := ha.fit t _ hf
    rw [Array.getD_eq_getD_getElem?] at h1
    simp only [Region.wanted, yielded, hj, Option.bind_some]
    cases hx : a.tmps[t]? with
    | none => simp
    | some u =>
      rw [hx] at h1
      simp only [Option.getD_some] at h1
      subst h1
      simp [undef]) (k _ _ (ha.put hN) hw)
theorem oWant {op : Op} {dst : Option Tmp} {j t : Nat} {b' : Bool} (hj : (M.ops[j]?).bind (·.dst) = some t) (hf : E.find t = some (.bool b'))
    (k : O M (⟨dst, op, ty, pos, af, none⟩ :: rest) E D H) : O M (⟨dst, op, ty, pos, af, some (j, b')⟩ :: rest) E D H :=
  fun a w ha hw => M.want _ _ _ _ _ _ _ _ _ (by
    simp only [Region.wanted, yielded_of ha.fit hj hf]
    simp) (k a w ha hw)
theorem Ok.over {N : Nat} {a : Act} (h : Ok N E D a) {t : Nat} {v : Value} (hf : E.find t = some v) : Ok N ((t, v) :: E) D a := ⟨h.size, fun s u hu => by
  rw [Env.find_cons] at hu
  split at hu
  · rename_i e; subst e; injection hu with hu; subst hu; exact h.fit _ _ hf
  · exact h.fit _ _ hu, h.dfr⟩
theorem oSplit {l : List Oper} {t : Nat} {p : Prop} [Decidable p] (hf : E.find t = some (.bool (decide p))) (k1 : p → O M l ((t, .bool true) :: E) D H) (k0 : ¬ p → O M l ((t, .bool false) :: E) D H) : O M l E D H := by
  intro a w ha hw
  by_cases hp : p
  · exact k1 hp a w (ha.over (by rw [hf]; simp [hp])) hw
  · exact k0 hp a w (ha.over (by rw [hf]; simp [hp])) hw
theorem oSplitB {l : List Oper} {t : Nat} {p : Bool} (hf : E.find t = some (.bool p)) (k1 : p = true → O M l ((t, .bool true) :: E) D H) (k0 : p = false → O M l ((t, .bool false) :: E) D H) : O M l E D H := by
  intro a w ha hw
  cases p
  · exact k0 rfl a w (ha.over hf) hw
  · exact k1 rfl a w (ha.over hf) hw
theorem oSet {l : List Oper} {t : Nat} {v' : Value} (hf : E.find t = some v) (e : v = v') (k : O M l ((t, v') :: E) D H) : O M l E D H := fun a w ha hw => k a w (ha.over (by rw [hf, e])) hw

theorem oMove (h : E.op x = some v) (k : O M rest ((d, v) :: E) D H) (hN : Nat.blt d c.N = true := by rfl) : O M (⟨some d, .move x, ty, pos, af, none⟩ :: rest) E D H :=
  oC v rfl hN (fun a w ha hw => by simp [execOp, ha.op h]) k
theorem oAssign (h : E.op x = some v) (k : O M rest ((d, v) :: E) D H) (hN : Nat.blt d c.N = true := by rfl) : O M (⟨some d, .assign x, ty, pos, af, none⟩ :: rest) E D H :=
  oC v rfl hN (fun a w ha hw => by simp [execOp, ha.op h]) k
theorem oPickT (hx : E.op x = some (.bool true)) (h : E.op y = some v) (k : O M rest ((d, v) :: E) D H) (hN : Nat.blt d c.N = true := by rfl) : O M (⟨some d, .pick x y z, ty, pos, af, none⟩ :: rest) E D H :=
  oC v rfl hN (fun a w ha hw => by simp [execOp, ha.op hx, ha.op h, asBool]) k
theorem oPickF (hx : E.op x = some (.bool false)) (h : E.op z = some v) (k : O M rest ((d, v) :: E) D H) (hN : Nat.blt d c.N = true := by rfl) : O M (⟨some d, .pick x y z, ty, pos, af, none⟩ :: rest) E D H :=
  oC v rfl hN (fun a w ha hw => by simp [execOp, ha.op hx, ha.op h, asBool]) k
theorem oNotT (hx : E.op x = some (.bool true)) (k : O M rest ((d, .bool false) :: E) D H) (hN : Nat.blt d c.N = true := by rfl) : O M (⟨some d, .unOp .not t x, ty, pos, af, none⟩ :: rest) E D H :=
  oC _ rfl hN (fun a w ha hw => by simp [execOp, ha.op hx, Op.unary]) k
theorem oNot {p : Prop} [Decidable p] (hx : E.op x = some (.bool (decide p))) (k : O M rest ((d, .bool (decide (¬ p))) :: E) D H) (hN : Nat.blt d c.N = true := by rfl) : O M (⟨some d, .unOp .not t x, ty, pos, af, none⟩ :: rest) E D H :=
  oC _ rfl hN (fun a w ha hw => by simp [execOp, ha.op hx, Op.unary]) k
theorem oNotB {p : Bool} (hx : E.op x = some (.bool p)) (k : O M rest ((d, .bool (!p)) :: E) D H) (hN : Nat.blt d c.N = true := by rfl) : O M (⟨some d, .unOp .not t x, ty, pos, af, none⟩ :: rest) E D H :=
  oC _ rfl hN (fun a w ha hw => by simp [execOp, ha.op hx, Op.unary]) k
theorem run_eqGuard (op : BinOp) (t : TypeId) (x y : Operand) (k k' : IntKind) (a b : Int) (P : Program) (w : World) : (eqGuard op t x y (.int k a) (.int k' b)).run P w = .ok () w := by
  unfold eqGuard; split <;> simp
section
variable {a b : Int}
theorem oCmp {op : BinOp} (r : Bool) (hx : E.op x = some (.int k a)) (hy : E.op y = some (.int k b)) (hr : ∀ P w, (binOp op t (.int k a) (.int k b)).run P w = .ok (.bool r) w) (k : O M rest ((d, .bool r) :: E) D H) (hN : Nat.blt d c.N = true := by rfl) : O M (⟨some d, .binOp op t x y t', ty, pos, af, none⟩ :: rest) E D H :=
  oC _ rfl hN (fun u w ha hw => by simp [execOp, ha.op hx, ha.op hy, run_eqGuard, hr]) k
theorem oLss (hx : E.op x = some (.int k a)) (hy : E.op y = some (.int k b)) (k : O M rest ((d, .bool (decide (a < b))) :: E) D H) (hN : Nat.blt d c.N = true := by rfl) : O M (⟨some d, .binOp .lss t x y t', ty, pos, af, none⟩ :: rest) E D H :=
  oCmp _ hx hy (fun P w => by simp [binOp, Op.intCmp]) k hN
theorem oLeq (hx : E.op x = some (.int k a)) (hy : E.op y = some (.int k b)) (k : O M rest ((d, .bool (decide (a ≤ b))) :: E) D H) (hN : Nat.blt d c.N = true := by rfl) : O M (⟨some d, .binOp .leq t x y t', ty, pos, af, none⟩ :: rest) E D H :=
  oCmp _ hx hy (fun P w => by simp [binOp, Op.intCmp]) k hN
theorem oGtr (hx : E.op x = some (.int k a)) (hy : E.op y = some (.int k b)) (k : O M rest ((d, .bool (decide (b < a))) :: E) D H) (hN : Nat.blt d c.N = true := by rfl) : O M (⟨some d, .binOp .gtr t x y t', ty, pos, af, none⟩ :: rest) E D H :=
  oCmp _ hx hy (fun P w => by simp [binOp, Op.intCmp]) k hN
theorem oGeq (hx : E.op x = some (.int k a)) (hy : E.op y = some (.int k b)) (k : O M rest ((d, .bool (decide (b ≤ a))) :: E) D H) (hN : Nat.blt d c.N = true := by rfl) : O M (⟨some d, .binOp .geq t x y t', ty, pos, af, none⟩ :: rest) E D H :=
  oCmp _ hx hy (fun P w => by simp [binOp, Op.intCmp]) k hN
theorem oEql (hx : E.op x = some (.int k a)) (hy : E.op y = some (.int k b)) (k : O M rest ((d, .bool (decide (a = b))) :: E) D H) (hN : Nat.blt d c.N = true := by rfl) : O M (⟨some d, .binOp .eql t x y t', ty, pos, af, none⟩ :: rest) E D H :=
  oCmp _ hx hy (fun P w => by simp [binOp, Op.intCmp]; rfl) k hN
theorem oNeq (hx : E.op x = some (.int k a)) (hy : E.op y = some (.int k b)) (k : O M rest ((d, .bool (decide (¬ a = b))) :: E) D H) (hN : Nat.blt d c.N = true := by rfl) : O M (⟨some d, .binOp .neq t x y t', ty, pos, af, none⟩ :: rest) E D H :=
  oCmp _ hx hy (fun P w => by simp [binOp, Op.intCmp, bne]; rfl) k hN
theorem oAri {op : BinOp} (r : Int) (hx : E.op x = some (.int k a)) (hy : E.op y = some (.int k b)) (hr : ∀ P w, (binOp op t (.int k a) (.int k b)).run P w = .ok (.int k r) w) (k : O M rest ((d, .int k r) :: E) D H) (hN : Nat.blt d c.N = true := by rfl) : O M (⟨some d, .binOp op t x y t', ty, pos, af, none⟩ :: rest) E D H :=
  oC _ rfl hN (fun u w ha hw => by simp [execOp, ha.op hx, ha.op hy, run_eqGuard, hr]) k
theorem oAddW (hx : E.op x = some (.int k a)) (hy : E.op y = some (.int k b)) (h : O M rest ((d, .int k (k.wrap (a + b))) :: E) D H) (hN : Nat.blt d c.N = true := by rfl) : O M (⟨some d, .binOp .add t x y t', ty, pos, af, none⟩ :: rest) E D H :=
  oAri _ hx hy (fun P w => by simp [binOp, Op.intArith]) h hN
theorem oSubW (hx : E.op x = some (.int k a)) (hy : E.op y = some (.int k b)) (h : O M rest ((d, .int k (k.wrap (a - b))) :: E) D H) (hN : Nat.blt d c.N = true := by rfl) : O M (⟨some d, .binOp .sub t x y t', ty, pos, af, none⟩ :: rest) E D H :=
  oAri _ hx hy (fun P w => by simp [binOp, Op.intArith]) h hN
def in64 (n : Int) : Prop := -9223372036854775808 ≤ n ∧ n ≤ 9223372036854775807
theorem wrap_in {n : Int} (h : in64 n) : IntKind.i64.wrap n = n := by
  obtain ⟨h1, h2⟩ := h
  exact IntWalk.i64_in n (by omega)
theorem oAdd (hx : E.op x = some (.int .i64 a)) (hy : E.op y = some (.int .i64 b)) (hr : -9223372036854775808 ≤ a + b ∧ a + b ≤ 9223372036854775807) (h : O M rest ((d, .int .i64 (a + b)) :: E) D H) (hN : Nat.blt d c.N = true := by rfl) : O M (⟨some d, .binOp .add t x y t', ty, pos, af, none⟩ :: rest) E D H :=
  oAddW hx hy (by rw [wrap_in hr]; exact h) hN
theorem oSub (hx : E.op x = some (.int .i64 a)) (hy : E.op y = some (.int .i64 b)) (hr : -9223372036854775808 ≤ a - b ∧ a - b ≤ 9223372036854775807) (h : O M rest ((d, .int .i64 (a - b)) :: E) D H) (hN : Nat.blt d c.N = true := by rfl) : O M (⟨some d, .binOp .sub t x y t', ty, pos, af, none⟩ :: rest) E D H :=
  oSubW hx hy (by rw [wrap_in hr]; exact h) hN
theorem oSucc {n : Nat} (hx : E.op x = some (.int .i64 (n : Int))) (hy : E.op y = some (.int .i64 1)) (hr : n ≤ 9223372036854775806) (h : O M rest ((d, .int .i64 ((n + 1 : Nat) : Int)) :: E) D H) (hN : Nat.blt d c.N = true := by rfl) : O M (⟨some d, .binOp .add t x y t', ty, pos, af, none⟩ :: rest) E D H :=
  oAdd hx hy (by omega) (by simpa using h) hN
theorem oQuo (hx : E.op x = some (.int .i64 a)) (hy : E.op y = some (.int .i64 b)) (hr : 0 < b ∧ -9223372036854775808 ≤ a ∧ a ≤ 9223372036854775807) (h : O M rest ((d, .int .i64 (a.tdiv b)) :: E) D H) (hN : Nat.blt d c.N = true := by rfl) : O M (⟨some d, .binOp .quo t x y t', ty, pos, af, none⟩ :: rest) E D H := by
  obtain ⟨h0, h1, h2⟩ := hr
  have hw : IntKind.i64.wrap (a.tdiv b) = a.tdiv b := by
    apply wrap_in
    have h5 : (a.tdiv b).natAbs ≤ a.natAbs := by rw [Int.natAbs_tdiv]; exact Nat.div_le_self _ _
    unfold in64
    rcases Int.le_total 0 a with ha | ha
    · have := Int.tdiv_nonneg ha (Int.le_of_lt h0); omega
    · have h6 := Int.tdiv_nonneg (show 0 ≤ -a by omega) (Int.le_of_lt h0)
      rw [Int.neg_tdiv] at h6
      omega
  refine oAri _ hx hy (fun P w => ?_) h hN
  have hb : b ≠ 0 := by omega
  simp [binOp, Op.intDiv, hb, hw]
theorem oRem (hx : E.op x = some (.int k a)) (hy : E.op y = some (.int k b)) (hr : b ≠ 0) (h : O M rest ((d, .int k (a.tmod b)) :: E) D H) (hN : Nat.blt d c.N = true := by rfl) : O M (⟨some d, .binOp .rem t x y t', ty, pos, af, none⟩ :: rest) E D H :=
  oAri _ hx hy (fun P w => by simp [binOp, Op.intDiv, hr]) h hN
end
section
variable {s r : ByteArray}
theorem toList_eq (s r : ByteArray) : (s.toList == r.toList) = decide (s = r) := by
  rw [Bool.eq_iff_iff]
  simp only [beq_iff_eq, decide_eq_true_eq]
  constructor
  · intro h
    rw [ByteArray.toList_eq, ByteArray.toList_eq] at h
    cases s; cases r; simp_all [Array.toList_inj]
  · rintro rfl; rfl
theorem oStr {op : BinOp} (p : Bool) (hx : E.op x = some (.string s)) (hy : E.op y = some (.string r)) (hr : ∀ P w, (binOp op t (.string s) (.string r)).run P w = .ok (.bool p) w) (k : O M rest ((d, .bool p) :: E) D H) (hN : Nat.blt d c.N = true := by rfl) : O M (⟨some d, .binOp op t x y t', ty, pos, af, none⟩ :: rest) E D H :=
  oC _ rfl hN (fun u w ha hw => by
    have : (eqGuard op t x y (.string s) (.string r)).run c.P w = .ok () w := by unfold eqGuard; split <;> simp
    simp [execOp, ha.op hx, ha.op hy, this, hr]) k
theorem oSEq (hx : E.op x = some (.string s)) (hy : E.op y = some (.string r)) (k : O M rest ((d, .bool (decide (s = r))) :: E) D H) (hN : Nat.blt d c.N = true := by rfl) : O M (⟨some d, .binOp .eql t x y t', ty, pos, af, none⟩ :: rest) E D H :=
  oStr _ hx hy (fun P w => by simp [binOp, Op.stringOp, toList_eq]) k hN
end
end Go.Proofs.YtogaiijhicfoaaaGreatK


/-
  Lists of cells: what is read, set, cut and built, as relations whose proofs spell the outcome.
-/
namespace Go.Proofs.YtogaiijhicfoaaaGreatK
set_option linter.unusedVariables false
set_option linter.unusedSimpArgs false
open Go.RowKit
section
variable {α : Type}
inductive SetAt : List α → Nat → α → List α → Prop
  | here {c v : α} {cs : List α} : SetAt (c :: cs) 0 v (v :: cs)
  | there {c v : α} {cs ds : List α} {n : Nat} (h : SetAt cs n v ds) : SetAt (c :: cs) (n + 1) v (c :: ds)
theorem SetAt.spec {cs ds : List α} {n : Nat} {v : α} (h : SetAt cs n v ds) : n < cs.length ∧ cs.set n v = ds := by
  induction h with
  | here => simp
  | there _ ih => simp [ih.1, ih.2]
inductive SubL : List α → Nat → Nat → List α → Prop
  | done {cs : List α} : SubL cs 0 0 []
  | take {c : α} {cs ds : List α} {n : Nat} (h : SubL cs 0 n ds) : SubL (c :: cs) 0 (n + 1) (c :: ds)
  | drop {c : α} {cs ds : List α} {i n : Nat} (h : SubL cs i n ds) : SubL (c :: cs) (i + 1) n ds
theorem SubL.spec {cs ds : List α} {i n : Nat} (h : SubL cs i n ds) : (cs.drop i).take n = ds ∧ ds.length = n := by
  induction h with
  | done => simp
  | take _ ih => simp [ih.1, ih.2]; simpa using ih.1
  | drop _ ih => simpa using ih
inductive PutL : List α → Nat → List α → List α → Prop
  | done {cs : List α} : PutL cs 0 [] cs
  | put {c v : α} {cs vs ds : List α} (h : PutL cs 0 vs ds) : PutL (c :: cs) 0 (v :: vs) (v :: ds)
  | skip {c : α} {cs vs ds : List α} {n : Nat} (h : PutL cs n vs ds) : PutL (c :: cs) (n + 1) vs (c :: ds)
theorem PutL.len {cs vs ds : List α} {n : Nat} (h : PutL cs n vs ds) : n + vs.length ≤ cs.length ∧ ds.length = cs.length := by
  induction h with
  | done => simp
  | put _ ih => simp; omega
  | skip _ ih => simp; omega
theorem PutL.step {cs vs ds : List α} {v : α} {n : Nat} (h : PutL cs n (v :: vs) ds) : PutL (cs.set n v) (n + 1) vs ds := by
  generalize he : v :: vs = us at h
  induction h with
  | done => cases he
  | put h ih =>
    injection he with e1 e2
    subst e1 e2
    exact .skip h
  | skip h ih => exact .skip (ih he)
theorem PutL.nil {cs ds : List α} {n : Nat} (h : PutL cs n [] ds) : cs = ds := by
  generalize he : ([] : List α) = us at h
  induction h with
  | done => rfl
  | put h ih => cases he
  | skip h ih => rw [ih he]
theorem PutL.fold {off : Nat} : ∀ {vs cs ds : List α} (k : Nat), PutL cs (off + k) vs ds → (vs.zipIdx k).foldl (fun (cs : Array α) (p : α × Nat) => cs.setIfInBounds (off + p.2) p.1) cs.toArray = ds.toArray
  | [], cs, ds, k, h => by rw [h.nil]; rfl
  | v :: vs, cs, ds, k, h => by
    rw [List.zipIdx_cons, List.foldl_cons]
    simp only [List.setIfInBounds_toArray]
    exact PutL.fold (k + 1) h.step
end
inductive CellsOf : Value → List Value → Prop
  | agg {vs : List Value} : CellsOf (.agg vs.toArray) vs
  | one {v : Value} (h : v.cells = #[v]) : CellsOf v [v]
theorem CellsOf.spec {v : Value} {vs : List Value} (h : CellsOf v vs) : v.cells = vs.toArray := by
  cases h with
  | agg => rfl
  | one h => exact h
inductive Built (place : Nat → Option (Nat × Nat)) : List Value → List (Nat × Value) → List Value → Prop
  | nil {cs : List Value} : Built place cs [] cs
  | cons {cs ds es vs : List Value} {i off s : Nat} {v : Value} {rest : List (Nat × Value)} (h : place i = some (off, s)) (hc : CellsOf v vs) (hl : vs.length = s) (hp : PutL cs off vs ds) (k : Built place ds rest es) : Built place cs ((i, v) :: rest) es
theorem Built.spec {place : Nat → Option (Nat × Nat)} {cs es : List Value} {ps : List (Nat × Value)} (h : Built place cs ps es) : Instr.fill place cs.toArray ps = some es.toArray := by
  induction h with
  | nil => rfl
  | @cons cs ds es vs i off s v rest h hc hl hp k ih =>
    have h1 := hc.spec
    have h2 := hp.len
    rw [Instr.fill, h]
    simp only []
    rw [if_neg (by rw [h1]; simp; omega), h1]
    have h3 := PutL.fold (off := off) 0 (by simpa using hp)
    rw [show vs.toArray.zipIdx = (vs.zipIdx 0).toArray by simp, List.foldl_toArray']
    · exact h3 ▸ ih
    · simp
inductive Parts (E : Env) : List (Nat × Operand) → List (Nat × Value) → Prop
  | nil : Parts E [] []
  | cons {i : Nat} {x : Operand} {v : Value} {ps : List (Nat × Operand)} {vs : List (Nat × Value)} (h : E.op x = some v) (k : Parts E ps vs) : Parts E ((i, x) :: ps) ((i, v) :: vs)
theorem Parts.spec {E : Env} {a : Act} (ha : Fits E a) {ps : List (Nat × Operand)} {vs : List (Nat × Value)} (h : Parts E ps vs) : ps.map (fun p => (p.1, a.eval p.2)) = vs := by
  induction h with
  | nil => rfl
  | cons h _ ih => simp [ha.op h, ih]
end Go.Proofs.YtogaiijhicfoaaaGreatK


/-
  The walk's rules for memory: fields, elements, loads, stores, new variables, rows that grow, maps.
-/
namespace Go.Proofs.YtogaiijhicfoaaaGreatK
set_option linter.unusedVariables false
set_option linter.unusedSimpArgs false
open Go.RowKit
section
variable {c : Cx} {M : Md c} {d : Nat} {ty : TypeId} {pos : String} {af : Array Edge} {rest : List Oper} {E : Env} {D : List Deferred} {H H' H'' : List Res} {v : Value} {x y z : Operand} {k : IntKind} {t t' : TypeId}

def scalT (P : Program) (t : TypeId) : Bool := match P.underlying t with
  | some (.struct _) => false
  | some (.array _ _) => false
  | some _ => true
  | none => false
def aggN (P : Program) (t : TypeId) : Option Nat := match P.underlying t with
  | some (.struct _) => (P.info? t).map (·.size)
  | some (.array _ _) => (P.info? t).map (·.size)
  | _ => none
def fplace (P : Program) (s : TypeId) (j : Nat) : Option Nat := match P.underlying s with
  | some (.struct fs) => match fs[j]? with
    | some f => match P.info? f.type with
      | some i => bif Nat.beq i.size 0 then none else some f.offset
      | none => none
    | none => none
  | _ => none
def elemT (P : Program) (t : TypeId) : Option (TypeId × Nat) := match P.underlying t with
  | some (.slice e) => (P.info? e).map fun i => (e, i.size)
  | _ => none
theorem run_isAgg_s {P : Program} {t : TypeId} (h : scalT P t = true) (w : World) : (isAgg t).run P w = .ok false w := by
  unfold scalT at h
  unfold isAgg
  cases hu : P.underlying t with
  | none => rw [hu] at h; cases h
  | some u =>
    rw [hu] at h
    rw [Sem.run_bind, run_underlying hu w]
    cases u <;> simp_all
theorem run_isAgg_a {P : Program} {t : TypeId} {n : Nat} (h : aggN P t = some n) (w : World) : (isAgg t).run P w = .ok true w ∧ (sizeOf t).run P w = .ok n w := by
  unfold aggN at h
  unfold isAgg
  cases hu : P.underlying t with
  | none => rw [hu] at h; cases h
  | some u =>
    rw [hu] at h
    rw [Sem.run_bind, run_underlying hu w]
    cases u <;> simp only [reduceCtorEq, Option.map_eq_some_iff] at h
    all_goals
      obtain ⟨i, hi, rfl⟩ := h
      exact ⟨by simp, by simp [sizeOf, typeInfo, hi]⟩
theorem run_fieldAt {P : Program} {s : TypeId} {j n : Nat} (h : fplace P s j = some n) (a : Addr) (w : World) : (Instr.fieldAt s (.pointer (some a)) j).run P w = .ok (.pointer (some (a.add n))) w := by
  unfold fplace at h
  cases hu : P.underlying s with
  | none => rw [hu] at h; cases h
  | some u =>
    rw [hu] at h
    cases u with
    | struct fs =>
      simp only [] at h
      cases hf : fs[j]? with
      | none => rw [hf] at h; cases h
      | some f =>
        rw [hf] at h
        simp only [] at h
        cases hi : P.info? f.type with
        | none => rw [hi] at h; cases h
        | some i =>
          rw [hi] at h
          simp only [] at h
          cases hb : Nat.beq i.size 0 with
          | true => rw [hb] at h; cases h
          | false =>
            rw [hb] at h
            injection h with h
            subst h
            have hs : i.size ≠ 0 := by intro e; rw [e] at hb; cases hb
            simp [Instr.fieldAt, Instr.sureAddr, run_underlying hu, hf, fieldPlace, sizeOf, typeInfo, hi, hs]
    | _ => cases h
theorem run_elemT {P : Program} {t e : TypeId} {n : Nat} (h : elemT P t = some (e, n)) : P.underlying t = some (.slice e) ∧ ∃ i, P.info? e = some i ∧ i.size = n := by
  unfold elemT at h
  cases hu : P.underlying t with
  | none => rw [hu] at h; cases h
  | some u =>
    rw [hu] at h
    cases u <;> simp only [reduceCtorEq, Option.map_eq_some_iff, Prod.mk.injEq] at h
    obtain ⟨i, hi, rfl, rfl⟩ := h
    exact ⟨rfl, i, hi, rfl⟩
theorem add_at (b i j : Nat) : (⟨b, i, none⟩ : Addr).add j = ⟨b, i + j, none⟩ := by unfold Addr.add; split <;> simp_all

@[irreducible] def adr (e : Addr) (k : Nat) : Addr := e.add k
theorem adr_add (e : Addr) (k j : Nat) : (adr e k).add j = adr e (k + j) := by unfold adr; exact Addr.add_add _ _ _
@[irreducible] def elt (g i s k : Nat) : Addr := ⟨g, i * s + k, none⟩
theorem elt_add (g i s k j : Nat) : (elt g i s k).add j = elt g i s (k + j) := by unfold elt; rw [add_at, Nat.add_assoc]
theorem oFld {b i j n m : Nat} (hx : E.op x = some (.pointer (some ⟨b, i, none⟩))) (hf : fplace c.P t j = some n) (hm : i + n = m) (h : O M rest ((d, .pointer (some ⟨b, m, none⟩)) :: E) D H) (hN : Nat.blt d c.N = true := by rfl) : O M (⟨some d, .fieldAddr t x j, ty, pos, af, none⟩ :: rest) E D H :=
  oC _ rfl hN (fun u w ha hw => by simp [execOp, ha.op hx, run_fieldAt hf, add_at, hm]) h
theorem oFldX {e : Addr} {i j n m : Nat} (hx : E.op x = some (.pointer (some (adr e i)))) (hf : fplace c.P t j = some n) (hm : i + n = m) (h : O M rest ((d, .pointer (some (adr e m))) :: E) D H) (hN : Nat.blt d c.N = true := by rfl) : O M (⟨some d, .fieldAddr t x j, ty, pos, af, none⟩ :: rest) E D H :=
  oC _ rfl hN (fun u w ha hw => by simp [execOp, ha.op hx, run_fieldAt hf, adr_add, hm]) h
theorem oFldR {g i s j l n m : Nat} (hx : E.op x = some (.pointer (some (elt g i s l)))) (hf : fplace c.P t j = some n) (hm : l + n = m) (h : O M rest ((d, .pointer (some (elt g i s m))) :: E) D H) (hN : Nat.blt d c.N = true := by rfl) : O M (⟨some d, .fieldAddr t x j, ty, pos, af, none⟩ :: rest) E D H :=
  oC _ rfl hN (fun u w ha hw => by simp [execOp, ha.op hx, run_fieldAt hf, elt_add, hm]) h

theorem oLd {b i : Nat} {tb : TypeId} {cs : List Value} (hx : E.op x = some (.pointer (some ⟨b, i, none⟩))) (hp : Pick H (blk b tb cs) H') (hv : cs[i]? = some v) (hs : scalT c.P t = true) (h : O M rest ((d, v) :: E) D H) (hN : Nat.blt d c.N = true := by rfl) : O M (⟨some d, .load t x, ty, pos, af, none⟩ :: rest) E D H :=
  oC _ rfl hN (fun u w ha hw => by
    have hc := hw.cell hp i hv
    simp [execOp, ha.op hx, Instr.loadAt, Instr.sureAddr, loadVar, run_isAgg_s hs, hc]) h
theorem oLdA {b i n : Nat} {tb : TypeId} {cs vs : List Value} (hx : E.op x = some (.pointer (some ⟨b, i, none⟩))) (hp : Pick H (blk b tb cs) H') (hs : aggN c.P t = some n) (hv' : SubL cs i n vs) (h : O M rest ((d, .agg vs.toArray) :: E) D H) (hN : Nat.blt d c.N = true := by rfl) : O M (⟨some d, .load t x, ty, pos, af, none⟩ :: rest) E D H :=
  oC _ rfl hN (fun u w ha hw => by
    obtain ⟨hv, hl⟩ := hv'.spec
    have h1 := run_isAgg_a hs w
    have h2 := run_loadCells_list (P := c.P) w ⟨b, i, none⟩ vs (fun j u hu => by
      rw [add_at]
      refine hw.cell hp (i + j) ?_
      rw [← hv, List.getElem?_take, List.getElem?_drop] at hu
      split at hu
      · exact hu
      · cases hu)
    rw [hl] at h2
    simp [execOp, ha.op hx, Instr.loadAt, Instr.sureAddr, loadVar, h1.1, h1.2, h2]) h

theorem oLdX {e : Addr} {i : Nat} {cs : List Value} (hx : E.op x = some (.pointer (some (adr e i)))) (hc : ∀ j u, cs[j]? = some u → c.B.e.cell? (adr e j) = some u) (hv : cs[i]? = some v) (hs : scalT c.P t = true) (h : O M rest ((d, v) :: E) D H) (hN : Nat.blt d c.N = true := by rfl) : O M (⟨some d, .load t x, ty, pos, af, none⟩ :: rest) E D H :=
  oC _ rfl hN (fun u w ha hw => by
    have hc := hw.ext (hc i v hv)
    simp [execOp, ha.op hx, Instr.loadAt, Instr.sureAddr, loadVar, run_isAgg_s hs, hc]) h
theorem oLdXA {e : Addr} {i n : Nat} {cs vs : List Value} (hx : E.op x = some (.pointer (some (adr e i)))) (hc : ∀ j u, cs[j]? = some u → c.B.e.cell? (adr e j) = some u) (hs : aggN c.P t = some n) (hv' : SubL cs i n vs) (h : O M rest ((d, .agg vs.toArray) :: E) D H) (hN : Nat.blt d c.N = true := by rfl) : O M (⟨some d, .load t x, ty, pos, af, none⟩ :: rest) E D H :=
  oC _ rfl hN (fun u w ha hw => by
    obtain ⟨hv, hl⟩ := hv'.spec
    have h1 := run_isAgg_a hs w
    have h2 := run_loadCells_list (P := c.P) w (adr e i) vs (fun j u hu => by
      rw [adr_add]
      refine hw.ext (hc (i + j) u ?_)
      rw [← hv, List.getElem?_take, List.getElem?_drop] at hu
      split at hu
      · exact hu
      · cases hu)
    rw [hl] at h2
    simp [execOp, ha.op hx, Instr.loadAt, Instr.sureAddr, loadVar, h1.1, h1.2, h2]) h
theorem run_indexAt {P : Program} {t e : TypeId} {s : Nat} (ht : elemT P t = some (e, s)) (b : Addr) (n cp i : Nat) (hi : i < n) (k : IntKind) (w : World) : (Instr.indexAt t (.slice (some b) n cp) (.int k (i : Int))).run P w = .ok (.pointer (some (b.add (i * s)))) w := by
  obtain ⟨h1, inf, h2, rfl⟩ := run_elemT ht
  simp [Instr.indexAt, asIntOf, run_underlying h1, sizeOf, typeInfo, h2, hi]
theorem oIdx {α : Type} {kd : Kd α} {A : Option Addr} {xs : List α} {i : Nat} {n cp : Nat} {e : TypeId} {s : Nat} (hx : E.op x = some (.slice A n cp)) (hy : E.op y = some (.int k (i : Int))) (hC : kd.C c.B.e A xs) (hn : xs.length = n) (hi : i < n) (ht : elemT c.P t = some (e, s)) (hsz : kd.sz = s)
    (h : ∀ e' u cs, xs[i]? = some u → kd.K c.B.e u cs → (∀ j v, cs[j]? = some v → c.B.e.cell? (adr e' j) = some v) → O M rest ((d, .pointer (some (adr e' 0))) :: E) D H) (hN : Nat.blt d c.N = true := by rfl) : O M (⟨some d, .indexAddr t x y, ty, pos, af, none⟩ :: rest) E D H := by
  subst hn hsz
  obtain ⟨_, hC⟩ := hC
  obtain ⟨ad, rfl, hc⟩ := hC (by omega)
  obtain ⟨cs, hK, hcell⟩ := hc i _ (List.getElem?_eq_getElem hi)
  refine oC (.pointer (some (adr (ad.add (i * kd.sz)) 0))) rfl hN (fun u w ha hw => ?_) (h (ad.add (i * kd.sz)) _ cs (List.getElem?_eq_getElem hi) hK (fun j v hv => ?_))
  · have e1 : adr (ad.add (i * kd.sz)) 0 = ad.add (i * kd.sz) := by unfold adr; rfl
    simp [execOp, ha.op hx, ha.op hy, run_indexAt ht ad _ cp i hi k w, e1]
  · have e1 : adr (ad.add (i * kd.sz)) j = ad.add (i * kd.sz + j) := by unfold adr; exact Addr.add_add _ _ _
    rw [e1]; exact hcell j v hv
theorem oLenS {A : Option Addr} {n cp : Nat} {e : TypeId} {s : Nat} (hx : E.op x = some (.slice A n cp)) (ht : elemT c.P t = some (e, s)) (h : O M rest ((d, .int .i64 (n : Int)) :: E) D H) (hN : Nat.blt d c.N = true := by rfl) : O M (⟨some d, .call { callee := .builtin .len, args := #[x], argTypes := #[t] }, ty, pos, af, none⟩ :: rest) E D H :=
  oC _ rfl hN (fun u w ha hw => by
    obtain ⟨h1, _⟩ := run_elemT ht
    simp [execOp, resolve, ha.op hx, invoke, builtin, Builtin.len_, run_underlying h1, goInt]) h
theorem oLenStr {s : ByteArray} (hx : E.op x = some (.string s)) (ht : c.P.underlying t = some .string) (h : O M rest ((d, .int .i64 (s.size : Int)) :: E) D H) (hN : Nat.blt d c.N = true := by rfl) : O M (⟨some d, .call { callee := .builtin .len, args := #[x], argTypes := #[t] }, ty, pos, af, none⟩ :: rest) E D H :=
  oC _ rfl hN (fun u w ha hw => by
    simp [execOp, resolve, ha.op hx, invoke, builtin, Builtin.len_, run_underlying ht, goInt]) h
inductive GetAt : List Value → Nat → Value → Prop
  | here {v : Value} {cs : List Value} : GetAt (v :: cs) 0 v
  | there {c v : Value} {cs : List Value} {n : Nat} (h : GetAt cs n v) : GetAt (c :: cs) (n + 1) v
theorem GetAt.spec {cs : List Value} {n : Nat} {v : Value} (h : GetAt cs n v) : cs[n]? = some v := by
  induction h with
  | here => rfl
  | there _ ih => simpa using ih
theorem oExt {vs : List Value} {j : Nat} (hx : E.op x = some (.tuple vs.toArray)) (hv : GetAt vs j v) (h : O M rest ((d, v) :: E) D H) (hN : Nat.blt d c.N = true := by rfl) : O M (⟨some d, .extract x j, ty, pos, af, none⟩ :: rest) E D H :=
  oC _ rfl hN (fun u w ha hw => by simp [execOp, ha.op hx, Instr.extract, hv.spec]) h
def placeS (P : Program) (t : TypeId) (i : Nat) : Option (Nat × Nat) := match P.underlying t with
  | some (.struct fs) => (fs[i]?).map fun f => (f.offset, P.cellsOf f.type)
  | _ => none
def allS (P : Program) (t : TypeId) : Bool := match P.underlying t with
  | some (.struct fs) => fs.toList.all fun f => (P.info? f.type).isSome
  | _ => false
theorem run_places {P : Program} : ∀ (l : List Field) (w : World), (l.all fun f => (P.info? f.type).isSome) = true → Sem.run P (l.mapM fun (f : Field) => Prod.mk f.offset <$> sizeOf f.type) w = .ok (l.map fun f => (f.offset, P.cellsOf f.type)) w
  | [], w, h => by simp
  | f :: l, w, h => by
    simp only [List.all_cons, Bool.and_eq_true] at h
    obtain ⟨i, hi⟩ := Option.isSome_iff_exists.1 h.1
    have ih := run_places l w h.2
    rw [List.mapM_cons]
    have h1 : Sem.run P (Prod.mk f.offset <$> sizeOf f.type) w = .ok (f.offset, P.cellsOf f.type) w := by simp [sizeOf, typeInfo, hi, Program.cellsOf]
    simp only [Sem.run_bind, h1, Result.andThen_ok, ih, Sem.run_pure, List.map_cons]
theorem run_build {P : Program} {t : TypeId} {zs us : List Value} {vs : List (Nat × Value)} (hz : ((P.info? t).map (·.zero)) = some (some (.agg zs.toArray))) (ha : allS P t = true) (hb : Built (placeS P t) zs vs us) (w : World) : (Instr.build t vs.toArray).run P w = .ok (.agg us.toArray) w := by
  obtain ⟨i, hi, hz⟩ := Option.map_eq_some_iff.1 hz
  unfold allS at ha
  cases hu : P.underlying t with
  | none => rw [hu] at ha; cases ha
  | some un =>
    rw [hu] at ha
    cases un <;> simp only [Bool.false_eq_true] at ha
    rename_i fs
    have hp : Sem.run P (fs.mapM fun (f : Field) => Prod.mk f.offset <$> sizeOf f.type) w = .ok ((fs.toList.map fun f => (f.offset, P.cellsOf f.type)).toArray) w := by
      rw [Array.mapM_eq_mapM_toList]
      simp [run_places fs.toList w ha]
    have he : placeS P t = fun x => Option.map (fun f => (f.offset, P.cellsOf f.type)) fs[x]? := by
      funext i
      simp [placeS, hu]
    have hf := hb.spec
    rw [he] at hf
    simp only [Instr.build, Sem.run_bind, zeroValue, typeInfo, Sem.run_pure]
    simp [hi, hz, run_underlying hu, Value.cells, hp]
    rw [hf]
    simp
theorem oBuild {ps : Array (Nat × Operand)} {vs : List (Nat × Value)} {zs us : List Value} (hx : Parts E ps.toList vs) (hz : ((c.P.info? t).map (·.zero)) = some (some (.agg zs.toArray))) (ha : allS c.P t = true) (hb : Built (placeS c.P t) zs vs us) (h : O M rest ((d, .agg us.toArray) :: E) D H) (hN : Nat.blt d c.N = true := by rfl) : O M (⟨some d, .build t ps, ty, pos, af, none⟩ :: rest) E D H :=
  oC _ rfl hN (fun u w hf hw => by
    have h2 : (ps.map fun (i, x) => (i, u.eval x)) = vs.toArray := by
      apply Array.toList_inj.1
      simpa using hx.spec hf
    simp only [execOp, Sem.run_bind, h2, run_build hz ha hb w, Result.andThen_ok, Sem.run_pure]) h
end
end Go.Proofs.YtogaiijhicfoaaaGreatK


/-
  The walk's rules for operations that turn the world: new variables, stores, rows, maps, calls; and how a function is entered and left.
-/
namespace Go.Proofs.YtogaiijhicfoaaaGreatK
set_option linter.unusedVariables false
set_option linter.unusedSimpArgs false
open Go.RowKit
section
variable {c : Cx} {M : Me c} {d : Nat} {dst : Option Nat} {ty : TypeId} {pos : String} {af : Array Edge} {rest : List Oper} {E : Env} {D : List Deferred} {H H' H'' : List Res} {v : Value} {x y z : Operand} {k : IntKind} {t t' : TypeId}
variable {B : Base} {w w' : World} {Φ Φ' Φ'' : List Res}

theorem oEff {op : Op} (hp : plain op = true) (hN : Nat.blt d c.N = true) (hy : ∀ a w, Fits E a → St c.B H w → ∃ v w' H', (execOp a.eval ⟨some d, op, ty, pos, af, none⟩).run c.P w = .ok (.value v) w' ∧ St c.B H' w' ∧ O M.toMd rest ((d, v) :: E) D H') :
    O M.toMd (⟨some d, op, ty, pos, af, none⟩ :: rest) E D H := by
  intro a w ha hw
  obtain ⟨v, w', H', h1, h2, h3⟩ := hy a w ha.fit hw
  exact M.eff _ _ _ _ v w' rfl hp h1 (h3 _ _ (ha.put hN) h2)
theorem oEffs {op : Op} (hp : plain op = true) (hy : ∀ a w, Fits E a → St c.B H w → ∃ w' H', (execOp a.eval ⟨none, op, ty, pos, af, none⟩).run c.P w = .ok .skip w' ∧ St c.B H' w' ∧ O M.toMd rest E D H') :
    O M.toMd (⟨none, op, ty, pos, af, none⟩ :: rest) E D H := by
  intro a w ha hw
  obtain ⟨w', H', h1, h2, h3⟩ := hy a w ha.fit hw
  exact M.effs _ _ _ _ w' rfl hp h1 (h3 _ _ ha.put_none h2)

theorem St.upd' {r r' : Res} (h : St B Φ w) (hu : Pick Φ r Φ') (hc : Chg w w' r.fp) (hq : r'.q w') (hf : ∀ k, r'.fp k → r.fp k ∨ w.heap.size ≤ k) : St B (r' :: Φ') w' :=
  (h.perm hu.perm).upd .here hc hq hf
theorem oAlloc {zv : Value} {cs : List Value} (hz : ((c.P.info? t).map (·.zero)) = some (some zv)) (hcs : CellsOf zv cs) (h : ∀ b, O M.toMd rest ((d, .pointer (some ⟨b, 0, none⟩)) :: E) D (blk b t cs :: H)) (hN : Nat.blt d c.N = true := by rfl) : O M.toMd (⟨some d, .alloc t, ty, pos, af, none⟩ :: rest) E D H :=
  oEff rfl hN fun a w ha hw => by
    obtain ⟨i, hi, hz⟩ := Option.map_eq_some_iff.1 hz
    refine ⟨_, w.alloc (.cells zv.cells t), _, ?_, ?_, h w.heap.size⟩
    · simp [execOp, Instr.alloc, zeroValue, typeInfo, hi, hz, newVar, newRow]
    · rw [hcs.spec]; exact hw.alloc (.cells cs.toArray t)
theorem oBox {cs : List Value} (hx : E.op x = some v) (hcs : CellsOf v cs) (h : ∀ b, O M.toMd rest ((d, .pointer (some ⟨b, 0, none⟩)) :: E) D (blk b t cs :: H)) (hN : Nat.blt d c.N = true := by rfl) : O M.toMd (⟨some d, .box t x, ty, pos, af, none⟩ :: rest) E D H :=
  oEff rfl hN fun a w ha hw => by
    refine ⟨_, w.alloc (.cells v.cells t), _, ?_, ?_, h w.heap.size⟩
    · simp [execOp, Instr.box, newVar, newRow, ha.op hx]
    · rw [hcs.spec]; exact hw.alloc (.cells cs.toArray t)
theorem run_store1 {P : Program} {b i : Nat} {t tb : TypeId} {cs : List Value} {v : Value} (hb : w.heap[b]? = some (.cells cs.toArray tb (0, 0))) (hi : i < cs.length) (hv : v.cells = #[v]) (h1 : v.oneCell' = true) (hs : (P.info? t).map (·.size) = some 1) :
    (Instr.storeAt t (.pointer (some ⟨b, i, none⟩)) v).run P w = .ok () (w.setCell ⟨b, i, none⟩ v) := by
  obtain ⟨inf, hi', hs⟩ := Option.map_eq_some_iff.1 hs
  have hc : w.cell? ⟨b, i, none⟩ = some cs[i] := by rw [cell_of hb]; simp [hi]
  have hf : w.frozen? ⟨b, i, none⟩ = false := frozen_of hb
  have hst : (storeCells ⟨b, i, none⟩ [v]).run P w = .ok () (w.setCell ⟨b, i, none⟩ v) := by
    cases v <;> simp_all [storeCells, store, Sem.run, Value.oneCell', Addr.add, Sem.run_bind]
  simp [Instr.storeAt, Instr.sureAddr, storeVar, sizeOf, typeInfo, hi', hs, hv, hst]
theorem oSt {b i : Nat} {tb : TypeId} {cs cs' : List Value} (hx : E.op x = some (.pointer (some ⟨b, i, none⟩))) (hy : E.op y = some v) (hv : v.cells = #[v]) (h1 : v.oneCell' = true) (hs : (c.P.info? t).map (·.size) = some 1) (hp : Pick H (blk b tb cs) H') (hcs' : SetAt cs i v cs')
    (h : O M.toMd rest E D (blk b tb cs' :: H')) : O M.toMd (⟨none, .store t x y, ty, pos, af, none⟩ :: rest) E D H :=
  oEffs rfl fun a w ha hw => by
    obtain ⟨hi, hcs⟩ := hcs'.spec
    subst hcs
    have hb : w.heap[b]? = some (.cells cs.toArray tb (0, 0)) := hw.get hp
    refine ⟨w.setCell ⟨b, i, none⟩ v, blk b tb (cs.set i v) :: H', ?_, hw.upd' hp (Chg.setCell w ⟨b, i, none⟩ v) (set_heap hb) (fun k hk => .inl hk), h⟩
    simp [execOp, ha.op hx, ha.op hy, run_store1 hb hi hv h1 hs]
theorem oStA {b : Nat} {tb : TypeId} {cs vs : List Value} (hx : E.op x = some (.pointer (some ⟨b, 0, none⟩))) (hy : E.op y = some (.agg vs.toArray)) (h1 : vs.all (·.oneCell') = true) (hs : (c.P.info? t).map (·.size) = some vs.length) (hp : Pick H (blk b tb cs) H') (hl : cs.length = vs.length)
    (h : O M.toMd rest E D (blk b tb vs :: H')) : O M.toMd (⟨none, .store t x y, ty, pos, af, none⟩ :: rest) E D H :=
  oEffs rfl fun a w ha hw => by
    have hb : w.heap[b]? = some (.cells cs.toArray tb (0, 0)) := hw.get hp
    have hrun := run_storeVar_row (P := c.P) w b tb t cs.toArray vs.toArray hb (by simpa using hs) (by simpa using hl) (by simpa using h1)
    have hc : Chg w (w.setRow b vs.toArray) (fun k => k = b) := ⟨rfl, rfl, rfl, by simp [World.setRow], fun k _ hn => by rw [World.setRow]; simp only [Array.getElem?_modify]; rw [if_neg (fun h => hn h.symm)]⟩
    refine ⟨w.setRow b vs.toArray, blk b tb vs :: H', ?_, hw.upd' hp hc ?_ (fun k hk => .inl hk), h⟩
    · simp [execOp, ha.op hx, ha.op hy, Instr.storeAt, Instr.sureAddr, hrun]
    · show (w.setRow b vs.toArray).heap[b]? = _
      rw [World.setRow]; simp only [Array.getElem?_modify, if_true, hb, Option.map_some]

def Cat {α : Type} (kd : Kd α) (w : World) : List α → List Value → Prop
  | [], cs => cs = []
  | x :: xs, cs => ∃ a rest, cs = a ++ rest ∧ kd.K w x a ∧ Cat kd w xs rest
theorem Cat.len {α : Type} {kd : Kd α} {w : World} : ∀ {xs : List α} {cs : List Value}, Cat kd w xs cs → cs.length = xs.length * kd.sz
  | [], cs, h => by rw [h]; simp
  | x :: xs, cs, ⟨a, rest, e, hK, hR⟩ => by rw [e, List.length_append, kd.K_len hK, hR.len, List.length_cons, Nat.succ_mul]; omega
theorem Cat.at {α : Type} {kd : Kd α} {w : World} : ∀ {xs : List α} {cs : List Value}, Cat kd w xs cs → ∀ j x, xs[j]? = some x → ∃ a, kd.K w x a ∧ ∀ i u, a[i]? = some u → cs[j * kd.sz + i]? = some u
  | [], _, _, j, x, hj => by simp at hj
  | y :: xs, cs, ⟨a, rest, e, hK, hR⟩, 0, x, hj => by
    obtain rfl : y = x := by simpa using hj
    refine ⟨a, hK, fun i u hu => ?_⟩
    have hi : i < a.length := (List.getElem?_eq_some_iff.1 hu).1
    rw [e, Nat.zero_mul, Nat.zero_add, List.getElem?_append_left hi, hu]
  | y :: xs, cs, ⟨a, rest, e, hK, hR⟩, j + 1, x, hj => by
    obtain ⟨c2, h1, h2⟩ := Cat.at hR j x (by simpa using hj)
    refine ⟨c2, h1, fun i u hu => ?_⟩
    have hl := kd.K_len hK
    rw [e, List.getElem?_append_right (by rw [hl, Nat.succ_mul]; omega), hl, show (j + 1) * kd.sz + i - kd.sz = j * kd.sz + i by rw [Nat.succ_mul]; omega]
    exact h2 i u hu
theorem Cat.app {α : Type} {kd : Kd α} {w : World} : ∀ {xs ys : List α} {cs ds : List Value}, Cat kd w xs cs → Cat kd w ys ds → Cat kd w (xs ++ ys) (cs ++ ds)
  | [], ys, cs, ds, h, k => by rw [h]; simpa using k
  | x :: xs, ys, cs, ds, ⟨a, rest, e, hK, hR⟩, k => ⟨a, rest ++ ds, by rw [e, List.append_assoc], hK, hR.app k⟩
theorem Cat.one {α : Type} {kd : Kd α} {w : World} {x : α} {a : List Value} (h : kd.K w x a) : Cat kd w [x] a := ⟨a, [], by simp, h, rfl⟩
theorem Cat.ones {α : Type} {kd : Kd α} {w : World} : ∀ {xs : List α} {cs : List Value}, Cat kd w xs cs → ∀ u ∈ cs, u.oneCell' = true
  | [], cs, h => by rw [h]; simp
  | x :: xs, cs, ⟨a, rest, e, hK, hR⟩ => by
    intro u hu
    rw [e] at hu
    rcases List.mem_append.1 hu with h | h
    · exact kd.K_one hK u h
    · exact hR.ones u h
theorem Cat.take {α : Type} {kd : Kd α} {w : World} : ∀ {xs : List α} {cs : List Value} (n : Nat), Cat kd w xs cs → Cat kd w (xs.take n) (cs.take (n * kd.sz))
  | [], cs, n, h => by rw [h]; simp [Cat]
  | x :: xs, cs, 0, h => by simp [Cat]
  | x :: xs, cs, n + 1, ⟨a, rest, e, hK, hR⟩ => by
    refine ⟨a, rest.take (n * kd.sz), ?_, hK, hR.take n⟩
    have hl := kd.K_len hK
    rw [e, List.take_append, List.take_of_length_le (by rw [hl, Nat.succ_mul]; omega), hl, show (n + 1) * kd.sz - kd.sz = n * kd.sz by rw [Nat.succ_mul]; omega]
theorem Cat.grow {α : Type} {kd : Kd α} {w w' : World} (g : Grow w w') : ∀ {xs : List α} {cs : List Value}, Cat kd w xs cs → Cat kd w' xs cs
  | [], cs, h => h
  | x :: xs, cs, ⟨a, rest, e, hK, hR⟩ => ⟨a, rest, e, kd.K_grow g hK, Cat.grow g hR⟩
def row {α : Type} (kd : Kd α) (W : World) (e : TypeId) (v : Value) (xs : List α) : Res where
  fp k := v.ownBlock = some k
  q w := ∃ cs, w.ownsRow 0 e kd.sz v xs.length cs ∧ Cat kd W xs cs
  inb w h k hk := by obtain ⟨cs, ho, _⟩ := h; exact (ho.lt k hk).2
  st w w' h hk := by
    obtain ⟨cs, ho, hr⟩ := h
    refine ⟨cs, ?_, hr⟩
    obtain ⟨h1, h2⟩ := ho
    refine ⟨h1, ?_⟩
    rcases h2 with h2 | ⟨g, cap, cur, rfl, hg, hh, r⟩
    · exact .inl h2
    · exact .inr ⟨g, cap, cur, rfl, hg, (hk g (by simp [Value.ownBlock])).trans hh, r⟩
theorem St.nilrow {α : Type} (kd : Kd α) (W : World) (e : TypeId) (h : St B Φ w) : St B (row kd W e (.slice none 0 0) [] :: Φ) w :=
  h.add (Chg.refl _ _) ⟨[], World.ownsRow_nil _ _ _ _, rfl⟩ (fun k hk => by simp [row, Value.ownBlock] at hk)
theorem Leads.nilrow {α : Type} {kd : Kd α} {W : World} {e : TypeId} : Leads B Φ (row kd W e (.slice none 0 0) [] :: Φ) := fun _ h => h.nilrow kd W e
theorem row_C {α : Type} {kd : Kd α} {W : World} {e : TypeId} {A : Option Addr} {n cp : Nat} {xs : List α} (h : (row kd W e (.slice A n cp) xs).q w) (g : Grow W w) : n = xs.length ∧ n ≤ cp ∧ kd.C w A xs ∧ (0 < n → ∃ b, A = some ⟨b, 0, none⟩) := by
  obtain ⟨cs, ⟨hl, ho⟩, hr⟩ := h
  rcases ho with ⟨e1, e2⟩ | ⟨b, cap, cur, e1, _, hh, h1, h2, h3, h4⟩
  · injection e1 with e1 e3 e4
    subst e1 e3 e4
    have : xs = [] := List.eq_nil_of_length_eq_zero e2
    subst this
    exact ⟨rfl, Nat.le_refl _, Kd.C_nil _ _ _, fun h => absurd h (by omega)⟩
  · injection e1 with e1 e3 e4
    subst e1 e3 e4
    have hm : maxLen = 9223372036854775807 := rfl
    refine ⟨rfl, h1, ⟨by omega, fun _ => ⟨_, rfl, fun j x hx => ?_⟩⟩, fun _ => ⟨b, rfl⟩⟩
    obtain ⟨a, hK, hc⟩ := hr.at j x hx
    refine ⟨a, kd.K_grow g hK, fun i u hu => ?_⟩
    have := hc i u hu
    rw [add_at, Nat.zero_add]
    unfold World.cell?
    rw [hh]
    simp only [Option.isSome_none, Bool.false_eq_true, if_false]
    rw [← h4, List.getElem?_take] at this
    split at this
    · simpa using this
    · cases this
theorem oIdxR {α : Type} {kd : Kd α} {W : World} {e e' : TypeId} {A : Option Addr} {n cp i s : Nat} {xs : List α} (hx : E.op x = some (.slice A n cp)) (hy : E.op y = some (.int k (i : Int))) (hp : Pick H (row kd W e (.slice A n cp) xs) H') (hi : i < n) (ht : elemT c.P t = some (e', s)) (hsz : kd.sz = s) {N : Md c}
    (h : ∀ g, A = some ⟨g, 0, none⟩ → O N rest ((d, .pointer (some (elt g i s 0))) :: E) D H) (hN : Nat.blt d c.N = true := by rfl) : O N (⟨some d, .indexAddr t x y, ty, pos, af, none⟩ :: rest) E D H := by
  intro a w ha hw
  subst hsz
  obtain ⟨cs, ⟨hl, ho⟩, hr⟩ : (row kd W e (.slice A n cp) xs).q w := hw.get hp
  rcases ho with ⟨e1, e2⟩ | ⟨b, cap, cur, e1, _⟩
  · injection e1 with e1 e3 e4; omega
  · injection e1 with e1 e3 e4
    subst e1 e3 e4
    refine oC (.pointer (some (elt b i kd.sz 0))) rfl hN (fun u w ha hw => ?_) (h b rfl) a w ha hw
    have e1 : elt b i kd.sz 0 = (⟨b, 0, none⟩ : Addr).add (i * kd.sz) := by rw [add_at]; unfold elt; simp
    simp [execOp, ha.op hx, ha.op hy, run_indexAt ht ⟨b, 0, none⟩ _ cp i hi k w, e1]
theorem oLdR {α : Type} {kd : Kd α} {W : World} {e : TypeId} {g n cp i j s : Nat} {xs : List α} (hx : E.op x = some (.pointer (some (elt g i s j)))) (hp : Pick H (row kd W e (.slice (some ⟨g, 0, none⟩) n cp) xs) H') (hi : i < xs.length) (hsz : kd.sz = s) (hs : scalT c.P t = true) {N : Md c}
    (h : ∀ u cs, xs[i]? = some u → kd.K W u cs → ∃ v, cs[j]? = some v ∧ O N rest ((d, v) :: E) D H) (hN : Nat.blt d c.N = true := by rfl) : O N (⟨some d, .load t x, ty, pos, af, none⟩ :: rest) E D H := by
  intro a w ha hw
  subst hsz
  obtain ⟨cs0, ho, hr⟩ : (row kd W e (.slice (some ⟨g, 0, none⟩) n cp) xs).q w := hw.get hp
  obtain ⟨cs, hK, hc⟩ := hr.at i _ (List.getElem?_eq_getElem hi)
  obtain ⟨v, hv, hO⟩ := h _ cs (List.getElem?_eq_getElem hi) hK
  have hcell := ho.cells (g := g) rfl _ v (hc j v hv)
  rw [add_at, Nat.zero_add] at hcell
  refine N.calm _ _ _ _ v rfl rfl ?_ (hO _ _ (ha.put hN) hw)
  have e1 : elt g i kd.sz j = ⟨g, i * kd.sz + j, none⟩ := by unfold elt; rfl
  simp [execOp, ha.fit.op hx, Instr.loadAt, Instr.sureAddr, loadVar, run_isAgg_s hs, e1, hcell]
theorem oLdR1 {α : Type} {enc : α → Value} {h1 : ∀ x, (enc x).oneCell' = true} {W : World} {e : TypeId} {g n cp i : Nat} {xs : List α} (hx : E.op x = some (.pointer (some (elt g i 1 0)))) (hp : Pick H (row (Kd.scalar enc h1) W e (.slice (some ⟨g, 0, none⟩) n cp) xs) H') (hi : i < xs.length) (hs : scalT c.P t = true) {N : Md c}
    (h : ∀ u, xs[i]? = some u → O N rest ((d, enc u) :: E) D H) (hN : Nat.blt d c.N = true := by rfl) : O N (⟨some d, .load t x, ty, pos, af, none⟩ :: rest) E D H :=
  oLdR hx hp hi rfl hs (fun u cs hu hK => by obtain rfl := hK; exact ⟨_, rfl, h u hu⟩) hN
end
end Go.Proofs.YtogaiijhicfoaaaGreatK


/-
  The walk's rules: rows that are made, grown and written; maps; calls; how a function is entered and left.
-/
namespace Go.Proofs.YtogaiijhicfoaaaGreatK
set_option linter.unusedVariables false
set_option linter.unusedSimpArgs false
open Go.RowKit
section
variable {c : Cx} {M : Me c} {d : Nat} {dst : Option Nat} {ty : TypeId} {pos : String} {af : Array Edge} {rest : List Oper} {E : Env} {D : List Deferred} {H H' H'' : List Res} {v : Value} {x y z : Operand} {k : IntKind} {t t' : TypeId}
variable {B : Base} {w w' : World} {Φ Φ' Φ'' Ψ : List Res} {P : Program}

theorem oBuildSlice {len : Nat} {ps : Array (Nat × Operand)} {vs : List (Nat × Value)} {zs cs : List Value} {e : TypeId} {s : Nat} {zv : Value} (hx : Parts E ps.toList vs) (ht : elemT c.P t = some (e, s)) (hz : ((c.P.info? e).map (·.zero)) = some (some zv))
    (hsm : Nat.ble (len * s) 16777216 = true) (h0 : Nat.beq (len * s) 0 = false) (hzs : ((Array.range (len * s)).map (zv.cells[· % zv.cells.size]!)).toList = zs) (hf : Built (fun i => some (i * s, s)) zs vs cs)
    (h : ∀ b, O M.toMd rest ((d, .slice (some ⟨b, 0, none⟩) len len) :: E) D (blk b e cs :: H)) (hN : Nat.blt d c.N = true := by rfl) : O M.toMd (⟨some d, .buildSlice t len ps, ty, pos, af, none⟩ :: rest) E D H :=
  oEff rfl hN fun a w ha hw => by
    have hsm : len * s ≤ 16777216 := Nat.le_of_ble_eq_true hsm
    have h0 : len * s ≠ 0 := by intro e; rw [e] at h0; cases h0
    obtain ⟨ht1, inf, hi1, hs⟩ := run_elemT ht
    obtain ⟨inf', hi2, hz⟩ := Option.map_eq_some_iff.1 hz
    have he : inf' = inf := by rw [hi1] at hi2; exact (Option.some.inj hi2).symm
    subst he
    refine ⟨_, w.alloc (.cells cs.toArray e), _, ?_, by simpa using hw.alloc (.cells cs.toArray e), h w.heap.size⟩
    have h3 := hx.spec ha
    have hf := hf.spec
    have hzs : (Array.range (len * s)).map (zv.cells[· % zv.cells.size]!) = zs.toArray := by rw [← hzs]
    rw [← hzs, ← h3] at hf
    simp only [execOp, Sem.run_bind, Instr.buildSlice, run_underlying ht1, Result.andThen_ok, sizeOf, typeInfo, zeroValue]
    simp [hi1, hs, hz, h0, hf, newRow, show ¬ (16777216 < len * s) by omega]
theorem oBuildSlice1 {e : TypeId} {s : Nat} {zv : Value} {cs : List Value} (hx : E.op x = some v) (ht : elemT c.P t = some (e, s)) (hz : ((c.P.info? e).map (·.zero)) = some (some zv)) (hsm : Nat.ble s 16777216 = true) (h0 : Nat.beq s 0 = false) (hc : CellsOf v cs) (hl : cs.length = s)
    (h : ∀ b, O M.toMd rest ((d, .slice (some ⟨b, 0, none⟩) 1 1) :: E) D (blk b e cs :: H)) (hN : Nat.blt d c.N = true := by rfl) : O M.toMd (⟨some d, .buildSlice t 1 #[(0, x)], ty, pos, af, none⟩ :: rest) E D H := by
  refine oBuildSlice (zs := ((Array.range (1 * s)).map (zv.cells[· % zv.cells.size]!)).toList) (.cons hx .nil) ht hz (by simpa using hsm) (by simpa using h0) rfl ?_ h hN
  refine Built.cons (off := 0) (s := s) (by simp) hc hl (ds := cs) ?_ .nil
  have key : ∀ (cs ds : List Value), cs.length = ds.length → PutL ds 0 cs cs := by
    intro cs
    induction cs with
    | nil => intro ds h; cases ds with
      | nil => exact .done
      | cons => simp at h
    | cons u cs ih =>
      intro ds h
      cases ds with
      | nil => simp at h
      | cons d ds => exact .put (ih ds (by simpa using h))
  exact key cs _ (by simp [hl])
def elemI (P : Program) (t : TypeId) : Option (TypeId × Value × Nat × Nat) := match P.underlying t with
  | some (.slice e) => match P.info? e with
    | some i => match i.zero with
      | some z => bif Nat.beq z.cells.size i.size && Nat.blt 0 i.size then some (e, z, i.size, i.bytes) else none
      | none => none
    | none => none
  | _ => none
theorem elemI_spec {e : TypeId} {zv : Value} {s by_ : Nat} (h : elemI P t = some (e, zv, s, by_)) : P.underlying t = some (.slice e) ∧ ∃ i, P.info? e = some i ∧ i.zero = some zv ∧ i.size = s ∧ i.bytes = by_ ∧ zv.cells.size = s ∧ 0 < s := by
  unfold elemI at h
  cases hu : P.underlying t with
  | none => rw [hu] at h; cases h
  | some u =>
    rw [hu] at h
    cases u with
    | slice e' =>
      simp only [] at h
      cases hi : P.info? e' with
      | none => rw [hi] at h; cases h
      | some i =>
        rw [hi] at h
        simp only [] at h
        cases hz : i.zero with
        | none => rw [hz] at h; cases h
        | some z =>
          rw [hz] at h
          simp only [] at h
          cases hb : (Nat.beq z.cells.size i.size && Nat.blt 0 i.size) with
          | false => rw [hb] at h; cases h
          | true =>
            rw [hb] at h
            simp only [cond_true, Option.some.injEq, Prod.mk.injEq] at h
            obtain ⟨rfl, rfl, rfl, rfl⟩ := h
            simp only [Bool.and_eq_true, Nat.beq_eq, Nat.blt_eq] at hb
            exact ⟨rfl, i, hi, hz, rfl, rfl, hb.1, hb.2⟩
    | _ => cases h
theorem oApp1 {α : Type} {kd : Kd α} {W : World} {e tb : TypeId} {zv : Value} {s by_ b cp : Nat} {xs : List α} {news : List Value} (u : α) (hx : E.op x = some v) (hy : E.op y = some (.slice (some ⟨b, 0, none⟩) 1 cp)) (ht : elemI c.P t = some (e, zv, s, by_)) (hsz : kd.sz = s)
    (hp : Pick H (row kd W e v xs) H') (hpb : Pick H' (blk b tb news) H'') (hK : kd.K W u news) (hl : xs.length + 1 ≤ 1000000000) (hby : Nat.ble by_ 140000 = true)
    (h : ∀ g cp', O M.toMd rest ((d, .slice (some ⟨g, 0, none⟩) (xs.length + 1) cp') :: E) D (row kd W e (.slice (some ⟨g, 0, none⟩) (xs.length + 1) cp') (xs ++ [u]) :: H'')) (hN : Nat.blt d c.N = true := by rfl) :
    O M.toMd (⟨some d, .call { callee := .builtin .append, args := #[x, y], argTypes := #[t, t] }, ty, pos, af, none⟩ :: rest) E D H :=
  oEff rfl hN fun a w ha hw => by
    have hbb : w.heap[b]? = some (.cells news.toArray tb (0, 0)) := (hw.perm hp.perm).drop.get hpb
    have hb2 : by_ ≤ 140000 := Nat.le_of_ble_eq_true hby
    have hml : maxLen = 9223372036854775807 := rfl
    subst hsz
    obtain ⟨ht1, i0, hi, hz0, hz1, hz2, hzs, hsp⟩ := elemI_spec ht
    obtain ⟨cs, ho, hr⟩ : (row kd W e v xs).q w := hw.get hp
    have hcat : Cat kd W [u] news := Cat.one hK
    have hlb : (xs.length + 1) * by_ ≤ 140737488355328 := Nat.le_trans (Nat.mul_le_mul hl hb2) (by decide)
    obtain ⟨v', w', hrun, hown, hgr, _, hat⟩ := run_append_own_at (P := c.P) (w := w) 0 t ty e i0 zv kd.sz by_ ht1 hi hz0 hz1 hz2 hzs hsp v xs.length cs ho ⟨b, 0, none⟩ 1 cp news (by rw [hcat.len]; rfl) (fun j u hu => by
      rw [add_at, Nat.zero_add, cell_of hbb]; exact hu) hcat.ones (by omega) hlb (Nat.zero_le _)
    have hown0 := hown
    obtain ⟨_, ho2⟩ := hown
    rcases ho2 with ⟨_, e2⟩ | ⟨g, cap, cur, rfl, _⟩
    · omega
    · refine ⟨_, w', _, ?_, ?_, h g cap⟩
      · simp [execOp, resolve, invoke, builtin, ha.op hx, ha.op hy, hrun]
      · have hup : St c.B (row kd W e (.slice (some ⟨g, 0, none⟩) (xs.length + 1) cap) (xs ++ [u]) :: H') w' := by
          refine hw.upd' hp ((Chg.of_grown hgr).mono (fun k hk => hk.symm)) ⟨cs ++ news, by rw [List.length_append]; exact hown0, hr.app hcat⟩ ?_
          intro k hk
          have hk : (Value.slice (some ⟨g, 0, none⟩) (xs.length + 1) cap).ownBlock = some k := hk
          rcases hat with h1 | h1
          · exact .inl (show v.ownBlock = some k from h1 ▸ hk)
          · right; rw [h1] at hk; have := Option.some.inj hk; omega
        exact (hup.perm ((hpb.perm.cons _).trans (List.Perm.swap _ _ _))).drop
theorem Cat.reps {α : Type} {kd : Kd α} {W : World} {u : α} {z : Value} (hK : kd.K W u [z]) : ∀ n, Cat kd W (List.replicate n u) (List.replicate n z)
  | 0 => rfl
  | n + 1 => ⟨[z], List.replicate n z, rfl, hK, Cat.reps hK n⟩
theorem oMake {α : Type} {kd : Kd α} {W : World} {e : TypeId} {zv zc : Value} {by_ n : Nat} (u : α) (hx : E.op x = some (.int .i64 (n : Int))) (hx' : E.op y = some (.int .i64 (n : Int))) (ht : elemI c.P t = some (e, zv, 1, by_)) (hsz : kd.sz = 1) (hzc : zv.cells = #[zc]) (hK : kd.K W u [zc]) (hl : n ≤ 1000000000) (hby : Nat.ble by_ 140000 = true)
    (h : ∀ g, O M.toMd rest ((d, .slice (some ⟨g, 0, none⟩) n n) :: E) D (row kd W e (.slice (some ⟨g, 0, none⟩) n n) (List.replicate n u) :: H)) (hN : Nat.blt d c.N = true := by rfl) :
    O M.toMd (⟨some d, .makeSlice t x y, ty, pos, af, none⟩ :: rest) E D H :=
  oEff rfl hN fun a w ha hw => by
    obtain ⟨ht1, i0, hi, hz0, hz1, hz2, hzs, hsp⟩ := elemI_spec ht
    have hb2 : by_ ≤ 140000 := Nat.le_of_ble_eq_true hby
    have hlb : i0.bytes * n ≤ 281474976710656 := by
      rw [hz2, Nat.mul_comm]
      exact Nat.le_trans (Nat.mul_le_mul hl hb2) (by decide)
    have hml : maxLen = 9223372036854775807 := rfl
    obtain ⟨w', hrun, hown, hgr⟩ := run_make_full w 0 t e i0 zv 1 ht1 hi hz0 hz1 .i64 .i64 n hlb (by omega) (Nat.zero_le _)
    refine ⟨_, w', _, ?_, ?_, h w.heap.size⟩
    · simp [execOp, ha.op hx, ha.op hx', hrun]
    · have hc : (madeCells zv.cells (n * 1)).toList = List.replicate n zc := by
        rw [hzc]
        apply List.ext_getElem?
        intro j
        by_cases hj : j < n
        · simp [madeCells, List.getElem?_replicate, List.getElem?_range, hj, Nat.mod_one]
        · simp [madeCells, List.getElem?_replicate, List.getElem?_eq_none, Nat.not_lt.1 hj, hj]
      refine hw.add ((Chg.of_grown hgr).mono (fun k hk => by cases hk)) ⟨List.replicate n zc, ?_, Cat.reps hK n⟩ ?_
      · rw [List.length_replicate, hsz, ← hc]; exact hown
      · intro k hk
        have hk : some w.heap.size = some k := hk
        injection hk with hk; omega
def goodF (P : Program) (g : FuncId) : Bool := match P.funcs[g]? with
  | some fn => fn.name != "runtime.NumGoroutine" && fn.body.isSome
  | none => false
theorem run_callFunc {g : FuncId} (h : goodF P g = true) (args : Array Value) (w : World) : (callFunc g args).run P w = .ok (.enter g args) w := by
  unfold goodF at h
  cases hf : P.funcs[g]? with
  | none => rw [hf] at h; cases h
  | some fn =>
    rw [hf] at h
    simp only [Bool.and_eq_true, bne_iff_ne, ne_eq] at h
    cases hb : fn.body with
    | none => rw [hb] at h; simp at h
    | some body => simp [callFunc, hf, h.1, hb]
def Ret {ι : Type} (B : Base) (inv : ι → Prop) (val : ι → Value) (post : ι → List Res) (e : Ending) (w : World) : Prop := ∃ i, inv i ∧ e = .returned (val i) ∧ St B (post i) w
theorem frame {ι : Type} {inv : ι → Prop} {val : ι → Value} {post : ι → List Res} {g : FuncId} {args : Array Value} (hS : St B Φ w) (hs : Split Φ Ψ Φ') (h : ∀ B', Grow B.e B'.e → St B' Ψ w → CallsIn Fence.wide 0 P g args w (Ret B' inv val post)) :
    CallsIn Fence.wide 0 P g args w (Ret B inv val (fun i => post i ++ Φ')) := by
  have hS' := hS.perm hs.perm
  refine (h (B.call w Ψ) hS'.egrow hS'.lend).mono ?_
  rintro e w' ⟨i, hi, he, hw⟩
  exact ⟨i, hi, he, hS'.give hw⟩
theorem oCallV {ι : Type} {inv : ι → Prop} {val : ι → Value} {post : ι → List Res} {f : Operand} {args : Array Operand} {ats : Array TypeId} {g : FuncId} {fst cap : Array Value} {vs : List Value} {as : Array Value} (hf : E.op f = some (.func (.func g) fst cap)) (hargs : E.ops args.toList = some vs) (has : fst ++ vs.toArray ++ cap = as) (hg : goodF c.P g = true)
    (hc : ∀ w, St c.B H w → CallsIn Fence.wide 0 c.P g as w (Ret c.B inv val post)) (h : ∀ i, inv i → O M.toMd rest ((d, val i) :: E) D (post i)) (hN : Nat.blt d c.N = true := by rfl) :
    O M.toMd (⟨some d, .call { callee := .value f, args := args, argTypes := ats }, ty, pos, af, none⟩ :: rest) E D H := by
  intro a w ha hw
  refine M.enter _ _ _ _ g as w rfl rfl ?_ ((hc w hw).mono ?_)
  · have h1 : args.map a.eval = vs.toArray := by
      apply Array.toList_inj.1
      simpa using ha.fit.ops hargs
    subst has
    simp only [execOp, resolve, Sem.run_bind, ha.fit.op hf, h1, Deferred.ofValue, Sem.run_pure, Result.andThen_ok, invoke, run_callFunc hg]
  · rintro e w' ⟨i, hi, rfl, hw'⟩
    exact ⟨val i, rfl, h i hi _ _ (ha.put hN) hw'⟩
theorem oCall {ι : Type} {inv : ι → Prop} {val : ι → Value} {post : ι → List Res} {args : Array Operand} {ats : Array TypeId} {g : FuncId} {vs : List Value} (hargs : E.ops args.toList = some vs) (hg : goodF c.P g = true)
    (hc : ∀ w, St c.B H w → CallsIn Fence.wide 0 c.P g vs.toArray w (Ret c.B inv val post)) (h : ∀ i, inv i → O M.toMd rest ((d, val i) :: E) D (post i)) (hN : Nat.blt d c.N = true := by rfl) :
    O M.toMd (⟨some d, .call { callee := .value (.func g), args := args, argTypes := ats }, ty, pos, af, none⟩ :: rest) E D H :=
  oCallV rfl hargs (by simp) hg hc h hN

inductive ResR (P : Program) (E : Env) (H : List Res) : ResultVar → Value → Prop
  | tmp {t : Tmp} {v : Value} (h : E.find t = some v) : ResR P E H (.tmp t) v
  | cell {a b : Nat} {t tb : TypeId} {v : Value} {H' : List Res} (h : E.find a = some (.pointer (some ⟨b, 0, none⟩))) (hp : Pick H (blk b tb [v]) H') (hs : scalT P t = true) : ResR P E H (.cell a t) v
  | agg {a b n : Nat} {t tb : TypeId} {vs : List Value} {H' : List Res} (h : E.find a = some (.pointer (some ⟨b, 0, none⟩))) (hp : Pick H (blk b tb vs) H') (hs : aggN P t = some n) (hl : vs.length = n) : ResR P E H (.cell a t) (.agg vs.toArray)
inductive ResL (P : Program) (E : Env) (H : List Res) : List ResultVar → List Value → Prop
  | nil : ResL P E H [] []
  | cons {r : ResultVar} {v : Value} {rs : List ResultVar} {vs : List Value} (h : ResR P E H r v) (k : ResL P E H rs vs) : ResL P E H (r :: rs) (v :: vs)
def resVal : List Value → Value
  | [v] => v
  | vs => .tuple vs.toArray
def fin (P : Program) (rs : List ResultVar) (R : Value → List Res → Prop) : Post
  | .ret, E, D, H => D = [] ∧ ∃ vs, ResL P E H rs vs ∧ R (resVal vs) H
  | .normal, E, D, H => D = [] ∧ ∃ vs, ResL P E H rs vs ∧ R (resVal vs) H
  | _, _, _, _ => False
def resV (tmps : Array Value) : ResultVar → Sem Value
  | .tmp t => pure (tmps.getD t undef)
  | .cell a t => do loadVar t (← asAddr (tmps.getD a undef))
theorem results_eq (fn : Func) (tmps : Array Value) : results fn tmps = (do let vs ← fn.results.mapM (resV tmps); pure (if h : vs.size = 1 then vs[0] else .tuple vs)) := rfl
theorem ResR.run {P : Program} {E : Env} {H : List Res} {r : ResultVar} {v : Value} (h : ResR P E H r v) {a : Act} (ha : Fits E a) (hw : St B H w) : (resV a.tmps r).run P w = .ok v w := by
  cases h with
  | tmp h => simp [resV, ha _ _ h]
  | cell h hp hs =>
    have hc := hw.cell hp 0 rfl
    show (Sem.run P (do loadVar _ (← asAddr (a.tmps.getD _ undef))) w) = _
    rw [ha _ _ h]
    simp [asAddr, loadVar, run_isAgg_s hs, hc]
  | @agg a' b n t tb vs H' h hp hs hl =>
    have h1 := run_isAgg_a hs w
    have h2 := run_loadCells_list (P := P) w ⟨b, 0, none⟩ vs (fun j u hu => by
      rw [add_at, Nat.zero_add]; exact hw.cell hp j hu)
    rw [hl] at h2
    show (Sem.run P (do loadVar _ (← asAddr (a.tmps.getD _ undef))) w) = _
    rw [ha _ _ h]
    simp [asAddr, loadVar, h1.1, h1.2, h2]
theorem ResL.run {P : Program} {E : Env} {H : List Res} {rs : List ResultVar} {vs : List Value} (h : ResL P E H rs vs) {a : Act} (ha : Fits E a) (hw : St B H w) : (rs.mapM (resV a.tmps)).run P w = .ok vs w := by
  induction h with
  | nil => simp
  | cons h k ih => simp [h.run ha hw, ih]
theorem ResL.results {P : Program} {E : Env} {H : List Res} {fn : Func} {vs : List Value} (h : ResL P E H fn.results.toList vs) {a : Act} (ha : Fits E a) (hw : St B H w) : (results fn a.tmps).run P w = .ok (resVal vs) w := by
  rw [results_eq]
  have h1 := h.run ha hw
  have h2 : (fn.results.mapM (resV a.tmps)).run P w = .ok vs.toArray w := by
    rw [Array.mapM_eq_mapM_toList]; simp [h1]
  simp only [Sem.run_bind, h2, Result.andThen_ok]
  match vs with
  | [] => simp [resVal]
  | [v] => simp [resVal]
  | v :: u :: vs => simp [resVal]
theorem enter {ι : Type} {inv : ι → Prop} {val : ι → Value} {post : ι → List Res} {f : FuncId} {fn : Func} {body : Code} {args : List Value} (hf : P.funcs[f]? = some fn) (hb : fn.body = some body) (hl : Nat.ble args.length fn.ntmps = true) (hS : St B Ψ w)
    (h : W ⟨P, Fence.wide, fn.ntmps, B, fun _ => trivial, rfl, fun h => h⟩ body (fin P fn.results.toList (fun v H => ∃ i, inv i ∧ v = val i ∧ Leads B H (post i))) ((args.zipIdx).map fun p => (p.2, p.1)) [] Ψ) :
    CallsIn Fence.wide 0 P f args.toArray w (Ret B inv val post) := by
  refine callsIn_of_wp hf hb trivial (wpIn_mono (h _ w (Ok.enter fn.ntmps args (Nat.le_of_ble_eq_true hl)) hS) ?_) rfl
  rintro e a w' ⟨E, D, H, h1, h2, h3, _⟩
  have key : D = [] → (∃ vs, ResL P E H fn.results.toList vs ∧ ∃ i, inv i ∧ resVal vs = val i ∧ Leads B H (post i)) → a.defers = [] ∧ ∃ v, (results fn a.tmps).run P w' = .ok v w' ∧ Ret B inv val post (.returned v) w' := by
    rintro hD ⟨vs, hr, i, hi, hv, hsp⟩
    exact ⟨h1.dfr.trans hD, _, hr.results h1.fit h2, i, hi, by rw [hv], hsp _ h2⟩
  cases e with
  | normal => exact key h3.1 h3.2
  | ret => exact key h3.1 h3.2
  | _ => exact h3.elim
end
end Go.Proofs.YtogaiijhicfoaaaGreatK


/-
  The walk's rules: ways out of a piece of code; pointers against nil; maps; stores into rows; a slice's beginning; methods of an interface's value.
-/
namespace Go.Proofs.YtogaiijhicfoaaaGreatK
set_option linter.unusedVariables false
set_option linter.unusedSimpArgs false
open Go.RowKit
section
variable {K : Env → List Deferred → List Res → Prop} {Q : Post} {E : Env} {D : List Deferred} {H : List Res} {id i : Nat}
theorem thn_n (h : K E D H) : thn K Q .normal E D H := h
theorem thn_r (h : Q .ret E D H) : thn K Q .ret E D H := h
theorem thn_x (h : Q (.exit i) E D H) : thn K Q (.exit i) E D H := h
theorem blk_n (h : Q .normal E D H) : inBlk id Q .normal E D H := h
theorem blk_r (h : Q .ret E D H) : inBlk id Q .ret E D H := h
theorem blk_x (h : Q .normal E D H) : inBlk id Q (.exit id) E D H := by
  show (bif Nat.beq id id then Q .normal E D H else Q (.exit id) E D H)
  rw [Nat.beq_refl]; exact h
theorem fin_n {P : Program} {rs : List ResultVar} {R : Value → List Res → Prop} (h : D = [] ∧ ∃ vs, ResL P E H rs vs ∧ R (resVal vs) H) : fin P rs R .normal E D H := h
theorem fin_r {P : Program} {rs : List ResultVar} {R : Value → List Res → Prop} (h : D = [] ∧ ∃ vs, ResL P E H rs vs ∧ R (resVal vs) H) : fin P rs R .ret E D H := h
end
section
variable {c : Cx} {N : Md c} {M : Me c} {d : Nat} {ty : TypeId} {pos : String} {af : Array Edge} {rest : List Oper} {E : Env} {D : List Deferred} {H H' H'' : List Res} {v : Value} {x y z : Operand} {k : IntKind} {t t' : TypeId}
variable {B : Base} {w w' : World} {Φ Φ' Φ'' Ψ : List Res} {P : Program}
def isBool (P : Program) (t : TypeId) : Bool := match P.underlying t with
  | some .bool => true
  | _ => false
theorem run_boolEq {t : TypeId} (ht : isBool P t = true) (p q : Bool) (w : World) : (Op.equal t (.bool p) (.bool q)).run P w = .ok (p == q) w := by
  unfold isBool at ht
  cases hu : P.underlying t with
  | none => rw [hu] at ht; cases ht
  | some u =>
    rw [hu] at ht
    cases u <;> simp only [reduceCtorEq, Bool.false_eq_true] at ht
    simp only [Op.equal, Op.maxDepth]
    rw [Op.equalIn.eq_def]
    simp [run_underlying hu]
theorem oNeqBool {p q : Bool} (hx : E.op x = some (.bool p)) (hy : E.op y = some (.bool q)) (ht : isBool c.P t = true) (h : O N rest ((d, .bool (decide (¬ p = q))) :: E) D H) (hN : Nat.blt d c.N = true := by rfl) : O N (⟨some d, .binOp .neq t x y t', ty, pos, af, none⟩ :: rest) E D H :=
  oC _ rfl hN (fun a w ha hw => by
    have h1 : (eqGuard .neq t x y (.bool p) (.bool q)).run c.P w = .ok () w := by unfold eqGuard; simp
    have h2 : (binOp .neq t (.bool p) (.bool q)).run c.P w = .ok (.bool (decide (¬ p = q))) w := by
      simp [binOp, run_boolEq ht]; cases p <;> cases q <;> rfl
    simp only [execOp, ha.op hx, ha.op hy, Sem.run_bind, h1, Result.andThen_ok, h2, Sem.run_pure]) h

section
variable {κ β : Type} [DecidableEq κ] {enc : κ → Value} {ev : β → Value} {kd : TypeDesc}
end
end
end Go.Proofs.YtogaiijhicfoaaaGreatK


/-
  The walk's rules: stores into rows, a row's beginning, methods of an interface's value, other operations.
-/
namespace Go.Proofs.YtogaiijhicfoaaaGreatK
set_option linter.unusedVariables false
set_option linter.unusedSimpArgs false
open Go.RowKit
section
variable {c : Cx} {N : Md c} {M : Me c} {d : Nat} {ty : TypeId} {pos : String} {af : Array Edge} {rest : List Oper} {E : Env} {D : List Deferred} {H H' H'' : List Res} {v : Value} {x y z : Operand} {k : IntKind} {t t' : TypeId}
variable {B : Base} {w w' : World} {Φ Φ' Φ'' Ψ : List Res} {P : Program}

theorem Cat.scal {α : Type} {enc : α → Value} {h1 : ∀ x, (enc x).oneCell' = true} {W : World} : ∀ {xs : List α} {cs : List Value}, Cat (Kd.scalar enc h1) W xs cs ↔ cs = xs.map enc
  | [], cs => Iff.rfl
  | x :: xs, cs => by
    constructor
    · rintro ⟨a, rest, rfl, rfl, hR⟩
      rw [Cat.scal.1 hR]; rfl
    · rintro rfl
      exact ⟨[enc x], xs.map enc, rfl, rfl, Cat.scal.2 rfl⟩
theorem oStR {α : Type} {enc : α → Value} {h1 : ∀ x, (enc x).oneCell' = true} {W : World} {e : TypeId} {g n cp i : Nat} {xs : List α} (u : α) (hx : E.op x = some (.pointer (some (elt g i 1 0)))) (hy : E.op y = some (enc u)) (hv : (enc u).cells = #[enc u]) (hs : (c.P.info? t).map (·.size) = some 1)
    (hp : Pick H (row (Kd.scalar enc h1) W e (.slice (some ⟨g, 0, none⟩) n cp) xs) H') (hi : i < xs.length)
    (h : O M.toMd rest E D (row (Kd.scalar enc h1) W e (.slice (some ⟨g, 0, none⟩) n cp) (xs.set i u) :: H')) : O M.toMd (⟨none, .store t x y, ty, pos, af, none⟩ :: rest) E D H :=
  oEffs rfl fun a w ha hw => by
    obtain ⟨cs, ho, hr⟩ : (row (Kd.scalar enc h1) W e (.slice (some ⟨g, 0, none⟩) n cp) xs).q w := hw.get hp
    have hcs := Cat.scal.1 hr
    obtain ⟨hl, ho⟩ := ho
    rcases ho with ⟨e1, _⟩ | ⟨g', cap, cur, e1, _, hb, g2, g3, g4, g5⟩
    · injection e1 with e1 _ _; cases e1
    · injection e1 with e1 e2 e3
      injection e1 with e1; injection e1 with e1 _ _
      subst e1 e2 e3
      have hs1 : (Kd.scalar enc h1).sz = 1 := rfl
      rw [hs1] at g4 g5 hl
      have e1 : elt g i 1 0 = ⟨g, i, none⟩ := by unfold elt; simp
      have hb' : w.heap[g]? = some (.cells cur.toList.toArray e (0, 0)) := by simpa using hb
      have hic : i < cur.toList.length := by simp; omega
      have hrun := run_store1 (P := c.P) (t := t) hb' hic hv (h1 u) hs
      refine ⟨w.setCell ⟨g, i, none⟩ (enc u), row (Kd.scalar enc h1) W e (.slice (some ⟨g, 0, none⟩) xs.length cp) (xs.set i u) :: H', ?_, hw.upd' hp ((Chg.setCell w ⟨g, i, none⟩ (enc u)).mono (fun k hk => by subst hk; rfl)) ⟨(xs.set i u).map enc, ?_, Cat.scal.2 rfl⟩ (fun k hk => .inl hk), h⟩
      · simp [execOp, ha.op hx, ha.op hy, e1, hrun]
      · refine ⟨by simp [hs1], .inr ⟨g, cp, (cur.toList.set i (enc u)).toArray, by simp, Nat.zero_le _, set_heap hb', by simpa using g2, g3, by simp [hs1]; omega, ?_⟩⟩
        rw [hs1, List.length_set]
        show (cur.toList.set i (enc u)).take _ = _
        rw [List.take_set, g5, hcs, List.map_set]
theorem oSliceTo {α : Type} {kd : Kd α} {W : World} {e e' : TypeId} {A : Option Addr} {n cp m s : Nat} {xs : List α} (hx : E.op x = some (.slice A n cp)) (hy : E.op y = some (.int k (m : Int))) (hm : m ≤ n) (ht : elemT c.P t = some (e', s))
    (hp : Pick H (row kd W e (.slice A n cp) xs) H') (h : O M.toMd rest ((d, .slice A m cp) :: E) D (row kd W e (.slice A m cp) (xs.take m) :: H')) (hN : Nat.blt d c.N = true := by rfl) : O M.toMd (⟨some d, .slice t x none (some y) none, ty, pos, af, none⟩ :: rest) E D H :=
  oEff rfl hN fun a w ha hw => by
    obtain ⟨cs, ⟨hl, ho⟩, hr⟩ : (row kd W e (.slice A n cp) xs).q w := hw.get hp
    obtain ⟨h1, inf, h2, _⟩ := run_elemT ht
    have hmc : m ≤ cp := by
      rcases ho with ⟨e1, e2⟩ | ⟨g, cap, cur, e1, _, hb, g2, _⟩
      · injection e1 with _ e1 e2; omega
      · injection e1 with _ e1 e2; omega
    refine ⟨_, w, _, ?_, ?_, h⟩
    · cases A <;> simp [execOp, ha.op hx, ha.op hy, Instr.sliceAt, Instr.slice, run_underlying h1, Instr.sliceBounds, Instr.sliceBound, asIntOf, hmc, sizeOf, typeInfo, h2, Addr.add]
    · refine hw.upd' hp (Chg.refl _ _) ?_ (fun k hk => .inl (by cases A <;> exact hk))
      rcases ho with ⟨e1, e2⟩ | ⟨g, cap, cur, e1, g1, hb, g2, g3, g4, g5⟩
      · have hx0 : xs = [] := List.eq_nil_of_length_eq_zero e2
        injection e1 with e1 e3 e4
        subst e1 e3 e4 hx0
        obtain rfl : m = 0 := by omega
        exact ⟨[], World.ownsRow_nil _ _ _ _, rfl⟩
      · injection e1 with e1 e3 e4
        subst e1 e3 e4
        refine ⟨cs.take (m * kd.sz), ⟨?_, .inr ⟨g, cp, cur, ?_, g1, hb, ?_, g3, g4, ?_⟩⟩, hr.take m⟩
        · rw [List.length_take, List.length_take, hl, Nat.min_eq_left hm, Nat.min_eq_left (Nat.mul_le_mul_right _ hm)]
        · rw [List.length_take, Nat.min_eq_left hm]
        · rw [List.length_take, Nat.min_eq_left hm]; exact hmc
        · rw [List.length_take, Nat.min_eq_left hm, ← g5, List.take_take, Nat.min_eq_left (Nat.mul_le_mul_right _ hm)]
end
end Go.Proofs.YtogaiijhicfoaaaGreatK


/-
  A region that draws its order, once more: what is copied out of slots at any time; what only looks, in some order; then the others, one behind the other.
-/
namespace Go.Proofs.YtogaiijhicfoaaaGreatK
set_option linter.unusedVariables false
set_option linter.unusedSimpArgs false
open Go.RowKit
section
variable {P : Program} {ops : Array Oper} {md : Region.Mode} {w : World}
def sinkB' (md : Region.Mode) (ops : Array Oper) (l0 : Array Bool) (n : Nat) : Bool :=
  (List.range n).all fun i => l0.getD i true || (List.range (n + 1)).any fun j => decide (i < j) && Region.waitsFor md ops j i && !(l0.getD j false)
theorem tail_waits' {n : Nat} {l0 listed : Array Bool} (hl : ∀ i, listed.getD i true = false → l0.getD i true = false) (hs : sinkB' md ops l0 n = true) (hc : Region.chainB md ops n = true) (hn : n < ops.size) (inv : HeadInv md ops n listed) :
    ∀ (d i : Nat), n - i = d → i < n → listed.getD i true = false → ∀ t, n ≤ t → t ∉ Region.ready md ops listed := by
  intro d
  induction d using Nat.strongRecOn with
  | _ d ih =>
    intro i hd hi hun t ht hr
    obtain ⟨_, ot, hot, hall⟩ := mem_ready.1 hr
    have htlt : t < ops.size := (Array.getElem?_eq_some_iff.1 hot).1
    by_cases htn : t = n
    · subst htn
      have h1 := List.all_eq_true.1 hs i (List.mem_range.2 hi)
      rw [hl i hun, Bool.false_or] at h1
      obtain ⟨j, hj, hj2⟩ := List.any_eq_true.1 h1
      simp only [Bool.and_eq_true, decide_eq_true_eq] at hj2
      obtain ⟨oj, hoj, e, he, hb, hon⟩ := Region.waitsFor_spec hj2.1.2
      have hjle : j ≤ t := by have := List.mem_range.1 hj; omega
      by_cases hjt : j = t
      · subst hjt
        have : oj = ot := Option.some.inj (hoj.symm.trans hot)
        subst this
        have h2 := hall e he hb
        rw [hon, getD_both hun] at h2
        cases h2
      · cases hlj : listed.getD j false with
        | true =>
          have h2 := inv.closed j oj hoj hlj e he hb
          rw [hon, getD_both hun] at h2
          cases h2
        | false =>
          have hjs : j < listed.size := by rw [inv.size]; omega
          exact ih (t - j) (by omega) j rfl (by omega) (getD_in hjs hlj) t (Nat.le_refl _) hr
    · have h1 := List.all_eq_true.1 hc t (List.mem_range.2 htlt)
      simp only [Bool.or_eq_true, decide_eq_true_eq] at h1
      rcases h1 with h1 | h1
      · omega
      · obtain ⟨o', ho', e, he, hb, hon⟩ := Region.waitsFor_spec h1
        have : o' = ot := Option.some.inj (ho'.symm.trans hot)
        subst this
        have h2 := hall e he hb
        rw [hon, getD_both (inv.tail (t - 1) (by omega) (by omega))] at h2
        cases h2
theorem wpAnyL_first' {n i : Nat} {oi : Oper} {v : Value} {l0 : Array Bool} {L : Array Bool → Act → Prop} (hi : ops[i]? = some oi) (hsel : ∀ (j : Nat) (o : Oper) cs b, ops[j]? = some o → o.op ≠ .select cs b)
    (hs : sinkB' md ops l0 n = true) (hc : Region.chainB md ops n = true) (hn : n < ops.size) (hin : i < n)
    (hdone : ∀ listed a, L listed a → ∀ j ∈ Region.ready md ops listed, n ≤ j) :
    ∀ (f : Nat) (listed : Array Bool) (a : Act), (∀ i, listed.getD i true = false → l0.getD i true = false) → HeadInv md ops n listed →
      (∀ j oj, ops[j]? = some oj → j ≠ i → listed.getD j true = false → (∀ e ∈ oj.after, Region.binds md e = true → e.on ≠ i) → oi.apart ops oj = true) →
      i ∈ Region.ready md ops listed → YieldsAt P ops w oi v a →
      wpAnyL P md ops w n L f (listed.setIfInBounds i true) (a.put oi.dst v) → wpAnyL P md ops w n L (f + 1) listed a := by
  intro f
  induction f with
  | zero =>
    intro listed a hl inv _ hr hy H
    have hun := (mem_ready.1 hr).1
    refine ⟨fun h => (by rw [h] at hr; cases hr), fun j hj => ?_⟩
    have hjn : j < n := by
      rcases Nat.lt_or_ge j n with h | h
      · exact h
      · exact absurd hj (tail_waits' hl hs hc hn inv _ i rfl hin hun j h)
    refine ⟨hjn, ?_⟩
    by_cases hji : j = i
    · subst hji; exact hy.stOp hi H
    · have := hdone _ _ H j (ready_mono hj hji)
      omega
  | succ f ih =>
    intro listed a hl inv hfree hr hy H
    have hun := (mem_ready.1 hr).1
    refine ⟨fun h => (by rw [h] at hr; cases hr), fun j hj => ?_⟩
    have hjn : j < n := by
      rcases Nat.lt_or_ge j n with h | h
      · exact h
      · exact absurd hj (tail_waits' hl hs hc hn inv _ i rfl hin hun j h)
    refine ⟨hjn, ?_⟩
    by_cases hji : j = i
    · subst hji; exact hy.stOp hi H
    · have h1 := (H.2 j (ready_mono hj hji)).2
      obtain ⟨hjun, oj, hoj, hall⟩ := mem_ready.1 hj
      have hnot : ∀ e ∈ oj.after, Region.binds md e = true → e.on ≠ i := fun e he hb heq => by
        have h1 := hall e he hb
        rw [heq, getD_both hun] at h1
        cases h1
      have h2 := stOp_put hoj (hfree j oj hoj hji hjun hnot) (fun cs b => hsel i oi cs b hi) (fun cs b => hsel j oj cs b hoj) hy h1
      have hfree' : ∀ k ok, ops[k]? = some ok → k ≠ i → (listed.setIfInBounds j true).getD k true = false →
          (∀ e ∈ ok.after, Region.binds md e = true → e.on ≠ i) → oi.apart ops ok = true := fun k ok hk hki hun hno => by
        refine hfree k ok hk hki ?_ hno
        by_cases hjk : j = k
        · subst hjk; exact hjun
        · rw [getD_set_ne true hjk] at hun; exact hun
      have hl' : ∀ k, (listed.setIfInBounds j true).getD k true = false → l0.getD k true = false := fun k hk => by
        by_cases hjk : j = k
        · subst hjk; exact hl j hjun
        · rw [getD_set_ne true hjk] at hk; exact hl k hk
      refine stOp_mono (fun a' h3 => ih (listed.setIfInBounds j true) a' hl' (inv.set hj hjn) hfree' (ready_mono hr (Ne.symm hji)) h3.1 ?_) h2
      rw [Array.setIfInBounds_comm _ _ hji]
      exact h3.2
def lexG (md : Region.Mode) (ops : Array Oper) (n : Nat) : List Nat → Array Bool → Bool
  | [], listed => Region.seqB md ops (ops.size - n) n listed
  | k :: ks, listed => decide (k < n) && (Region.ready md ops listed).contains k && Region.free md ops listed k && lexG md ops n ks (listed.setIfInBounds k true)
theorem wpAnyL_lexG {n : Nat} {l0 : Array Bool} {Lq : Act → Prop} (hsel : Region.noSelect ops = true) (hs : sinkB' md ops l0 n = true) (hc : Region.chainB md ops n = true) (hn : n < ops.size) :
    ∀ (ks : List Nat) (l : List Oper) (listed : Array Bool) (a : Act), ks.mapM (fun k => ops[k]?) = some l → (∀ i, listed.getD i true = false → l0.getD i true = false) → HeadInv md ops n listed →
    lexG md ops n ks listed = true → wpStill P ops w Lq l a →
    wpAnyL P md ops w n (fun listed' a' => Region.seqB md ops (ops.size - n) n listed' = true ∧ Lq a') ks.length listed a
  | [], l, listed, a, hk, hl, inv, hB, h => by
    simp at hk
    subst hk
    exact ⟨hB, h⟩
  | k :: ks, l, listed, a, hk, hl, inv, hB, h => by
    rw [List.mapM_cons] at hk
    cases h0 : ops[k]? with
    | none => rw [h0] at hk; simp at hk
    | some o =>
      rw [h0] at hk
      cases hks : ks.mapM (fun k => ops[k]?) with
      | none => rw [hks] at hk; simp at hk
      | some l' =>
        rw [hks] at hk
        simp at hk
        subst hk
        simp only [lexG, Bool.and_eq_true, decide_eq_true_eq] at hB
        obtain ⟨⟨⟨hkn, hr⟩, hf⟩, hB'⟩ := hB
        have hr' : k ∈ Region.ready md ops listed := by simpa using hr
        have hst : stOp P ops w k (wpStill P ops w Lq l') a := by unfold stOp; simp only [h0]; exact h
        obtain ⟨v, hy, hK⟩ := yieldsAt_of_stOp h0 hst
        have hl' : ∀ i, (listed.setIfInBounds k true).getD i true = false → l0.getD i true = false := fun i hi => by
          by_cases hjk : k = i
          · subst hjk; exact hl k (mem_ready.1 hr').1
          · rw [getD_set_ne true hjk] at hi; exact hl i hi
        exact wpAnyL_first' h0 (Region.noSelect_spec hsel) hs hc hn hkn (fun listed' a' hL => seqB_ready hL.1) ks.length listed a hl inv (Region.free_spec h0 hf) hr' hy
          (wpAnyL_lexG hsel hs hc hn ks l' _ _ hks hl' (inv.set hr' hkn) hB' hK)
def preB (md : Region.Mode) (ops : Array Oper) (n : Nat) : List Nat → Array Bool → Option (Array Bool)
  | [], listed => some listed
  | k :: ks, listed => match ops[k]? with
    | some ⟨some _, .move _, _, _, _, none⟩ => bif decide (k < n) && (Region.ready md ops listed).contains k && Region.free md ops listed k then preB md ops n ks (listed.setIfInBounds k true) else none
    | _ => none
def preE (ops : Array Oper) : List Nat → Env → Option Env
  | [], E => some E
  | k :: ks, E => match ops[k]? with
    | some ⟨some d, .move x, _, _, _, none⟩ => match E.op x with
      | some v => preE ops ks ((d, v) :: E)
      | none => none
    | _ => none
theorem pre_take {n : Nat} {Q' : Exit → Act → World → Prop} (hsel : Region.noSelect ops = true) (hQ : ∀ c a w, ¬ Q' (.panic c) a w) {N : Nat} {D : List Deferred} (hN : ops.all (fun o => o.dst.all fun d => Nat.blt d N) = true) : ∀ (ks : List Nat) (listed l1 : Array Bool) (E E' : Env) (a : Act) (f : Nat), Ok N E D a → preB md ops n ks listed = some l1 → preE ops ks E = some E' → HeadInv md ops n listed →
    (∀ a', Ok N E' D a' → HeadInv md ops n l1 → wpAny P md ops Q' f l1 a' w) → wpAny P md ops Q' (ks.length + f) listed a w
  | [], listed, l1, E, E', a, f, ha, hb, he, inv, h => by
    simp only [preB, Option.some.injEq] at hb
    simp only [preE, Option.some.injEq] at he
    subst hb he
    rw [List.length_nil, Nat.zero_add]
    exact h a ha inv
  | k :: ks, listed, l1, E, E', a, f, ha, hb, he, inv, h => by
    simp only [preB] at hb
    simp only [preE] at he
    split at hb
    · rename_i d x ty pos af hk
      rw [hk] at he
      simp only [] at he
      split at he
      · rename_i v hv
        cases hcond : (decide (k < n) && (Region.ready md ops listed).contains k && Region.free md ops listed k) with
        | false => rw [hcond] at hb; cases hb
        | true =>
          rw [hcond] at hb
          simp only [cond_true] at hb
          simp only [Bool.and_eq_true, decide_eq_true_eq] at hcond
          obtain ⟨⟨hkn, hr⟩, hf⟩ := hcond
          have hr' : k ∈ Region.ready md ops listed := by simpa using hr
          have hd : Nat.blt d N = true := by
            have hm := Array.all_eq_true.1 hN k (Array.getElem?_eq_some_iff.1 hk).1
            rw [Array.getElem?_eq_getElem (Array.getElem?_eq_some_iff.1 hk).1] at hk
            rw [Option.some.inj hk] at hm
            simpa using hm
          rw [List.length_cons, show ks.length + 1 + f = (ks.length + f) + 1 by omega]
          refine wpAny_take (v := v) hk hsel hf hr (fun c a w h => (hQ c _ _ h).elim) (.inl ⟨rfl, fun w => by simp [execOp, ha.fit.op hv]⟩) ?_
          exact pre_take hsel hQ hN ks _ l1 _ E' _ f (ha.put hd) hb he (inv.set hr' hkn) h
      · cases he
    · cases hb
end
section
variable {c : Cx} {Q : Post} {E E' : Env} {D : List Deferred} {H : List Res}
def drawB (ops : Array Oper) (N : Nat) (ps ks : List Nat) (n : Nat) : Bool :=
  Region.noSelect ops && decide (n < ops.size) && ops.all (fun o => o.dst.all fun d => Nat.blt d N) && Nat.beq (ps.length + ks.length) n && Region.chainB .any ops n &&
    match preB .any ops n ps (Array.replicate ops.size false) with
    | some l1 => sinkB' .any ops l1 n && lexG .any ops n ks l1
    | none => false
theorem wDraw2 (hF : c.F = Fence.wide) (hm : c.P.follows .mixedOrders = true) {id : Nat} {l hd : List Oper} (ps ks : List Nat) (n : Nat) (hB : drawB l.toArray c.N ps ks n = true) (hE : preE l.toArray ps E = some E') (hk : ks.mapM (fun k => l[k]?) = some hd) {tl : List Oper} (htl : l.drop n = tl)
    (h : ∀ w0, O (Md.head c l.toArray w0 tl Q) hd E' D H) : W c (.region id l.toArray true) Q E D H := by
  subst htl
  intro a w ha hw
  rw [hF]
  refine wpIn_wide.2 ?_
  refine wp_region_any hm ?_
  simp only [drawB, Bool.and_eq_true, decide_eq_true_eq, Nat.beq_eq] at hB
  obtain ⟨⟨⟨⟨⟨hsel, hn⟩, hN⟩, hlen⟩, hc⟩, hB⟩ := hB
  split at hB
  · rename_i l1 hl1
    simp only [Bool.and_eq_true] at hB
    obtain ⟨hs, hlex⟩ := hB
    have inv0 : HeadInv .any l.toArray n (Array.replicate l.toArray.size false) :=
      ⟨by simp, fun j oj _ hl => (by rw [getD_replicate_false] at hl; cases hl), fun t _ ht => getD_in (by simpa using ht) (getD_replicate_false _ _)⟩
    have hn' : n < l.length := by simpa using hn
    have htot : l.toArray.size = ps.length + (ks.length + (l.toArray.size - n)) := by omega
    have hgo : wpAny c.P .any l.toArray (lift c Q) (ps.length + (ks.length + (l.toArray.size - n))) (Array.replicate l.toArray.size false) a w.drew := by
     refine pre_take (D := D) hsel (fun c a w ⟨E, D, H, h1, h2, h3, h4⟩ => h4) hN ps _ l1 E E' a (ks.length + (l.toArray.size - n)) ha hl1 hE inv0 (fun a' ha' inv1 => ?_)
     have hks : ks.mapM (fun k => l.toArray[k]?) = some hd := by simpa using hk
     have H1 := wpAnyL_lexG (md := .any) (w := w.drew) (Lq := fun a' => wpList c.P l.toArray (lift c Q) (l.drop n) a' w.drew) hsel hs hc hn ks hd l1 a' hks (fun i hi => hi) inv1 hlex (h w.drew a' w.drew ha' hw.drew rfl)
     refine wpAny_of_head (Q' := lift c Q) (g := l.toArray.size - n) (fun listed a' hL => ?_) _ _ _ H1
     have hdl : (l.drop n).length = l.toArray.size - n := by simp
     have := wpAny_of_seq (md := .any) (Q' := lift c Q) (l.drop n) n listed a' w.drew (fun j => by simp [List.getElem?_drop]) (by rw [hdl]; exact hL.1) hL.2
     rwa [hdl] at this
    rw [htot]
    rw [← htot] at hgo ⊢
    exact hgo
  · cases hB
end
end Go.Proofs.YtogaiijhicfoaaaGreatK


/-
  A region that draws its order, with a new variable that waits for nothing amid what only looks: it may be drawn at any time ahead of the store.
-/
namespace Go.Proofs.YtogaiijhicfoaaaGreatK
set_option linter.unusedVariables false
set_option linter.unusedSimpArgs false
open Go.RowKit
section
def Stab (P : Program) {α : Type} (s : Sem α) : Prop := ∀ (w : World) (o : Obj) (v : α) (w' : World), s.run P w = .ok v w' → w' = w ∧ s.run P (w.alloc o) = .ok v (w.alloc o)
variable {P : Program}
theorem Stab.pure {α : Type} (a : α) : Stab P (Pure.pure a : Sem α) := fun w o v w' h => by
  simp only [Sem.run_pure, Result.ok.injEq] at h ⊢
  exact ⟨h.2.symm, h.1, trivial⟩
theorem Stab.halt {α : Type} (x : Halt) : Stab P (Sem.halt x : Sem α) := fun w o v w' h => by
  simp [Sem.run] at h
theorem Stab.bind {α β : Type} {s : Sem α} {f : α → Sem β} (h : Stab P s) (hf : ∀ a, Stab P (f a)) : Stab P (s >>= f) := fun w o v w' hr => by
  rw [Sem.run_bind] at hr ⊢
  cases hs : s.run P w with
  | halt x w1 => rw [hs] at hr; simp [Result.andThen] at hr
  | ok a w1 =>
    rw [hs, Result.andThen_ok] at hr
    obtain ⟨rfl, h2⟩ := h w o a w1 hs
    rw [h2, Result.andThen_ok]
    exact hf a _ o v w' hr
theorem alloc_old (w : World) (o : Obj) {b : Nat} {x : Obj} (h : w.heap[b]? = some x) : (w.alloc o).heap[b]? = some x := by
  have hb : b < w.heap.size := (Array.getElem?_eq_some_iff.1 h).1
  show (w.heap.push o)[b]? = _
  rw [Array.getElem?_push_lt hb, ← h, Array.getElem?_eq_getElem hb]
theorem seen_none {p : Program} {w : World} {a : Addr} {u : TypeId} {k : Addr} {at_ : Bool} (h : w.heap[a.block]? = none) {r} : w.seen p a u k at_ ≠ .ok r := by
  unfold World.seen
  rw [h]
  intro hr
  simp only [bind, Except.bind, throw, throwThe, MonadExceptOf.throw, pure, Except.pure] at hr
  repeat' split at hr
  all_goals first | cases hr | skip
  all_goals (repeat' split at hr) 
  all_goals first | cases hr | skip
theorem viewLoad_alloc {p : Program} {w : World} {a : Addr} {u : TypeId} {k : Addr} {at_ : Bool} {r} (h : w.viewLoad p a u k at_ = .ok r) (o : Obj) : (w.alloc o).viewLoad p a u k at_ = .ok r := by
  cases hb : w.heap[a.block]? with
  | none =>
    unfold World.viewLoad at h
    cases hs : w.seen p a u k at_ with
    | ok x => exact (seen_none hb hs).elim
    | error e => rw [hs] at h; simp [bind, Except.bind] at h
  | some x =>
    rw [← h]
    unfold World.viewLoad World.seen
    rw [alloc_old w o hb, hb]
theorem Stab.load (a : Addr) : Stab P (Go.load a) := fun w o v w' h => by
  simp only [Go.load, Sem.run] at h ⊢
  cases hc : w.cell? a with
  | some u =>
    rw [hc] at h
    simp only [Result.ok.injEq] at h
    obtain ⟨rfl, rfl⟩ := h
    have : (w.alloc o).cell? a = some u := by
      unfold World.cell? at hc ⊢
      cases hb : w.heap[a.block]? with
      | none => rw [hb] at hc; cases hc
      | some x => rw [alloc_old w o hb]; rw [hb] at hc; exact hc
    rw [this]
    exact ⟨rfl, rfl⟩
  | none =>
    rw [hc] at h
    simp only [] at h
    split at h
    · rename_i v1 l1 hf
      simp only [Sem.run, Result.ok.injEq] at h
      obtain ⟨rfl, rfl⟩ := h
      unfold World.farLoad at hf
      cases hb : w.heap[a.block]? with
      | none => rw [hb] at hf; cases hf
      | some x =>
        have hc' : (w.alloc o).cell? a = none := by
          unfold World.cell? at hc ⊢
          rw [alloc_old w o hb]; rw [hb] at hc; exact hc
        rw [hc']
        refine ⟨rfl, ?_⟩
        have hf' : (w.alloc o).farLoad P a (Mode.plain == .atomic) = .ok (v1, l1) := by
          unfold World.farLoad
          rw [alloc_old w o hb]
          rw [hb] at hf
          cases x with
          | view at1 u =>
            simp only [] at hf ⊢
            cases hvl : w.viewLoad P at1 u a (Mode.plain == .atomic) with
            | ok r => rw [viewLoad_alloc hvl o]; rw [hvl] at hf; exact hf
            | error e => rw [hvl] at hf; cases hf
          | _ => simp at hf
        rw [hf']
    · cases h
theorem Stab.program : Stab P Go.program := fun w o v w' h => by
  simp only [Go.program, Sem.run, Result.ok.injEq] at h ⊢
  exact ⟨h.2.symm, h.1, trivial⟩
theorem Stab.stuck {α : Type} (s : String) : Stab P (Go.stuck s : Sem α) := Stab.halt _
theorem Stab.unsupported {α : Type} (s : Unsupported) : Stab P (Go.unsupported s : Sem α) := Stab.halt _
theorem Stab.never {α : Type} {s : Sem α} (h : ∀ w v w', s.run P w ≠ .ok v w') : Stab P s := fun w o v w' hr => (h w v w' hr).elim
theorem Stab.typeInfo (t : TypeId) : Stab P (Go.typeInfo t) := by
  unfold Go.typeInfo
  refine .bind .program fun p => ?_
  split
  · exact .pure _
  · exact .stuck _
theorem Stab.underlying (t : TypeId) : Stab P (Go.underlying t) := by
  unfold Go.underlying
  refine .bind .program fun p => ?_
  split
  · exact .pure _
  · exact .stuck _
theorem Stab.sizeOf (t : TypeId) : Stab P (Go.sizeOf t) := .bind (.typeInfo t) fun _ => .pure _
theorem Stab.isAgg (t : TypeId) : Stab P (Go.isAgg t) := by
  unfold Go.isAgg
  refine .bind (.underlying t) fun p => ?_
  split <;> exact .pure _
theorem Stab.loadCellsFrom (a : Addr) : ∀ (n i : Nat) (acc : Array Value), Stab P (Go.loadCellsFrom a i n acc)
  | 0, _, _ => .pure _
  | n + 1, i, acc => .bind (.load _) fun _ => Stab.loadCellsFrom a n _ _
theorem Stab.loadVar (t : TypeId) (a : Addr) : Stab P (Go.loadVar t a) := by
  unfold Go.loadVar
  refine .bind (.isAgg t) fun b => ?_
  split
  · exact .bind (.sizeOf t) fun n => .bind (.loadCellsFrom a _ _ _) fun _ => .pure _
  · exact .load _
theorem Stab.sureAddr (v : Value) : Stab P (Instr.sureAddr v) := by
  unfold Instr.sureAddr
  split
  · exact .pure _
  · exact .stuck _
theorem Stab.asIntOf (v : Value) : Stab P (Go.asIntOf v) := by
  unfold Go.asIntOf
  split
  · exact .pure _
  · exact .unsupported _
  · exact .stuck _
theorem runtimePanic_bounds {α : Type} (x y : Int) (s : Bool) (c : BoundsCode) (w : World) (v : α) (w' : World) : (Go.runtimePanic (.bounds x y s c) : Sem α).run P w ≠ .ok v w' := by
  simp [Go.runtimePanic, Go.program, Sem.run, Sem.run_bind, goPanic, Result.andThen]
theorem never_bind {α β : Type} {s : Sem α} {f : α → Sem β} (hf : ∀ a w v w', (f a).run P w ≠ .ok v w') (w : World) (v : β) (w' : World) : (s >>= f).run P w ≠ .ok v w' := by
  rw [Sem.run_bind]
  cases s.run P w with
  | halt x w1 => simp [Result.andThen]
  | ok a w1 => exact hf a w1 v w'
theorem Stab.boundsPanic {α : Type} (k : IntKind) (x y : Int) (c : BoundsCode) : Stab P (Go.boundsPanic k x y c : Sem α) := .never fun w v w' => by
  unfold Go.boundsPanic
  split
  · exact never_bind (fun a w v w' => runtimePanic_bounds _ _ _ _ _ _ _) w v w'
  · exact never_bind (fun a w v w' => runtimePanic_bounds _ _ _ _ _ _ _) w v w'
theorem Stab.indexAt (t : TypeId) (x i : Value) : Stab P (Instr.indexAt t x i) := by
  unfold Instr.indexAt
  repeat' (first | exact Stab.pure _ | exact Stab.stuck _ | exact Stab.unsupported _ | exact Stab.boundsPanic _ _ _ _ | exact Stab.sizeOf _ | exact Stab.underlying _ | exact Stab.sureAddr _ | exact Stab.asIntOf _ | exact Stab.loadVar _ _ | exact Stab.typeInfo _ | refine Stab.bind ?_ (fun _ => ?_) | split | dsimp only)
theorem Stab.loadAt (t : TypeId) (x : Value) : Stab P (Instr.loadAt t x) := by
  unfold Instr.loadAt
  repeat' (first | exact Stab.pure _ | exact Stab.stuck _ | exact Stab.unsupported _ | exact Stab.boundsPanic _ _ _ _ | exact Stab.sizeOf _ | exact Stab.underlying _ | exact Stab.sureAddr _ | exact Stab.asIntOf _ | exact Stab.loadVar _ _ | exact Stab.typeInfo _ | refine Stab.bind ?_ (fun _ => ?_) | split | dsimp only)
theorem Stab.extract (t : Value) (i : Nat) : Stab P (Instr.extract t i) := by
  unfold Instr.extract
  repeat' (first | exact Stab.pure _ | exact Stab.stuck _ | exact Stab.unsupported _ | exact Stab.boundsPanic _ _ _ _ | exact Stab.sizeOf _ | exact Stab.underlying _ | exact Stab.sureAddr _ | exact Stab.asIntOf _ | exact Stab.loadVar _ _ | exact Stab.typeInfo _ | refine Stab.bind ?_ (fun _ => ?_) | split | dsimp only)
def fieldB (P : Program) (s : TypeId) (j : Nat) : Bool := match P.underlying s with
  | some (.struct fs) => match fs[j]? with
    | some f => match P.info? f.type with
      | some i => !(Nat.beq i.size 0)
      | none => false
    | none => false
  | _ => false
theorem Stab.fieldAt {s : TypeId} {j : Nat} (h : fieldB P s j = true) (x : Value) : Stab P (Instr.fieldAt s x j) := by
  intro w o v w'
  unfold fieldB at h
  split at h
  · rename_i fs hu
    split at h
    · rename_i f hf
      split at h
      · rename_i i hi
        have hsz : i.size ≠ 0 := by intro h0; rw [h0] at h; simp at h
        cases x with
        | pointer a =>
          cases a with
          | none => simp [Instr.fieldAt, run_underlying hu, hf, Instr.sureAddr, stuck, Sem.run, Result.andThen, Sem.run_bind]
          | some a =>
            simp [Instr.fieldAt, run_underlying hu, hf, Instr.sureAddr, fieldPlace, Go.sizeOf, Go.typeInfo, hi, hsz]
            rintro rfl rfl; exact ⟨rfl, rfl⟩
        | _ => simp [Instr.fieldAt, run_underlying hu, hf, Instr.sureAddr, stuck, Sem.run, Result.andThen, Sem.run_bind]
      · cases h
    · cases h
  · cases h
end
section
variable {P : Program} {ops ops' : Array Oper} {md : Region.Mode} {w w1 : World} {n dn g : Nat} {on : Oper} {v : Value} {Q' : Exit → Act → World → Prop}
end
section
variable {c : Cx} {Q : Post} {E E' : Env} {D : List Deferred} {H : List Res}
end
end Go.Proofs.YtogaiijhicfoaaaGreatK


/-
  Rows that are only read from now on; calls that read what the walk owns.
-/
namespace Go.Proofs.YtogaiijhicfoaaaGreatK
set_option linter.unusedVariables false
set_option linter.unusedSimpArgs false
open Go.RowKit
section
variable {c : Cx} {N : Md c} {M : Me c} {d : Nat} {ty : TypeId} {pos : String} {af : Array Edge} {rest : List Oper} {E : Env} {D : List Deferred} {H H' H'' : List Res} {v : Value} {x y z : Operand} {k : IntKind} {t t' : TypeId}
variable {B : Base} {w w' : World} {Φ Φ' Φ'' Ψ : List Res} {P : Program} {α : Type} {kd : Kd α} {W : World} {S : Nat → Prop} {A : Option Addr} {xs : List α}

theorem frame' {ι : Type} {inv : ι → Prop} {val : ι → Value} {post : ι → List Res} {g : FuncId} {args : Array Value} (hS : St B Φ w) (hs : Split Φ Ψ Φ') (h : ∀ B', Grow B.e B'.e → (∀ r Φ'', Pick Φ' r Φ'' → r.q B'.e) → St B' Ψ w → CallsIn Fence.wide 0 P g args w (Ret B' inv val post)) :
    CallsIn Fence.wide 0 P g args w (Ret B inv val (fun i => post i ++ Φ')) := by
  have hS' := hS.perm hs.perm
  refine (h (B.call w Ψ) hS'.egrow (fun r Φ'' hp => ?_) hS'.lend).mono ?_
  · obtain ⟨h1, h2⟩ := (Sep.all _ _ _).1 hS'.sep
    refine r.st w _ (h1 r (List.mem_append_right _ hp.mem)).1 (fun k hk => ?_)
    rw [Base.e_heap, if_neg]
    · rfl
    · rintro ⟨s, hs, hsk⟩
      exact (List.pairwise_append.1 h2).2.2 s hs r hp.mem k hsk hk
  · rintro e w' ⟨i, hi, he, hw⟩
    exact ⟨i, hi, he, hS'.give hw⟩
def rdr (W : World) (S : Nat → Prop) (kd : Kd α) (A : Option Addr) (xs : List α) : Res where
  fp := S
  q w := (∀ k, S k → k < w.heap.size) ∧ ∀ w', Grow W w' → (∀ k, S k → w'.heap[k]? = w.heap[k]?) → kd.C w' A xs
  inb w h k hk := h.1 k hk
  st w w' h hk := ⟨fun k hs => by
    have h1 := h.1 k hs
    have h2 := hk k hs
    rw [Array.getElem?_eq_getElem h1] at h2
    exact (Array.getElem?_eq_some_iff.1 h2).1, fun w2 g h2 => h.2 w2 g (fun k hs => (h2 k hs).trans (hk k hs))⟩
theorem rdr_C (h : (rdr W S kd A xs).q w) (g : Grow W w) : kd.C w A xs := h.2 w g (fun _ _ => rfl)
@[irreducible] def elx (a : Addr) (i s k : Nat) : Addr := a.add (i * s + k)
theorem elx_add (a : Addr) (i s k j : Nat) : (elx a i s k).add j = elx a i s (k + j) := by unfold elx; rw [Addr.add_add, Nat.add_assoc]
theorem oFldD {g : Addr} {i s j l n m : Nat} (hx : E.op x = some (.pointer (some (elx g i s l)))) (hf : fplace c.P t j = some n) (hm : l + n = m) (h : O N rest ((d, .pointer (some (elx g i s m))) :: E) D H) (hN : Nat.blt d c.N = true := by rfl) : O N (⟨some d, .fieldAddr t x j, ty, pos, af, none⟩ :: rest) E D H :=
  oC _ rfl hN (fun u w ha hw => by simp [execOp, ha.op hx, run_fieldAt hf, elx_add, hm]) h
theorem oRoom {W0 : World} {e : TypeId} {n cp : Nat} (hp : Pick H (row kd W0 e (.slice A n cp) xs) H') (h : n = xs.length → n ≤ cp → O N rest E D H) : O N rest E D H := fun a w ha hw => by
  obtain ⟨cs, ⟨hl, ho⟩, hr⟩ : (row kd W0 e (.slice A n cp) xs).q w := hw.get hp
  rcases ho with ⟨e1, e2⟩ | ⟨b, cap, cur, e1, _, hh, h1, h2, h3, h4⟩
  · injection e1 with e1 e3 e4
    exact h (by omega) (by omega) a w ha hw
  · injection e1 with e1 e3 e4
    exact h (by omega) (by omega) a w ha hw
end
end Go.Proofs.YtogaiijhicfoaaaGreatK


/-
  What came in, opened by its kind: a reading of an argument's cells gives a value of the kind, and what is well-formed of it.
-/
namespace Go.Proofs.YtogaiijhicfoaaaGreatK
set_option linter.unusedVariables false
set_option linter.unusedSimpArgs false
open Go.RowKit Go.ChangeShapes Go.WideShapes
variable {P : Program}

structure Opens (P : Program) (t : TypeId) {α : Type} (d : Kd α) (V : α → Prop) : Prop where
  get : ∀ {H : Type} (enc : TypeId × Value → H) (w : World) (base : Nat) (held : Bool) (fuel : Nat) (cs : List Value) (x : DataW H × List MemPlace), DataW.trod enc P w base (fun _ => true) held fuel t cs = some x → ∃ a, d.K w a cs ∧ V a

theorem Opens.weak {t : TypeId} {α : Type} {d : Kd α} {V V' : α → Prop} (h : Opens P t d V) (hv : ∀ a, V a → V' a) : Opens P t d V' := ⟨fun enc w base held fuel cs x hx => by
  obtain ⟨a, hK, hV⟩ := h.get enc w base held fuel cs x hx
  exact ⟨a, hK, hv a hV⟩⟩
theorem opens_int {t : TypeId} {k : IntKind} (ht : P.underlying t = some (.int k)) : Opens P t (Kd.int k) (fun n => (Lit.int k n).wf = true) := by
  constructor
  intro H enc w base held fuel cs x h
  cases fuel with
  | zero => simp [DataW.trod] at h
  | succ n =>
    unfold DataW.trod at h
    rw [ht] at h
    split at h <;> simp_all
    rename_i k' n' _
    obtain ⟨⟨rfl, hw⟩, _⟩ := h
    exact ⟨n', rfl, hw⟩
theorem opens_i64 {t : TypeId} (ht : P.underlying t = some (.int .i64)) : Opens P t (Kd.int .i64) in64 := (opens_int ht).weak (fun n h => by
  simp only [Lit.wf, Bool.and_eq_true, decide_eq_true_eq] at h
  exact ⟨h.1, h.2⟩)
theorem opens_bool {t : TypeId} (ht : P.underlying t = some .bool) : Opens P t Kd.bool (fun _ => True) := by
  constructor
  intro H enc w base held fuel cs x h
  cases fuel with
  | zero => simp [DataW.trod] at h
  | succ n =>
    unfold DataW.trod at h
    rw [ht] at h
    split at h <;> simp_all
    rename_i b _
    cases b <;> simp [Kd.bool, Kd.scalar]
theorem opens_string {t : TypeId} (ht : P.underlying t = some .string) : Opens P t Kd.string (fun s => s.size ≤ maxLen) := by
  constructor
  intro H enc w base held fuel cs x h
  cases fuel with
  | zero => simp [DataW.trod] at h
  | succ n =>
    unfold DataW.trod at h
    rw [ht] at h
    split at h <;> simp_all
    exact ⟨_, rfl, h.1⟩
theorem list_of {α : Type} {Q : Nat → α → Prop} : ∀ (m : Nat), (∀ i, i < m → ∃ y, Q i y) → ∃ ys : List α, ys.length = m ∧ ∀ i y, ys[i]? = some y → Q i y
  | 0, _ => ⟨[], rfl, fun i y h => by simp at h⟩
  | m + 1, h => by
    obtain ⟨ys, hl, hy⟩ := list_of m (fun i hi => h i (by omega))
    obtain ⟨y, hq⟩ := h m (by omega)
    refine ⟨ys ++ [y], by simp [hl], fun i z hz => ?_⟩
    rcases Nat.lt_or_ge i ys.length with hi | hi
    · rw [List.getElem?_append_left hi] at hz; exact hy i z hz
    · rw [List.getElem?_append_right hi] at hz
      have : i = m := by
        have := (List.getElem?_eq_some_iff.1 hz).1
        simp at this; omega
      subst this
      rw [hl] at hz
      simp at hz
      subst hz
      exact hq
theorem opens_slice {t e : TypeId} {α : Type} {d : Kd α} {V : α → Prop} (ht : P.underlying t = some (.slice e)) (hc : P.cellsOf e = d.sz) (he : Opens P e d V) : Opens P t (Kd.slice d) (fun xs => xs.length ≤ maxLen ∧ ∀ x ∈ xs, V x) := by
  constructor
  intro H enc w base held fuel cs x h
  rcases Go.Deep.open_slice ht h with ⟨rfl, _⟩ | ⟨a, len, cap, m, n, D, Pl, rfl, hb, hl, hm, hmm, rfl, hx⟩
  · exact ⟨[], ⟨none, 0, rfl, Nat.le_refl _, Kd.C_nil _ _ _⟩, by simp, by simp⟩
  · simp only [if_true] at hmm
    subst hmm
    have each : ∀ i, i < m → ∃ y : α, (∃ c, c.length = d.sz ∧ d.K w y c ∧ ∀ j u, c[j]? = some u → w.cell? (a.add (i * d.sz + j)) = some u) ∧ V y := by
      intro i hi
      obtain ⟨cs', h1, h2⟩ := hx i hi
      obtain ⟨y, hK, hV⟩ := he.get enc w base held n cs' _ h2
      obtain ⟨_, h3, h4⟩ := World.cells?_some h1
      refine ⟨y, ⟨cs', d.K_len hK, hK, fun j u hu => ?_⟩, hV⟩
      have hj : j < P.cellsOf e := by rw [← h3]; exact (List.getElem?_eq_some_iff.1 hu).1
      have := h4 j hj
      rw [Go.Deep.add_add, hc, hu] at this
      exact this
    obtain ⟨ys, hlen, hy⟩ := list_of m each
    have hml : maxLen = 9223372036854775807 := rfl
    have htl : (ys.take len).length = len := by rw [List.length_take]; omega
    refine ⟨ys.take len, ⟨some a, m, by rw [htl], by omega, by omega, fun _ => ⟨a, rfl, fun j p hj => ?_⟩⟩, by omega, fun z hz => ?_⟩
    · have hj2 : ys[j]? = some p := by
        have hjl := (List.getElem?_eq_some_iff.1 hj).1
        rw [List.getElem?_take] at hj; split at hj
        · exact hj
        · cases hj
      obtain ⟨c, _, h1, h2⟩ := (hy j p hj2).1
      exact ⟨c, h1, h2⟩
    · obtain ⟨j, hj⟩ := List.getElem?_of_mem (List.mem_of_mem_take hz)
      exact (hy j z hj).2

structure OpensF (P : Program) (fs : List Field) (o tot : Nat) {α : Type} (d : Kd α) (V : α → Prop) : Prop where
  get : ∀ {H : Type} (enc : TypeId × Value → H) (w : World) (base : Nat) (held : Bool) (fuel : Nat) (cs : List Value), cs.length = tot →
    (∀ f ∈ fs, ∃ x, DataW.trod enc P w base (fun _ => true) held fuel f.type ((cs.drop f.offset).take (P.cellsOf f.type)) = some x) → ∃ a, d.K w a (cs.drop o) ∧ V a
theorem opensF_one {f : Field} {o tot : Nat} {α : Type} {d : Kd α} {V : α → Prop} (h : Opens P f.type d V) (ho : f.offset = o) (ht : o + P.cellsOf f.type = tot) : OpensF P [f] o tot d V := by
  constructor
  intro H enc w base held fuel cs hl hf
  obtain ⟨x, hx⟩ := hf f (by simp)
  rw [ho, List.take_of_length_le (by simp; omega)] at hx
  exact h.get enc w base held fuel _ x hx
theorem opensF_cons {f : Field} {fs : List Field} {o tot : Nat} {α β : Type} {d : Kd α} {V : α → Prop} {d' : Kd β} {V' : β → Prop} (h : Opens P f.type d V) (ho : f.offset = o) (hs : OpensF P fs (o + P.cellsOf f.type) tot d' V') :
    OpensF P (f :: fs) o tot (Kd.pair d d') (fun p => V p.1 ∧ V' p.2) := by
  constructor
  intro H enc w base held fuel cs hl hf
  obtain ⟨x, hx⟩ := hf f (by simp)
  obtain ⟨a, hK, hV⟩ := h.get enc w base held fuel _ x hx
  obtain ⟨b, hK', hV'⟩ := hs.get enc w base held fuel cs hl (fun g hg => hf g (List.mem_cons_of_mem _ hg))
  refine ⟨(a, b), ⟨_, _, ?_, hK, hK'⟩, hV, hV'⟩
  rw [ho, ← List.drop_drop, List.take_append_drop]
theorem opens_struct {t : TypeId} {fs : Array Field} {α β : Type} {d : Kd α} {V : α → Prop} {g : β → α} (b : α → β) (hb : ∀ a, g (b a) = a) (ht : P.underlying t = some (.struct fs)) (h : OpensF P fs.toList 0 (P.cellsOf t) d V) : Opens P t (Kd.iso d g) (fun x => V (g x)) := by
  constructor
  intro H enc w base held fuel cs x hx
  obtain ⟨xs, m, _, rfl, hl, hlen, hf⟩ := DataW.trod_struct ht hx
  obtain ⟨a, hK, hV⟩ := h.get enc w base held m cs hl (fun f hfm => by
    obtain ⟨i, hi⟩ := List.getElem?_of_mem hfm
    have h1 := hf i f (by simpa using hi)
    have hlt : i < xs.length := by
      have := (List.getElem?_eq_some_iff.1 hi).1
      rw [hlen]; simpa using this
    rw [List.getElem?_eq_getElem hlt] at h1
    exact ⟨_, h1⟩)
  exact ⟨b a, by show d.K w (g (b a)) cs; rw [hb]; exact hK, by show V (g (b a)); rw [hb]; exact hV⟩
theorem law_of {P : Program} {f : FuncId} {args : Array Value} {W : World} (h : CallsIn Fence.wide 0 P f args W (Ret (Base.at W) (fun _ : Unit => True) (fun _ => .bool true) (fun _ => []))) : Calls P f args W (fun e w' => e = .returned (.bool true) ∧ Below W.heap.size W w') :=
  Calls.mono (callsIn_wide.1 h) (by rintro e w' ⟨_, _, rfl, hS⟩; exact ⟨rfl, Base.at_below hS.ok⟩)
theorem C_at {α : Type} {kd : Kd α} {W : World} {A : Option Addr} {xs : List α} (h : kd.C W A xs) : kd.C (Base.at W).e A xs := by rw [Base.at_e]; exact h
end Go.Proofs.YtogaiijhicfoaaaGreatK
namespace Go.Proofs.YtogaiijhicfoaaaGreatK
open Go.RowKit
/-! ### steps, said short -/
theorem wC {P Q1 Q0 : Prop} (k1 : Q1) (k0 : Q0) (h : Q1 → Q0 → P := by intro a b; first | exact wCond rfl a b | exact wCondB rfl a b) : P := h k1 k0
theorem Lh {B : Base} {H H' : List Res} (h : Has H H' := by repeat' constructor) : Leads B H H' := Leads.has h
theorem cv {E E' : Env} (h : Cov E E' := by repeat (first | exact trivial | refine And.intro rfl ?_)) : Cov E E' := h
theorem fi1 {P : Program} {E : Env} {H : List Res} {t : Tmp} {v : Value} {K : List Value → Prop} (h : E.find t = some v) (k : K [v]) : ([] : List Deferred) = [] ∧ ∃ vs, ResL P E H [.tmp t] vs ∧ K vs := ⟨rfl, _, .cons (.tmp h) .nil, k⟩
end Go.Proofs.YtogaiijhicfoaaaGreatK
