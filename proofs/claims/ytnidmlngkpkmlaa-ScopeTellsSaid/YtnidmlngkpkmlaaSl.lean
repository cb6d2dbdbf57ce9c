/-
  A small separation logic over the model's worlds: resources with footprints, a state of several resources, rules for one resource's change.
-/
import Derived.RangeFuncNested
import Derived.RangeFuncBound
import Derived.RangeFuncCalls
import Derived.RangeFuncLeaves
import Derived.Shelf.Abstract
import Derived.Shelf.RegionOpen
import Derived.WalkKit
import Derived.OwnWalkIn
import Derived.TacticsInMore
import Derived.LoopNIn
import Derived.LoopIn
import Derived.Maps.OwnIn
import Derived.Test.YtnidmlngkpkmlaaWWords
namespace Go.Proofs.YtnidmlngkpkmlaaSl
open Go.RowKit Go.Shelf Go.Proofs.YtnidmlngkpkmlaaW.PrintWords

/-- What has turned between two worlds lies in S, or is new. -/
structure Chg (w w' : World) (S : Nat → Prop) : Prop where
  os : w'.os = w.os
  tape : w'.tape = w.tape
  output : w'.output = w.output
  size : w.heap.size ≤ w'.heap.size
  block : ∀ k, k < w.heap.size → ¬ S k → w'.heap[k]? = w.heap[k]?
theorem Chg.refl (w : World) (S : Nat → Prop) : Chg w w S := ⟨rfl, rfl, rfl, Nat.le_refl _, fun _ _ _ => rfl⟩
theorem Chg.of_grown {w w' : World} {row : Option Nat} (h : w.grownBy w' row) : Chg w w' (fun k => some k = row) := ⟨h.os, h.tape, h.output, h.size, h.block⟩
theorem Chg.of_below {w w' : World} (h : Below w.heap.size w w') : Chg w w' (fun _ => False) := ⟨h.os, h.tape, h.output, h.size, fun k hk _ => h.block k hk⟩
theorem Chg.below {n : Nat} {w0 w w' : World} {S : Nat → Prop} (hb : Below n w0 w) (h : Chg w w' S) (hn : n ≤ w.heap.size) (hS : ∀ k, S k → n ≤ k) : Below n w0 w' :=
  hb.trans ⟨h.os, h.tape, h.output, h.size, fun k hk => h.block k (by omega) (fun hs => by have := hS k hs; omega)⟩
theorem Chg.mono {w w' : World} {S S' : Nat → Prop} (h : Chg w w' S) (hs : ∀ k, S k → S' k) : Chg w w' S' := ⟨h.os, h.tape, h.output, h.size, fun k hk hn => h.block k hk (fun h' => hn (hs k h'))⟩
theorem Chg.alloc (w : World) (o : Obj) (S : Nat → Prop) : Chg w (w.alloc o) S := ⟨rfl, rfl, rfl, by simp, fun k hk _ => Below.heap_alloc _ _ _ hk⟩
theorem Chg.setCell (w : World) (a : Addr) (v : Value) : Chg w (w.setCell a v) (fun k => k = a.block) := ⟨rfl, rfl, rfl, by simp [World.setCell], fun k _ hn => Below.heap_setCell _ _ _ _ hn⟩
theorem Chg.putObj (w : World) (b : Nat) (o : Obj) : Chg w (w.putObj b o) (fun k => k = b) := (Chg.of_grown (grownBy_putObj' w b o)).mono (fun k h => by cases h; rfl)
theorem Chg.drewN (w : World) (n : Nat) (S : Nat → Prop) : Chg w (w.drewN n) S := ⟨rfl, rfl, rfl, Nat.le_refl _, fun _ _ _ => rfl⟩

theorem Chg.drew (w : World) (S : Nat → Prop) : Chg w w.drew S := ⟨rfl, rfl, rfl, Nat.le_refl _, fun _ _ _ => rfl⟩

/-- A resource: blocks (its footprint), and what holds of the world as long as these blocks lie as they lay. -/
structure Res where
  fp : Nat → Prop
  q : World → Prop
  inb : ∀ w, q w → ∀ k, fp k → k < w.heap.size
  st : ∀ w w', q w → (∀ k, fp k → w'.heap[k]? = w.heap[k]?) → q w'

/-- Each resource holds; the footprints lie from n0 on, and apart. -/
def Sep (n0 : Nat) (w : World) : List Res → Prop
  | [] => True
  | r :: Φ => r.q w ∧ (∀ k, r.fp k → n0 ≤ k) ∧ (∀ s ∈ Φ, ∀ k, r.fp k → ¬ s.fp k) ∧ Sep n0 w Φ

/-- The state of a walk: below n0 the world is as w0 was; the resources lie apart from n0 on. -/
structure St (n0 : Nat) (w0 : World) (Φ : List Res) (w : World) : Prop where
  below : Below n0 w0 w
  le : n0 ≤ w.heap.size
  sep : Sep n0 w Φ

inductive Upd : List Res → Res → Res → List Res → Prop
  | here {r r' : Res} {Φ : List Res} : Upd (r :: Φ) r r' (r' :: Φ)
  | there {x r r' : Res} {Φ Φ' : List Res} (h : Upd Φ r r' Φ') : Upd (x :: Φ) r r' (x :: Φ')
inductive Pick : List Res → Res → List Res → Prop
  | here {r : Res} {Φ : List Res} : Pick (r :: Φ) r Φ
  | there {x r : Res} {Φ Φ' : List Res} (h : Pick Φ r Φ') : Pick (x :: Φ) r (x :: Φ')
inductive Sub : List Res → List Res → Prop
  | nil {Φ : List Res} : Sub [] Φ
  | refl {Φ : List Res} : Sub Φ Φ
  | cons {r : Res} {Ψ Φ Φ' : List Res} (h : Pick Φ r Φ') (k : Sub Ψ Φ') : Sub (r :: Ψ) Φ
  | skip {r : Res} {Ψ Φ : List Res} (k : Sub Ψ Φ) : Sub Ψ (r :: Φ)

theorem Upd.mem {Φ Φ' : List Res} {r r' : Res} (h : Upd Φ r r' Φ') : r ∈ Φ := by
  induction h with
  | here => exact List.mem_cons_self
  | there _ ih => exact List.mem_cons_of_mem _ ih
theorem Upd.from_ {Φ Φ' : List Res} {r r' : Res} (h : Upd Φ r r' Φ') : ∀ s ∈ Φ', s = r' ∨ s ∈ Φ := by
  induction h with
  | here => exact fun s hs => (List.mem_cons.1 hs).imp id (List.mem_cons_of_mem _)
  | there _ ih => exact fun s hs => (List.mem_cons.1 hs).elim (fun h => .inr (h ▸ List.mem_cons_self)) (fun h => (ih s h).imp id (List.mem_cons_of_mem _))
theorem Pick.mem {Φ Φ' : List Res} {r : Res} (h : Pick Φ r Φ') : r ∈ Φ := by
  induction h with
  | here => exact List.mem_cons_self
  | there _ ih => exact List.mem_cons_of_mem _ ih
theorem Pick.from_ {Φ Φ' : List Res} {r : Res} (h : Pick Φ r Φ') : ∀ s ∈ Φ', s ∈ Φ := by
  induction h with
  | here => intro s hs; exact List.mem_cons_of_mem _ hs
  | there _ ih => exact fun s hs => (List.mem_cons.1 hs).elim (fun h => h ▸ List.mem_cons_self) (fun h => List.mem_cons_of_mem _ (ih s h))

variable {n0 : Nat} {w0 w w' : World} {Φ Φ' Ψ : List Res} {r r' : Res}

theorem Sep.get (h : Sep n0 w Φ) (hm : r ∈ Φ) : r.q w ∧ ∀ k, r.fp k → n0 ≤ k := by
  induction Φ with
  | nil => cases hm
  | cons x Φ ih =>
    obtain ⟨h1, h2, _, h4⟩ := h
    rcases List.mem_cons.1 hm with rfl | hm
    · exact ⟨h1, h2⟩
    · exact ih h4 hm
/-- What turned none of these footprints leaves all. -/
theorem Sep.keep (h : Sep n0 w Φ) {S : Nat → Prop} (hc : Chg w w' S) (hd : ∀ s ∈ Φ, ∀ k, S k → ¬ s.fp k) : Sep n0 w' Φ := by
  induction Φ with
  | nil => trivial
  | cons x Φ ih =>
    obtain ⟨h1, h2, h3, h4⟩ := h
    exact ⟨x.st w w' h1 (fun k hk => hc.block k (x.inb w h1 k hk) (fun hs => hd x List.mem_cons_self k hs hk)), h2, h3, ih h4 (fun s hs => hd s (List.mem_cons_of_mem _ hs))⟩
theorem Sep.upd (h : Sep n0 w Φ) (hu : Upd Φ r r' Φ') (hn : n0 ≤ w.heap.size) (hc : Chg w w' r.fp) (hq : r'.q w') (hf : ∀ k, r'.fp k → r.fp k ∨ w.heap.size ≤ k) : Sep n0 w' Φ' := by
  induction hu with
  | @here r r' Φ =>
    obtain ⟨h1, h2, h3, h4⟩ := h
    refine ⟨hq, fun k hk => ?_, fun s hs k hk hsk => ?_, h4.keep hc h3⟩
    · rcases hf k hk with h | h
      · exact h2 k h
      · omega
    · rcases hf k hk with h | h
      · exact h3 s hs k h hsk
      · have := s.inb w (h4.get hs).1 k hsk; omega
  | @there x r r' Φ Φ' hu ih =>
    obtain ⟨h1, h2, h3, h4⟩ := h
    refine ⟨x.st w w' h1 (fun k hk => hc.block k (x.inb w h1 k hk) (h3 r hu.mem k hk)), h2, fun s hs k hk hsk => ?_, ih h4 hc hq hf⟩
    rcases hu.from_ s hs with rfl | hs'
    · rcases hf k hsk with h | h
      · exact h3 r hu.mem k hk h
      · have := x.inb w h1 k hk; omega
    · exact h3 s hs' k hk hsk
theorem Sep.pick (h : Sep n0 w Φ) (hp : Pick Φ r Φ') : Sep n0 w (r :: Φ') := by
  induction hp with
  | here => exact h
  | @there x r Φ Φ' hp ih =>
    obtain ⟨h1, h2, h3, h4⟩ := h
    obtain ⟨k1, k2, k3, k4⟩ := ih h4
    refine ⟨k1, k2, fun s hs k hk hsk => ?_, h1, h2, fun s hs => h3 s (hp.from_ s hs), k4⟩
    rcases List.mem_cons.1 hs with rfl | hs
    · exact h3 r hp.mem k hsk hk
    · exact k3 s hs k hk hsk
theorem Sub.from_ (h : Sub Ψ Φ) : ∀ s ∈ Ψ, s ∈ Φ := by
  induction h with
  | nil => intro s hs; cases hs
  | refl => intro s hs; exact hs
  | cons hp _ ih => exact fun s hs => (List.mem_cons.1 hs).elim (fun h => h ▸ hp.mem) (fun h => hp.from_ s (ih s h))
  | skip _ ih => exact fun s hs => List.mem_cons_of_mem _ (ih s hs)
theorem Sep.sub (h : Sep n0 w Φ) (hs : Sub Ψ Φ) : Sep n0 w Ψ := by
  induction hs with
  | nil => trivial
  | refl => exact h
  | @cons r Ψ Φ Φ' hp hk ih =>
    obtain ⟨k1, k2, k3, k4⟩ := h.pick hp
    exact ⟨k1, k2, fun s hs' => k3 s (hk.from_ s hs'), ih k4⟩
  | skip _ ih => exact ih h.2.2.2

theorem St.get (h : St n0 w0 Φ w) (hm : Pick Φ r Φ') : r.q w := (h.sep.get hm.mem).1
theorem St.sub (h : St n0 w0 Φ w) (hs : Sub Ψ Φ) : St n0 w0 Ψ w := ⟨h.below, h.le, h.sep.sub hs⟩
theorem St.upd (h : St n0 w0 Φ w) (hu : Upd Φ r r' Φ') (hc : Chg w w' r.fp) (hq : r'.q w') (hf : ∀ k, r'.fp k → r.fp k ∨ w.heap.size ≤ k) : St n0 w0 Φ' w' :=
  ⟨Chg.below h.below hc h.le (fun k hk => (h.sep.get hu.mem).2 k hk), Nat.le_trans h.le hc.size, h.sep.upd hu h.le hc hq hf⟩
theorem St.keep (h : St n0 w0 Φ w) (hc : Chg w w' (fun _ => False)) : St n0 w0 Φ w' :=
  ⟨Chg.below h.below hc h.le (fun k hk => hk.elim), Nat.le_trans h.le hc.size, h.sep.keep hc (fun _ _ _ hk => hk.elim)⟩
theorem St.drew (h : St n0 w0 Φ w) : St n0 w0 Φ w.drew := h.keep (Chg.drew _ _)
theorem St.call (h : St n0 w0 Φ w) (hb : Below w.heap.size w w') : St n0 w0 Φ w' := h.keep (Chg.of_below hb)
theorem St.add (h : St n0 w0 Φ w) (hc : Chg w w' (fun _ => False)) (hq : r.q w') (hf : ∀ k, r.fp k → w.heap.size ≤ k) : St n0 w0 (r :: Φ) w' := by
  have hk := h.keep hc
  refine ⟨hk.below, hk.le, hq, fun k hk' => Nat.le_trans h.le (hf k hk'), fun s hs k hrk hsk => ?_, hk.sep⟩
  have := s.inb w (h.sep.get hs).1 k hsk
  have := hf k hrk
  omega
theorem St.start (w : World) : St w.heap.size w [] w := ⟨Below.refl _ _, Nat.le_refl _, trivial⟩
/-- A resource in another form, over the same footprint or less. -/
theorem St.conv (h : St n0 w0 Φ w) (hu : Upd Φ r r' Φ') (hq : r.q w → r'.q w) (hf : ∀ k, r'.fp k → r.fp k) : St n0 w0 Φ' w :=
  h.upd hu (Chg.refl _ _) (hq (h.sep.get hu.mem).1) (fun k hk => .inl (hf k hk))

/-! ### The resources -/
/-- Block b holds the object o. -/
def ob (b : Nat) (o : Obj) : Res where
  fp k := k = b
  q w := w.heap[b]? = some o
  inb w h k hk := by subst hk; exact (Array.getElem?_eq_some_iff.1 h).1
  st w w' h hk := (hk b rfl).trans h
/-- A variable in memory: a block of the cells cs, of a variable of type t. -/
abbrev blk (b : Nat) (t : TypeId) (cs : List Value) : Res := ob b (.cells cs.toArray t (0, 0))
/-- A row of elements (type e, sz cells each) of the call's own: the slice v holds n elements, the cells xs. -/
def row (e : TypeId) (sz : Nat) (v : Value) (n : Nat) (xs : List Value) : Res where
  fp k := v.ownBlock = some k
  q w := w.ownsRow 0 e sz v n xs
  inb w h k hk := own_lt h k hk
  st w w' h hk := own_move h hk
/-- Rows of rows: the own slice v reads as xs. -/
def own {α : Type} (d : Kd α) (e : Nat) (f : Nat → Prop) (v : Value) (xs : List α) : Res where
  fp := f
  q w := d.R e w 0 f v xs ∧ ∀ k, f k → k < w.heap.size
  inb w h k hk := h.2 k hk
  st w w' h hk := ⟨Kd.R_move h.1 hk, fun k hfk => by
    have h1 := h.2 k hfk
    have h2 := hk k hfk
    rw [Array.getElem?_eq_getElem h1] at h2
    exact (Array.getElem?_eq_some_iff.1 h2).1⟩

theorem St.alloc (h : St n0 w0 Φ w) (o : Obj) : St n0 w0 (ob w.heap.size o :: Φ) (w.alloc o) :=
  h.add (Chg.alloc w o _) (World.alloc_heap_new w o) (fun k hk => by have : k = w.heap.size := hk; omega)
theorem St.put (h : St n0 w0 Φ w) {b : Nat} {o o' : Obj} (hu : Upd Φ (ob b o) (ob b o') Φ') : St n0 w0 Φ' (w.putObj b o') :=
  h.upd hu (Chg.putObj w b o') (World.putObj_heap_same (Array.getElem?_eq_some_iff.1 ((h.sep.get hu.mem).1 : w.heap[b]? = some o)).1) (fun k hk => .inl hk)
theorem St.cell {b : Nat} {t : TypeId} {cs : List Value} (h : St n0 w0 Φ w) (hm : Pick Φ (blk b t cs) Φ') (i : Nat) {v : Value} (hv : cs[i]? = some v) : w.cell? ⟨b, i, none⟩ = some v := by
  rw [cell_of_row w b i _ t (0, 0) (h.get hm)]; simpa using hv
theorem St.frozen {b : Nat} {t : TypeId} {cs : List Value} (h : St n0 w0 Φ w) (hm : Pick Φ (blk b t cs) Φ') (i : Nat) : w.frozen? ⟨b, i, none⟩ = false := blk_frozen (h.get hm) i
theorem St.set {b : Nat} {t : TypeId} {cs : List Value} (h : St n0 w0 Φ w) (i : Nat) (v : Value) (hu : Upd Φ (blk b t cs) (blk b t (cs.set i v)) Φ') : St n0 w0 Φ' (w.setCell ⟨b, i, none⟩ v) := by
  refine h.upd hu (Chg.setCell w ⟨b, i, none⟩ v) ?_ (fun k hk => .inl hk)
  have := blk_set (h.sep.get hu.mem).1 i v
  simpa [ob] using this

end Go.Proofs.YtnidmlngkpkmlaaSl
