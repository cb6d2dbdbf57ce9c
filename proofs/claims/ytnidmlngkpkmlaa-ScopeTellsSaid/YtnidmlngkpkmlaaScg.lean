/-
  Package scope: the four exported functions' contracts, as the print names them.
-/
import Derived.Test.YtnidmlngkpkmlaaSc7
namespace Go.Proofs.Ytnidmlngkpkmlaa.PScope
open Go.RowKit Go.Shelf Go.Proofs.YtnidmlngkpkmlaaW.PrintWords Go.Proofs.YtnidmlngkpkmlaaSl

theorem Calls.ofSt {f : FuncId} {args : Array Value} {w : World} {R : Ending → Prop} (h : St w.heap.size w [] w → CallsIn Fence.wide 0 Try.prog f args w fun e w' => R e ∧ St w.heap.size w [] w') :
    Calls Try.prog f args w fun e w' => R e ∧ Below w.heap.size w w' :=
  (callsIn_wide.1 (h (St.start w))).mono fun _ _ h => ⟨h.1, h.2.below⟩

instance (l : List S40) : Decidable (Small l) := by unfold Small; infer_instance
def scope_Find.f (l0 : List S40) (a1 : ByteArray) : Option (Int × Int × Bool) := if Small l0 then some ((((firstOf l0 a1).getD (0, 0)).1 : Int), (((firstOf l0 a1).getD (0, 0)).2 : Int), (firstOf l0 a1).isSome) else none
theorem scope_Find.calls (A0 : Option Addr) (c0 : Nat) (l0 : List S40) (a1 : ByteArray) (r1 r2 : Int) (r3 : Bool) (w : World) (hr0 : Kd.C k40 w A0 l0.length l0) (hc0 : l0.length ≤ c0) (h : scope_Find.f l0 a1 = some (r1, r2, r3)) :
    Calls Try.prog 15 #[.slice A0 l0.length c0, .string a1] w fun e w' => e = .returned (.tuple #[.int .i64 r1, .int .i64 r2, .bool r3]) ∧ Below w.heap.size w w' := by
  unfold scope_Find.f at h
  split at h
  · rename_i hl
    simp only [Option.some.injEq, Prod.mk.injEq] at h
    obtain ⟨rfl, rfl, rfl⟩ := h
    exact Calls.ofSt fun hS => find_any hS A0 c0 l0 a1 hr0 hl
  · cases h
def scope_Bound.f (l0 : List S40) (a1 a2 : Int) : Option (Int × Int × Int) := if Small l0 then some (boundS l0 a1 a2) else none
theorem scope_Bound.calls (A0 : Option Addr) (c0 : Nat) (l0 : List S40) (a1 a2 : Int) (r1 r2 r3 : Int) (w : World) (hr0 : Kd.C k40 w A0 l0.length l0) (hc0 : l0.length ≤ c0) (h : scope_Bound.f l0 a1 a2 = some (r1, r2, r3)) :
    Calls Try.prog 17 #[.slice A0 l0.length c0, .int .i64 a1, .int .i64 a2] w fun e w' => e = .returned (.tuple #[.int .i64 r1, .int .i64 r2, .int .i64 r3]) ∧ Below w.heap.size w w' := by
  unfold scope_Bound.f at h
  split at h
  · rename_i hl
    have hb : boundS l0 a1 a2 = (r1, r2, r3) := by simpa using h
    refine Calls.ofSt fun hS => ?_
    have := Bound_any hS A0 c0 l0 a1 a2 hr0 hl
    rw [hb] at this
    exact this
  · cases h
def scope_Twice.f (l0 : List S40) : Option (Int × Int × Int × Bool) := if Small l0 then some (match twiceS l0 with | none => (0, 0, 0, false) | some p => (12, (p.1 : Int), (p.2 : Int), true)) else none
theorem scope_Twice.calls (A0 : Option Addr) (c0 : Nat) (l0 : List S40) (r1 r2 r3 : Int) (r4 : Bool) (w : World) (hr0 : Kd.C k40 w A0 l0.length l0) (hc0 : l0.length ≤ c0) (h : scope_Twice.f l0 = some (r1, r2, r3, r4)) :
    Calls Try.prog 19 #[.slice A0 l0.length c0] w fun e w' => e = .returned (.tuple #[.agg #[.int .i64 r1, .int .i64 r2, .int .i64 r3], .bool r4]) ∧ Below w.heap.size w w' := by
  unfold scope_Twice.f at h
  split at h
  · rename_i hl
    refine Calls.ofSt fun hS => ?_
    have := Twice_any hS A0 c0 l0 hr0 hl
    cases ht : twiceS l0 with
    | none => rw [ht] at h this; simp only [Option.some.injEq, Prod.mk.injEq] at h; obtain ⟨rfl, rfl, rfl, rfl⟩ := h; exact this
    | some p => rw [ht] at h this; simp only [Option.some.injEq, Prod.mk.injEq] at h; obtain ⟨rfl, rfl, rfl, rfl⟩ := h; exact this
  · cases h
def scope_Check.f (l0 : List S40) : Option (Int × Int × Int) := if Small l0 then some (checkS l0) else none
theorem scope_Check.calls (A0 : Option Addr) (c0 : Nat) (l0 : List S40) (r1 r2 r3 : Int) (w : World) (hr0 : Kd.C k40 w A0 l0.length l0) (hc0 : l0.length ≤ c0) (h : scope_Check.f l0 = some (r1, r2, r3)) :
    Calls Try.prog 21 #[.slice A0 l0.length c0] w fun e w' => e = .returned (.agg #[.int .i64 r1, .int .i64 r2, .int .i64 r3]) ∧ Below w.heap.size w w' := by
  unfold scope_Check.f at h
  split at h
  · rename_i hl
    have hb : checkS l0 = (r1, r2, r3) := by simpa using h
    refine Calls.ofSt fun hS => ?_
    have := Check_any hS A0 c0 l0 hr0 hl
    rw [hb] at this
    exact this
  · cases h
end Go.Proofs.Ytnidmlngkpkmlaa.PScope
