/-
  Package scope: Find, bound, Bound.
-/
import Derived.Test.YtnidmlngkpkmlaaSc2
namespace Go.Proofs.Ytnidmlngkpkmlaa.PScope
open Go.RowKit Go.Shelf Go.Proofs.YtnidmlngkpkmlaaW.PrintWords Go.Proofs.YtnidmlngkpkmlaaSl
attribute [local go_sem] Oper.semAt_some

def firstOf (l : List S40) (s : ByteArray) : Option (Nat × Nat) := mget (firstsM (symsFrom 0 l)) s

set_option maxRecDepth 100000 in
set_option maxHeartbeats 1000000 in
theorem find_any {w0 w : World} {Φ : List Res} (hS : St w0.heap.size w0 Φ w) (A : Option Addr) (c : Nat) (l : List S40) (s : ByteArray) (hC : Kd.C k40 w0 A l.length l) (hl : Small l) :
    CallsIn Fence.wide 0 Try.prog 15 #[.slice A l.length c, .string s] w fun e w' => e = .returned (.tuple #[.int .i64 ((firstOf l s).getD (0, 0)).1, .int .i64 ((firstOf l s).getD (0, 0)).2, .bool (firstOf l s).isSome]) ∧ St w0.heap.size w0 Φ w' := by
  (refine callsIn_of_wp Try.func15 rfl trivial ?_ rfl; simp only [Try.ntmps15, List.size_toArray, List.length_cons, List.length_nil, Nat.reduceAdd, Nat.reduceSub, Array.replicate_succ, Array.replicate_zero, List.push_toArray, List.append_toArray, List.nil_append, List.cons_append])
  gi_wp2_with (first | (refine arm_get hS rfl _ _ rfl _ _ rfl rfl rfl _ _ (by repeat (first | exact Pick.here | apply Pick.there)) _ (by rfl) ?_) | (refine arm_getA hS rfl _ _ rfl _ rfl rfl rfl _ _ (by repeat (first | exact Pick.here | apply Pick.there)) (by rfl) ?_) | (refine arm_alloc hS rfl _ rfl _ _ rfl (by dsimp only [Value.cells]) ?_; clear hS; intro b6 w6 hS _) | (refine arm_putA hS rfl _ _ _ rfl _ _ rfl (by simp [Act.eval, Act.put]; rfl) (by simp [Value.oneCell']) (by rfl) _ _ (by repeat (first | exact Upd.here | apply Upd.there)) (by rfl) ?_; clear hS; intro w7 hS _) | (refine ⟨trivial, rfl, ?_⟩) | (gi_at_call 46; refine (firsts_any hS _ _ l hC hl).mono ?_; clear hS; rintro e w1 ⟨m, rfl, hS⟩) | (refine arm_lookup keyE_str hS rfl _ _ _ _ rfl _ _ rfl rfl (0, 0) rfl _ _ rfl rfl _ (by repeat (first | exact Pick.here | apply Pick.there)) ?_))
  have c0 := hS.cell (b := b6) .here 0 rfl
  have c1 := hS.cell (b := b6) .here 1 rfl
  gi_region
  gi_wp2
  go_ret3
  exact ⟨rfl, hS.drew.drop.drop⟩

def badAt (l : List S40) (i k : Int) : Bool := decide (i < 0) || decide ((l.length : Int) ≤ i) || decide (k < 0) || decide (((l.getD i.toNat z40).f0.length : Int) ≤ k)
def symAt (l : List S40) (i k : Int) : S42 := (l.getD i.toNat z40).f0.getD k.toNat z42
/-- To which symbol one is bound. -/
def boundS (l : List S40) (i k : Int) : Int × Int × Int :=
  if badAt l i k then (0, 0, 2) else
  if (symAt l i k).f4 ≠ -1 then (i, k, 0) else
  match firstOf l (symAt l i k).f0 with
  | none => (0, 0, 13)
  | some p => if (symAt l p.1 p.2).f2 ≠ (symAt l i k).f2 ∨ (symAt l p.1 p.2).f3 ≠ (symAt l i k).f3 then (0, 0, 14) else (p.1, p.2, 0)
theorem mget_mset (M : List (ByteArray × (Nat × Nat))) (k s : ByteArray) (v : Nat × Nat) (h : mget M k = none) : mget (mset M k v) s = if k = s then some v else mget M s := by
  induction M with
  | nil => by_cases h : k = s <;> simp [mset, mget, List.find?, h]
  | cons p M ih =>
    have hp : ¬ p.1 = k := by intro e; simp [mget, e] at h
    have hM : mget M k = none := by simpa [mget, hp] using h
    simp only [mset, if_neg hp]
    by_cases hs : p.1 = s
    · have : ¬ k = s := fun e => hp (hs.trans e.symm)
      simp [mget, hs, this]
    · have := ih hM
      simp only [mget, List.find?_cons, hs, decide_false] at this ⊢
      exact this
def isFirst (s : ByteArray) (y : Nat × Nat × S42) : Bool := isGlobal y.2.2 && decide (y.2.2.f0 = s)
theorem mget_firsts (s : ByteArray) : ∀ (L : List (Nat × Nat × S42)) (M : List (ByteArray × (Nat × Nat))),
    mget (L.foldl firstStep M) s = match mget M s with | some p => some p | none => (L.find? (isFirst s)).map (fun y => (y.1, y.2.1))
  | [], M => by simp; cases mget M s <;> rfl
  | y :: L, M => by
    rw [List.foldl_cons, mget_firsts s L]
    simp only [firstStep, List.find?_cons, isFirst]
    cases hg : isGlobal y.2.2
    · simp
    · cases hm : mget M y.2.2.f0 with
      | none =>
        simp only [Option.isSome_none, Bool.not_false, Bool.and_self, if_true, Bool.true_and, mget_mset M _ s _ hm]
        by_cases he : y.2.2.f0 = s
        · subst he; simp [hm]
        · simp [he]
      | some p =>
        simp only [Option.isSome_some, Bool.not_true, Bool.and_false, Bool.true_and]
        by_cases he : y.2.2.f0 = s
        · subst he; simp [hm]
        · simp [he]
theorem firstOf_eq (l : List S40) (s : ByteArray) : firstOf l s = ((symsFrom 0 l).find? (isFirst s)).map (fun y => (y.1, y.2.1)) := by
  unfold firstOf firstsM; rw [mget_firsts]; rfl
theorem mem_symsFrom {y : Nat × Nat × S42} : ∀ (i : Nat) (l : List S40), y ∈ symsFrom i l ↔ ∃ j, y.1 = i + j ∧ j < l.length ∧ y.2.1 < (l.getD j z40).f0.length ∧ (l.getD j z40).f0.getD y.2.1 z42 = y.2.2
  | i, [] => by simp [symsFrom]
  | i, o :: l => by
    obtain ⟨y1, y2, x⟩ := y
    rw [symsFrom, List.mem_append, mem_symsFrom (i + 1) l]
    constructor
    · rintro (h | ⟨j, h1, h2, h3, h4⟩)
      · obtain ⟨k, hk, he⟩ := List.mem_mapIdx.1 h
        injection he with e1 e2
        injection e2 with e2 e3
        subst e1; subst e2; subst e3
        exact ⟨0, rfl, by simp, by simpa using hk, by simp [hk]⟩
      · exact ⟨j + 1, by simp only at h1 ⊢; omega, by simp; omega, by simpa using h3, by simpa using h4⟩
    · rintro ⟨j, h1, h2, h3, h4⟩
      cases j with
      | zero =>
        left
        have h3' : y2 < o.f0.length := by simpa using h3
        refine List.mem_mapIdx.2 ⟨y2, h3', ?_⟩
        have : o.f0[y2] = x := by simpa [h3'] using h4
        simp only [Nat.add_zero] at h1
        simp [h1, this]
      | succ j => exact .inr ⟨j, by simp only at h1 ⊢; omega, by simpa using h2, by simpa using h3, by simpa using h4⟩
/-- A first global lies in the files. -/
theorem firstOf_in {l : List S40} {s : ByteArray} {p : Nat × Nat} (h : firstOf l s = some p) : p.1 < l.length ∧ p.2 < (l.getD p.1 z40).f0.length := by
  rw [firstOf_eq] at h
  obtain ⟨y, hy, rfl⟩ := Option.map_eq_some_iff.1 h
  obtain ⟨j, h1, h2, h3, _⟩ := (mem_symsFrom 0 l).1 (List.mem_of_find?_eq_some hy)
  have : y.1 = j := by omega
  subst this
  exact ⟨h2, h3⟩

end Go.Proofs.Ytnidmlngkpkmlaa.PScope
