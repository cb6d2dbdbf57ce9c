/-
  sheerleglaw23.known.
-/
import Derived.Test.YtnidmlngkpkmlaaScg
import Derived.Test.YtnidmlngkpkmlaaSlb
namespace Go.Proofs.Ytnidmlngkpkmlaa.PScope
open Go.RowKit Go.Shelf Go.Proofs.YtnidmlngkpkmlaaW.PrintWords Go.Proofs.YtnidmlngkpkmlaaSl
attribute [local go_sem] Oper.semAt_some

def kF : S42 := ⟨⟨#[102]⟩, false, 1, 0, 0⟩
def kU : S42 := ⟨⟨#[102]⟩, false, 1, 0, -1⟩
def kG : S42 := ⟨⟨#[103]⟩, false, 2, 0, 0⟩
def kL1 : List S40 := [⟨[kU], [], []⟩, ⟨[kG, kF], [], []⟩]
def kL2 : List S40 := [⟨[kF], [], []⟩, ⟨[kF], [], []⟩]
theorem kFind : firstOf kL1 ⟨#[102]⟩ = some (1, 1) := by rw [firstOf_eq]; decide +kernel
theorem kBound : boundS kL1 0 0 = (1, 1, 0) := by unfold boundS; rw [show badAt kL1 0 0 = false by decide +kernel, show (symAt kL1 0 0).f0 = ⟨#[102]⟩ by rfl, kFind]; decide +kernel
theorem kTwice : twiceS kL2 = some (1, 0) := by decide +kernel
theorem kCheck : checkS kL1 = (0, 0, 0) := by decide +kernel
theorem kCheck0 : checkS [] = (19, -1, -1) := by decide +kernel
theorem kSmall1 : Small kL1 := by decide +kernel
theorem kSmall2 : Small kL2 := by decide +kernel
theorem kSmall0 : Small [] := by decide +kernel

def symV (x : S42) : List Value := [.string x.f0, .bool x.f1, .int .i64 x.f2, .int .i64 x.f3, .int .i64 x.f4]
def objV (b n : Nat) : List Value := [.slice (some ⟨b, 0, none⟩) n n, .slice none 0 0, .slice none 0 0]
theorem Cells.syms {w : World} : ∀ (xs : List S42), Cells k42 w xs (xs.flatMap symV)
  | [] => rfl
  | x :: xs => ⟨symV x, xs.flatMap symV, rfl, k42_mk w x, Cells.syms xs⟩
/-- Two files of symbols alone. -/
theorem two_read {w : World} {b1 b2 b t1 t2 t : Nat} (xs ys : List S42) (h1 : w.heap[b1]? = some (.cells (xs.flatMap symV).toArray t1 (0, 0))) (h2 : w.heap[b2]? = some (.cells (ys.flatMap symV).toArray t2 (0, 0))) (h : w.heap[b]? = some (.cells (objV b1 xs.length ++ objV b2 ys.length).toArray t (0, 0))) (hx : xs.length ≤ 100) (hy : ys.length ≤ 100) :
    Kd.C k40 w (some ⟨b, 0, none⟩) 2 [⟨xs, [], []⟩, ⟨ys, [], []⟩] :=
  C_blk h _ 2 rfl (by omega) ⟨_, _, rfl, k40_mk w ⟨xs, [], []⟩ (Nat.le_refl _) (C_blk h1 xs _ rfl (by show xs.length ≤ _; omega) (Cells.syms xs)) (Nat.le_refl _) (C_none _ w) (Nat.le_refl _) (C_none _ w),
    _, _, (List.append_nil _).symm, k40_mk w ⟨ys, [], []⟩ (Nat.le_refl _) (C_blk h2 ys _ rfl (by show ys.length ≤ _; omega) (Cells.syms ys)) (Nat.le_refl _) (C_none _ w) (Nat.le_refl _) (C_none _ w), rfl⟩
def sheerleglaw23_known.f : Option Bool := some true
set_option maxRecDepth 100000 in
set_option maxHeartbeats 2000000 in
theorem known_any {w : World} (hS : St w.heap.size w [] w) : CallsIn Fence.wide 0 Try.prog 14 #[] w fun e w' => e = .returned (.bool true) ∧ St w.heap.size w [] w' := by
  (refine callsIn_of_wp Try.func14 rfl trivial ?_ rfl; simp only [Try.ntmps14, List.size_toArray, List.length_cons, List.length_nil, Nat.reduceAdd, Nat.reduceSub, Array.replicate_succ, Array.replicate_zero, List.push_toArray, List.append_toArray, List.nil_append, List.cons_append])
  gi_wp2_with (first | (refine arm_get hS rfl _ _ rfl _ _ rfl rfl rfl _ _ (by repeat (first | exact Pick.here | apply Pick.there)) _ (by rfl) ?_) | (refine arm_getA hS rfl _ _ rfl _ rfl rfl rfl _ _ (by repeat (first | exact Pick.here | apply Pick.there)) (by rfl) ?_) | (refine arm_alloc hS rfl _ rfl _ _ rfl (by dsimp only [Value.cells]) ?_; clear hS; intro bf w1 hS _) | (refine arm_putA hS rfl _ _ _ rfl _ _ rfl (by simp [Act.eval, Act.put]; rfl) (by simp [Value.oneCell']) (by rfl) _ _ (by repeat (first | exact Upd.here | apply Upd.there)) (by rfl) ?_; clear hS; intro w2 hS _) | (refine arm_buildSlice hS rfl 36 1 #[(0, .tmp 12)] rfl _ rfl _ rfl _ rfl (by decide) (by decide) _ rfl (symV kU) (by kernel_rfl) ?_; clear hS; intro bU w3 hS _) | (refine arm_buildSlice hS rfl 36 2 #[(0, .tmp 15), (1, .tmp 16)] rfl _ rfl _ rfl _ rfl (by decide) (by decide) _ rfl (symV kG ++ symV kF) (by kernel_rfl) ?_; clear hS; intro bG w3 hS _) | (refine arm_buildSlice hS rfl 22 2 #[(0, .tmp 14), (1, .tmp 18)] rfl _ rfl _ rfl _ rfl (by decide) (by decide) _ rfl ([.slice (some ⟨bU, 0, none⟩) 1 1, .slice none 0 0, .slice none 0 0, .slice (some ⟨bG, 0, none⟩) 2 2, .slice none 0 0, .slice none 0 0]) (by kernel_rfl) ?_; clear hS; intro bL w3 hS _) | (refine arm_buildSlice hS rfl 36 1 #[(0, .tmp 33)] rfl _ rfl _ rfl _ rfl (by decide) (by decide) _ rfl (symV kF) (by kernel_rfl) ?_; clear hS; intro bA w3 hS _) | (refine arm_buildSlice hS rfl 36 1 #[(0, .tmp 36)] rfl _ rfl _ rfl _ rfl (by decide) (by decide) _ rfl (symV kF) (by kernel_rfl) ?_; clear hS; intro bB w3 hS _) | (refine arm_buildSlice hS rfl 22 2 #[(0, .tmp 35), (1, .tmp 38)] rfl _ rfl _ rfl _ rfl (by decide) (by decide) _ rfl ([.slice (some ⟨bA, 0, none⟩) 1 1, .slice none 0 0, .slice none 0 0, .slice (some ⟨bB, 0, none⟩) 1 1, .slice none 0 0, .slice none 0 0]) (by kernel_rfl) ?_; clear hS; intro bM w3 hS _) | (refine ⟨trivial, rfl, ?_⟩) | (refine arm_field rfl _ _ _ rfl _ rfl 27 0 rfl rfl rfl _ rfl (.int .i64 0) rfl ?_) | (gi_at_call 15; refine (hS.use (scope_Find.calls _ 2 kL1 _ 1 1 true _ (two_read (b1 := bU) (b2 := bG) (t1 := 42) (t2 := 42) (t := 40) [kU] [kG, kF] (hS.getb (by repeat (first | exact Pick.here | apply Pick.there))) (hS.getb (by repeat (first | exact Pick.here | apply Pick.there))) (hS.getb (by repeat (first | exact Pick.here | apply Pick.there))) (by decide) (by decide)) (by decide) (by rw [scope_Find.f, if_pos kSmall1, kFind]; rfl))).mono ?_; clear hS; rintro e w4 ⟨rfl, hS⟩) | (gi_at_call 17; refine (hS.use (scope_Bound.calls _ 2 kL1 _ _ 1 1 0 _ (two_read (b1 := bU) (b2 := bG) (t1 := 42) (t2 := 42) (t := 40) [kU] [kG, kF] (hS.getb (by repeat (first | exact Pick.here | apply Pick.there))) (hS.getb (by repeat (first | exact Pick.here | apply Pick.there))) (hS.getb (by repeat (first | exact Pick.here | apply Pick.there))) (by decide) (by decide)) (by decide) (by rw [scope_Bound.f, if_pos kSmall1, kBound]))).mono ?_; clear hS; rintro e w4 ⟨rfl, hS⟩) | (gi_at_call 19; refine (hS.use (scope_Twice.calls _ 2 kL2 12 1 0 true _ (two_read (b1 := bA) (b2 := bB) (t1 := 42) (t2 := 42) (t := 40) [kF] [kF] (hS.getb (by repeat (first | exact Pick.here | apply Pick.there))) (hS.getb (by repeat (first | exact Pick.here | apply Pick.there))) (hS.getb (by repeat (first | exact Pick.here | apply Pick.there))) (by decide) (by decide)) (by decide) (by rw [scope_Twice.f, if_pos kSmall2, kTwice]; rfl))).mono ?_; clear hS; rintro e w4 ⟨rfl, hS⟩) | (gi_at_call 21; first | (refine callsIn_args #[.slice none 0 0] (by rfl) ?_; refine (hS.use (scope_Check.calls none 0 [] 19 (-1) (-1) _ (C_none _ _) (by decide) (by rw [scope_Check.f, if_pos kSmall0, kCheck0]))).mono ?_; clear hS; rintro e w4 ⟨rfl, hS⟩) | (refine callsIn_args #[.slice (some ⟨bL, 0, none⟩) 2 2] (by rfl) ?_; refine (hS.use (scope_Check.calls _ 2 kL1 0 0 0 _ (two_read (b1 := bU) (b2 := bG) (t1 := 42) (t2 := 42) (t := 40) [kU] [kG, kF] (hS.getb (by repeat (first | exact Pick.here | apply Pick.there))) (hS.getb (by repeat (first | exact Pick.here | apply Pick.there))) (hS.getb (by repeat (first | exact Pick.here | apply Pick.there))) (by decide) (by decide)) (by decide) (by rw [scope_Check.f, if_pos kSmall1, kCheck]))).mono ?_; clear hS; rintro e w4 ⟨rfl, hS⟩)))
  go_ret
  exact ⟨rfl, hS.sub (by repeat (first | exact Sub.nil | exact Sub.refl | refine Sub.cons (by repeat (first | exact Pick.here | apply Pick.there)) ?_ | apply Sub.skip))⟩
theorem sheerleglaw23_known.calls (r : Bool) (w : World) (h : sheerleglaw23_known.f = some r) : Calls Try.prog 14 #[] w fun e w' => e = .returned (.bool r) ∧ Below w.heap.size w w' := by
  obtain rfl : true = r := Option.some.inj h
  exact Calls.ofSt fun hS => known_any hS
end Go.Proofs.Ytnidmlngkpkmlaa.PScope
