/-
  Package scope: all, firsts.
-/
import Derived.Test.YtnidmlngkpkmlaaSlm
import Derived.Test.YtnidmlngkpkmlaaSc1
namespace Go.Proofs.Ytnidmlngkpkmlaa.PScope
open Go.RowKit Go.Shelf Go.Proofs.YtnidmlngkpkmlaaW.PrintWords Go.Proofs.YtnidmlngkpkmlaaSl
attribute [local go_sem] Oper.semAt_some

theorem all_any {n0 : Nat} {w0 w : World} {Φ : List Res} (hS : St n0 w0 Φ w) (A : Option Addr) (n c : Nat) :
    CallsIn Fence.wide 0 Try.prog 49 #[.slice A n c] w fun e w' => ∃ b, e = .returned (.func (.func 67) #[] #[.pointer (some ⟨b, 0, none⟩)]) ∧ St n0 w0 (blk b 22 [.slice A n c] :: Φ) w' := by
  (refine callsIn_of_wp Try.func49 rfl trivial ?_ rfl; simp only [Try.ntmps49, List.size_toArray, List.length_cons, List.length_nil, Nat.reduceAdd, Nat.reduceSub, Array.replicate_succ, Array.replicate_zero, List.push_toArray, List.append_toArray, List.nil_append, List.cons_append])
  gi_wp2_with ((refine arm_box hS rfl _ _ rfl _ _ (by simp [Act.eval, Act.put]; rfl) (by dsimp only [Value.cells]) ?_; clear hS; intro b w1 hS _))
  go_ret
  exact ⟨b, rfl, hS⟩

def isGlobal (x : S42) : Bool := !x.f1 && (x.f4 != -1)
abbrev placeV (p : Nat × Nat) : Value := .agg #[.int .i64 p.1, .int .i64 p.2]
def firstStep (M : List (ByteArray × (Nat × Nat))) (y : Nat × Nat × S42) : List (ByteArray × (Nat × Nat)) :=
  if isGlobal y.2.2 && !(mget M y.2.2.f0).isSome then mset M y.2.2.f0 (y.1, y.2.1) else M
def firstsM (l : List (Nat × Nat × S42)) : List (ByteArray × (Nat × Nat)) := l.foldl firstStep []

set_option maxRecDepth 100000 in
theorem global_any {n0 : Nat} {w0 w : World} {Φ : List Res} (hS : St n0 w0 Φ w) (x : S42) :
    CallsIn Fence.wide 0 Try.prog 50 #[.agg #[.string x.f0, .bool x.f1, .int .i64 x.f2, .int .i64 x.f3, .int .i64 x.f4]] w fun e w' => e = .returned (.bool (isGlobal x)) ∧ St n0 w0 Φ w' := by
  (refine callsIn_of_wp Try.func50 rfl trivial ?_ rfl; simp only [Try.ntmps50, List.size_toArray, List.length_cons, List.length_nil, Nat.reduceAdd, Nat.reduceSub, Array.replicate_succ, Array.replicate_zero, List.push_toArray, List.append_toArray, List.nil_append, List.cons_append])
  cases hx : x.f1
  all_goals
    gi_wp2_with (first | (refine arm_box hS rfl _ _ rfl _ _ (by simp [Act.eval, Act.put]; rfl) (by dsimp only [Value.cells]) ?_; clear hS; intro b w1 hS _) | (refine arm_get hS rfl _ _ rfl _ _ rfl rfl rfl _ _ (by repeat (first | exact Pick.here | apply Pick.there)) _ (by rfl) ?_) | (refine arm_getA hS rfl _ _ rfl _ rfl rfl rfl _ _ (by repeat (first | exact Pick.here | apply Pick.there)) (by rfl) ?_))
    go_ret
    exact ⟨by simp [isGlobal, hx], hS.drop⟩

set_option maxRecDepth 100000 in
set_option maxHeartbeats 1000000 in
theorem firsts_any {w0 w : World} {Φ : List Res} (hS : St w0.heap.size w0 Φ w) (A : Option Addr) (c : Nat) (l : List S40) (hC : Kd.C k40 w0 A l.length l) (hl : Small l) :
    CallsIn Fence.wide 0 Try.prog 46 #[.slice A l.length c] w fun e w' => ∃ m, e = .returned (.map (some m)) ∧ St w0.heap.size w0 (kmap Value.string placeV m (firstsM (symsFrom 0 l)) :: Φ) w' := by
  (refine callsIn_of_wp_marks Try.func46 rfl trivial ?_ rfl; simp only [Try.ntmps46, List.size_toArray, List.length_cons, List.length_nil, Nat.reduceAdd, Nat.reduceSub, Array.replicate_succ, Array.replicate_zero, List.push_toArray, List.append_toArray, List.nil_append, List.cons_append])
  gi_wp2_with (first | (refine arm_makeMap Value.string placeV hS rfl _ rfl ?_; clear hS; intro m w1 hS _) | (refine arm_alloc hS rfl _ rfl _ _ rfl (by dsimp only [Value.cells]) ?_; clear hS; intro bo w2 hS _) | (refine arm_put hS rfl _ _ _ rfl _ _ _ rfl (by simp [Act.eval, Act.put]; rfl) (by rfl) (by rfl) rfl _ _ _ (by rfl) (by repeat (first | exact Upd.here | apply Upd.there)) (by simp) (by simp only [List.set_cons_zero, List.set_cons_succ]; rfl) ?_; clear hS; intro w3 hS _) | (refine ⟨trivial, rfl, ?_⟩) | (gi_at_call 49; refine (all_any hS _ _ _).mono ?_; clear hS; rintro e w4 ⟨bl, rfl, hS⟩))
  refine wpIn_range (St.swap (Φ := [blk bl 22 [.slice A l.length c]]) hS) rfl (enters_of Try.func67 (by kernel_rfl) rfl) (all1 l A c bl w0 hC hl) (by simp [symArgs])
    (fun j Ψ => Ψ = blk bo 83 [.map (some m)] :: kmap Value.string placeV m (firstsM ((symsFrom 0 l).take j)) :: Φ) (fun _ _ _ => False) rfl ?round ?done ?stop
  case stop => rintro D j cc Ψ W _ h; exact h.elim
  case done =>
    clear hS
    rintro D Ψ W rfl hS
    rw [List.length_map, List.take_length] at hS
    gi_wp2_with (refine arm_get hS rfl _ _ rfl _ _ rfl rfl rfl _ _ (by repeat (first | exact Pick.here | apply Pick.there)) _ (by rfl) ?_)
    refine leaves_marks [D] W (Ψ := kmap Value.string placeV m (firstsM (symsFrom 0 l)) :: Φ) ((St.head (Φ := _ :: _ :: _ :: Φ) hS).sub (by repeat (first | exact Sub.nil | exact Sub.refl | refine Sub.cons (by repeat (first | exact Pick.here | apply Pick.there)) ?_ | apply Sub.skip))) ?_
    exact fun w' h' => ⟨_, results_tmp rfl _ _ _, m, rfl, h'⟩
  case round =>
    clear hS
    rintro lp D j hj Ψ Fr W rfl hS
    have hj' : j < (symsFrom 0 l).length := by simpa using hj
    have hfirst : firstsM ((symsFrom 0 l).take (j + 1)) = firstStep (firstsM ((symsFrom 0 l).take j)) (symsFrom 0 l)[j] := by
      rw [List.take_succ_eq_append_getElem hj', firstsM, List.foldl_append]; rfl
    have HF := Lib.hid hfirst
    clear hfirst
    rw [List.getElem_map]
    generalize (symsFrom 0 l)[j] = y at *
    obtain ⟨yi, yk, x⟩ := y
    cases hmg : mget (firstsM ((symsFrom 0 l).take j)) x.f0
    all_goals cases hgl : isGlobal x
    all_goals
     simp only [handed, symArgs, List.zip_cons_cons, List.zip_nil_right, List.foldl_cons, List.foldl_nil, List.setIfInBounds_toArray, List.set_cons_succ, List.set_cons_zero]
     gi_wp2_with (first | (refine arm_alloc hS rfl _ rfl _ _ rfl (by dsimp only [Value.cells]) ?_; clear hS; intro b4 w4 hS _) | (refine arm_putA hS rfl _ _ _ rfl _ _ rfl (by simp [Act.eval, Act.put]; rfl) (by simp [Value.oneCell']) (by rfl) _ _ (by repeat (first | exact Upd.here | apply Upd.there)) (by rfl) ?_; clear hS; intro w5 hS _))
     refine ⟨_ :: _ :: _ :: _ :: Φ, hS, ?_⟩
     clear hS
     intro Fr2 W2 rec Fr3 _ _ hS
     gi_wp2_with (first | (refine arm_get hS rfl _ _ rfl _ _ rfl rfl rfl _ _ (by repeat (first | exact Pick.here | apply Pick.there)) _ (by rfl) ?_) | (refine arm_getA hS rfl _ _ rfl _ rfl rfl rfl _ _ (by repeat (first | exact Pick.here | apply Pick.there)) (by rfl) ?_) | (refine arm_alloc hS rfl _ rfl _ _ rfl (by dsimp only [Value.cells]) ?_; clear hS; intro b6 w6 hS _) | (refine arm_putA hS rfl _ _ _ rfl _ _ rfl (by simp [Act.eval, Act.put]; rfl) (by simp [Value.oneCell']) (by rfl) _ _ (by repeat (first | exact Upd.here | apply Upd.there)) (by rfl) ?_; clear hS; intro w7 hS _) | (refine arm_put hS rfl _ _ _ rfl _ _ _ rfl (by simp [Act.eval, Act.put]; rfl) (by rfl) (by rfl) rfl _ _ _ (by rfl) (by repeat (first | exact Upd.here | apply Upd.there)) (by simp) (by simp only [List.set_cons_zero, List.set_cons_succ]; rfl) ?_; clear hS; intro w7 hS _) | (refine arm_lookup keyE_str hS rfl _ _ _ _ rfl _ _ rfl rfl (0, 0) rfl _ _ rfl rfl _ (by repeat (first | exact Pick.here | apply Pick.there)) ?_) | (refine arm_mapUpdate keyE_str hS rfl _ _ _ _ rfl _ _ rfl rfl _ _ (yi, yk) rfl rfl rfl _ (by repeat (first | exact Upd.here | apply Upd.there)) ?_; clear hS; intro w8 hS _) | (refine ⟨trivial, rfl, ?_⟩) | (gi_at_call 50; refine ((global_any hS x).inRound lp).mono ?_; clear hS; rintro e w9 ⟨rfl, hS⟩))
     refine ⟨_ :: _ :: Φ, ?_, hS.drop.drop.drop⟩
     dsimp only []
     rw [HF.out]
     simp [firstStep, hmg, hgl]
end Go.Proofs.Ytnidmlngkpkmlaa.PScope
