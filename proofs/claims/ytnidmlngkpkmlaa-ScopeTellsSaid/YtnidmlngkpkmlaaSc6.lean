/-
  Package scope: Bound, Twice.
-/
import Derived.Test.YtnidmlngkpkmlaaSc5
namespace Go.Proofs.Ytnidmlngkpkmlaa.PScope
open Go.RowKit Go.Shelf Go.Proofs.YtnidmlngkpkmlaaW.PrintWords Go.Proofs.YtnidmlngkpkmlaaSl
attribute [local go_sem] Oper.semAt_some

set_option maxRecDepth 100000 in
set_option maxHeartbeats 1000000 in
theorem Bound_any {w0 w : World} {Φ : List Res} (hS : St w0.heap.size w0 Φ w) (A : Option Addr) (c : Nat) (l : List S40) (i k : Int) (hC : Kd.C k40 w0 A l.length l) (hl : Small l) :
    CallsIn Fence.wide 0 Try.prog 17 #[.slice A l.length c, .int .i64 i, .int .i64 k] w fun e w' => e = .returned (.tuple #[.int .i64 (boundS l i k).1, .int .i64 (boundS l i k).2.1, .int .i64 (boundS l i k).2.2]) ∧ St w0.heap.size w0 Φ w' := by
  (refine callsIn_of_wp Try.func17 rfl trivial ?_ rfl; simp only [Try.ntmps17, List.size_toArray, List.length_cons, List.length_nil, Nat.reduceAdd, Nat.reduceSub, Array.replicate_succ, Array.replicate_zero, List.push_toArray, List.append_toArray, List.nil_append, List.cons_append])
  gi_wp2_with (first | (refine arm_get hS rfl _ _ rfl _ _ rfl rfl rfl _ _ (by repeat (first | exact Pick.here | apply Pick.there)) _ (by rfl) ?_) | (refine arm_getA hS rfl _ _ rfl _ rfl rfl rfl _ _ (by repeat (first | exact Pick.here | apply Pick.there)) (by rfl) ?_) | (refine arm_alloc hS rfl _ rfl _ _ rfl (by dsimp only [Value.cells]) ?_; clear hS; intro b6 w6 hS _) | (refine arm_putA hS rfl _ _ _ rfl _ _ rfl (by simp [Act.eval, Act.put]; rfl) (by simp [Value.oneCell']) (by rfl) _ _ (by repeat (first | exact Upd.here | apply Upd.there)) (by rfl) ?_; clear hS; intro w7 hS _) | (refine ⟨trivial, rfl, ?_⟩) | (gi_at_call 46; refine (firsts_any hS _ _ l hC hl).mono ?_; clear hS; rintro e w1 ⟨m, rfl, hS⟩) | (gi_at_call 48; refine (bound_any _ _ l i k hS hC hl).mono ?_; clear hS; rintro e w1 ⟨rfl, hS⟩))
  have c0 := hS.cell (b := b6) .here 0 rfl
  have c1 := hS.cell (b := b6) .here 1 rfl
  gi_region
  gi_wp2
  go_ret3
  exact ⟨rfl, hS.drew.drop.drop⟩

/-- The first global of whose name there is one ahead. -/
def twiceP (l : List S40) (y : Nat × Nat × S42) : Bool := isGlobal y.2.2 && !decide (((firstOf l y.2.2.f0).getD (0, 0)) = (y.1, y.2.1))
def twiceS (l : List S40) : Option (Nat × Nat) := ((symsFrom 0 l).find? (twiceP l)).map (fun y => (y.1, y.2.1))

def rejV (p : Option (Nat × Nat)) : List Value := match p with
  | none => [.int .i64 0, .int .i64 0, .int .i64 0]
  | some p => [.int .i64 12, .int .i64 p.1, .int .i64 p.2]
def NoneTo {α : Type} (P : α → Bool) (L : List α) (j : Nat) : Prop := (L.take j).find? P = none
theorem NoneTo.zero {α : Type} (P : α → Bool) (L : List α) : NoneTo P L 0 := rfl
theorem NoneTo.all {α : Type} {P : α → Bool} {L : List α} (h : NoneTo P L L.length) : L.find? P = none := by rw [NoneTo, List.take_length] at h; exact h
theorem NoneTo.next {α : Type} {P : α → Bool} {L : List α} {j : Nat} (h : NoneTo P L j) (hj : j < L.length) (hp : P L[j] = false) : NoneTo P L (j + 1) := by
  unfold NoneTo at *
  rw [List.take_succ_eq_append_getElem hj, List.find?_append, h]; simp [hp]
theorem NoneTo.found {α : Type} {P : α → Bool} {L : List α} {j : Nat} (h : NoneTo P L j) (hj : j < L.length) (hp : P L[j] = true) : L.find? P = some L[j] := by
  have e : L.find? P = (L.take j ++ L.drop j).find? P := by rw [List.take_append_drop]
  rw [e, List.find?_append, h, List.drop_eq_getElem_cons hj, List.find?_cons, hp]; rfl

set_option maxRecDepth 100000 in
set_option maxHeartbeats 2000000 in
theorem Twice_any {w0 w : World} {Φ : List Res} (hS : St w0.heap.size w0 Φ w) (A : Option Addr) (c : Nat) (l : List S40) (hC : Kd.C k40 w0 A l.length l) (hl : Small l) :
    CallsIn Fence.wide 0 Try.prog 19 #[.slice A l.length c] w fun e w' =>
      e = .returned (.tuple #[.agg (rejV (twiceS l)).toArray, .bool (twiceS l).isSome]) ∧ St w0.heap.size w0 Φ w' := by
  (refine callsIn_of_wp_marks Try.func19 rfl trivial ?_ rfl; simp only [Try.ntmps19, List.size_toArray, List.length_cons, List.length_nil, Nat.reduceAdd, Nat.reduceSub, Array.replicate_succ, Array.replicate_zero, List.push_toArray, List.append_toArray, List.nil_append, List.cons_append])
  gi_wp2_with (first | (refine arm_get hS rfl _ _ rfl _ _ rfl rfl rfl _ _ (by repeat (first | exact Pick.here | apply Pick.there)) _ (by rfl) ?_) | (refine arm_getA hS rfl _ _ rfl _ rfl rfl rfl _ _ (by repeat (first | exact Pick.here | apply Pick.there)) (by rfl) ?_) | (refine arm_alloc hS rfl 31 rfl _ _ rfl (by dsimp only [Value.cells]) ?_; clear hS; intro bR w6 hS _) | (refine arm_alloc hS rfl 4 rfl _ _ rfl (by dsimp only [Value.cells]) ?_; clear hS; intro bB w6 hS _) | (refine arm_alloc hS rfl _ rfl _ _ rfl (by dsimp only [Value.cells]) ?_; clear hS; intro b6 w6 hS _) | (refine arm_put hS rfl _ _ _ rfl _ _ _ rfl (by simp [Act.eval, Act.put]; rfl) (by rfl) (by rfl) rfl _ _ _ (by rfl) (by repeat (first | exact Upd.here | apply Upd.there)) (by simp) (by simp only [List.set_cons_zero, List.set_cons_succ]; rfl) ?_; clear hS; intro w7 hS _) | (refine ⟨trivial, rfl, ?_⟩) | (gi_at_call 46; refine (firsts_any hS _ _ l hC hl).mono ?_; clear hS; rintro e w1 ⟨m, rfl, hS⟩) | (gi_at_call 49; refine (all_any hS _ _ _).mono ?_; clear hS; rintro e w4 ⟨bl, rfl, hS⟩))
  refine wpIn_range (St.swap (Φ := [blk bl 22 [.slice A l.length c]]) hS) rfl (enters_of Try.func67 (by kernel_rfl) rfl) (all1 l A c bl w0 hC hl) (by simp [symArgs])
    (fun j Ψ => NoneTo (twiceP l) (symsFrom 0 l) j ∧ Ψ = blk b6 83 [.map (some m)] :: kmap Value.string placeV m (firstsM (symsFrom 0 l)) :: blk bB 4 [.bool false] :: blk bR 31 (rejV none) :: Φ)
    (fun _ cc Ψ => ∃ y1 y2, twiceS l = some (y1, y2) ∧ cc = .ret ∧ Ψ = blk b6 83 [.map (some m)] :: kmap Value.string placeV m (firstsM (symsFrom 0 l)) :: blk bB 4 [.bool true] :: blk bR 31 (rejV (some (y1, y2))) :: Φ) ⟨.zero _ _, rfl⟩ ?round ?done ?stop
  case stop =>
    clear hS
    rintro D j cc Ψ W _ ⟨y1, y2, hy, rfl, rfl⟩ hS
    gi_wp2_with (refine arm_get hS rfl _ _ rfl _ _ rfl rfl rfl _ _ (by repeat (first | exact Pick.here | apply Pick.there)) _ (by rfl) ?_)
    refine leaves_marks [D] W (Ψ := blk bB 4 [.bool true] :: blk bR 31 (rejV (some (y1, y2))) :: Φ) ((St.head (Φ := _ :: _ :: _ :: _ :: _ :: Φ) hS).sub (by repeat (first | exact Sub.nil | exact Sub.refl | refine Sub.cons (by repeat (first | exact Pick.here | apply Pick.there)) ?_ | apply Sub.skip))) ?_
    clear hS
    exact fun w' hS => ⟨_, results_2 rfl (res_cellA hS _ _ _ _ rfl rfl rfl _ _ (by repeat (first | exact Pick.here | apply Pick.there)) (by rfl)) (res_cell hS _ _ _ _ rfl rfl rfl _ _ (by repeat (first | exact Pick.here | apply Pick.there))), by rw [hy]; rfl, hS.drop.drop⟩
  case done =>
    clear hS
    rintro D Ψ W ⟨hn, rfl⟩ hS
    rw [List.length_map] at hn
    have hy : twiceS l = none := by rw [twiceS, hn.all]; rfl
    clear hn
    gi_wp2_with (first | (refine arm_get hS rfl _ _ rfl _ _ rfl rfl rfl _ _ (by repeat (first | exact Pick.here | apply Pick.there)) _ (by rfl) ?_) | (refine arm_put hS rfl _ _ _ rfl _ _ _ rfl (by simp [Act.eval, Act.put]; rfl) (by rfl) (by rfl) rfl _ _ _ (by rfl) (by repeat (first | exact Upd.here | apply Upd.there)) (by simp) (by simp only [List.set_cons_zero, List.set_cons_succ]; rfl) ?_; clear hS; intro w7 hS _) | (refine arm_putA hS rfl _ _ _ rfl _ _ rfl (by simp [Act.eval, Act.put]; rfl) (by simp [Value.oneCell']) (by rfl) _ _ (by repeat (first | exact Upd.here | apply Upd.there)) (by rfl) ?_; clear hS; intro w7 hS _))
    refine leaves_marks [D] w7 (Ψ := blk bB 4 [.bool false] :: blk bR 31 (rejV none) :: Φ) ((St.head (Φ := _ :: _ :: _ :: _ :: _ :: Φ) hS).sub (by repeat (first | exact Sub.nil | exact Sub.refl | refine Sub.cons (by repeat (first | exact Pick.here | apply Pick.there)) ?_ | apply Sub.skip))) ?_
    clear hS
    exact fun w' hS => ⟨_, results_2 rfl (res_cellA hS _ _ _ _ rfl rfl rfl _ _ (by repeat (first | exact Pick.here | apply Pick.there)) (by rfl)) (res_cell hS _ _ _ _ rfl rfl rfl _ _ (by repeat (first | exact Pick.here | apply Pick.there))), rfl, hS.drop.drop⟩
  case round =>
    clear hS
    rintro lp D j hj Ψ Fr W ⟨hn, rfl⟩ hS
    have hj' : j < (symsFrom 0 l).length := by simpa using hj
    have HT := hn.next hj'
    have HF := hn.found hj'
    clear hn
    rw [List.getElem_map]
    generalize (symsFrom 0 l)[j] = y at *
    obtain ⟨yi, yk, x⟩ := y
    cases hgl : isGlobal x
    · have ht : twiceP l (yi, yk, x) = false := by simp [twiceP, hgl]
      have HT := Lib.hid (HT ht)
      clear HF ht
      simp only [handed, symArgs, List.zip_cons_cons, List.zip_nil_right, List.foldl_cons, List.foldl_nil, List.setIfInBounds_toArray, List.set_cons_succ, List.set_cons_zero]
      gi_wp2_with (first | (refine arm_alloc hS rfl _ rfl _ _ rfl (by dsimp only [Value.cells]) ?_; clear hS; intro b4 w4 hS _) | (refine arm_putA hS rfl _ _ _ rfl _ _ rfl (by simp [Act.eval, Act.put]; rfl) (by simp [Value.oneCell']) (by rfl) _ _ (by repeat (first | exact Upd.here | apply Upd.there)) (by rfl) ?_; clear hS; intro w5 hS _))
      refine ⟨_ :: _ :: _ :: _ :: _ :: _ :: Φ, hS, ?_⟩
      clear hS
      intro Fr2 W2 rec Fr3 _ _ hS
      gi_wp2_with (first | (refine arm_get hS rfl _ _ rfl _ _ rfl rfl rfl _ _ (by repeat (first | exact Pick.here | apply Pick.there)) _ (by rfl) ?_) | (refine arm_getA hS rfl _ _ rfl _ rfl rfl rfl _ _ (by repeat (first | exact Pick.here | apply Pick.there)) (by rfl) ?_) | (refine arm_alloc hS rfl _ rfl _ _ rfl (by dsimp only [Value.cells]) ?_; clear hS; intro b6 w6 hS _) | (refine ⟨trivial, rfl, ?_⟩) | (gi_at_call 50; refine ((global_any hS x).inRound lp).mono ?_; clear hS; rintro e w9 ⟨rfl, hS⟩))
      exact ⟨_, ⟨HT.out, rfl⟩, hS.drop.drop⟩
    · obtain ⟨⟨q1, q2⟩, hq⟩ : ∃ q, (firstOf l x.f0).getD (0, 0) = q := ⟨_, rfl⟩
      have hr : placeV ((mget (firstsM (symsFrom 0 l)) x.f0).getD (0, 0)) = .agg #[.int .i64 q1, .int .i64 q2] := by
        rw [show mget (firstsM (symsFrom 0 l)) x.f0 = firstOf l x.f0 from rfl, hq]
      by_cases he : (q1, q2) = (yi, yk)
      · have ht : twiceP l (yi, yk, x) = false := by simp [twiceP, hq, he]
        injection he with e1 e2
        subst e1; subst e2
        have HT := Lib.hid (HT ht)
        clear HF ht hq
        simp only [handed, symArgs, List.zip_cons_cons, List.zip_nil_right, List.foldl_cons, List.foldl_nil, List.setIfInBounds_toArray, List.set_cons_succ, List.set_cons_zero]
        gi_wp2_with (first | (refine arm_alloc hS rfl _ rfl _ _ rfl (by dsimp only [Value.cells]) ?_; clear hS; intro b4 w4 hS _) | (refine arm_putA hS rfl _ _ _ rfl _ _ rfl (by simp [Act.eval, Act.put]; rfl) (by simp [Value.oneCell']) (by rfl) _ _ (by repeat (first | exact Upd.here | apply Upd.there)) (by rfl) ?_; clear hS; intro w5 hS _))
        refine ⟨_ :: _ :: _ :: _ :: _ :: _ :: Φ, hS, ?_⟩
        clear hS
        intro Fr2 W2 rec Fr3 _ _ hS
        gi_wp2_with (first | (refine arm_get hS rfl _ _ rfl _ _ rfl rfl rfl _ _ (by repeat (first | exact Pick.here | apply Pick.there)) _ (by rfl) ?_) | (refine arm_getA hS rfl _ _ rfl _ rfl rfl rfl _ _ (by repeat (first | exact Pick.here | apply Pick.there)) (by rfl) ?_) | (refine arm_alloc hS rfl _ rfl _ _ rfl (by dsimp only [Value.cells]) ?_; clear hS; intro b6 w6 hS _) | (refine ⟨trivial, rfl, ?_⟩) | (gi_at_call 50; refine ((global_any hS x).inRound lp).mono ?_; clear hS; rintro e w9 ⟨rfl, hS⟩) | (refine arm_lookupR keyE_str (.agg #[.int .i64 q1, .int .i64 q2]) hS rfl _ _ _ _ rfl _ _ rfl rfl (0, 0) rfl _ _ rfl rfl _ (by repeat (first | exact Pick.here | apply Pick.there)) (by exact hr) ?_))
        exact ⟨_, ⟨HT.out, rfl⟩, hS.drop.drop⟩
      · have ht : twiceP l (yi, yk, x) = true := by simp [twiceP, hq, he, hgl]
        have hres : twiceS l = some (yi, yk) := by rw [twiceS, HF ht]; rfl
        have hne := Lib.hid (show ¬ ((q1 : Int) = yi ∧ (q2 : Int) = yk) by simp at he ⊢; omega)
        clear HF HT ht hq he
        simp only [handed, symArgs, List.zip_cons_cons, List.zip_nil_right, List.foldl_cons, List.foldl_nil, List.setIfInBounds_toArray, List.set_cons_succ, List.set_cons_zero]
        gi_wp2_with (first | (refine arm_alloc hS rfl _ rfl _ _ rfl (by dsimp only [Value.cells]) ?_; clear hS; intro b4 w4 hS _) | (refine arm_putA hS rfl _ _ _ rfl _ _ rfl (by simp [Act.eval, Act.put]; rfl) (by simp [Value.oneCell']) (by rfl) _ _ (by repeat (first | exact Upd.here | apply Upd.there)) (by rfl) ?_; clear hS; intro w5 hS _))
        refine ⟨_ :: _ :: _ :: _ :: _ :: _ :: Φ, hS, ?_⟩
        clear hS
        intro Fr2 W2 rec Fr3 _ _ hS
        gi_wp2_with (first | (refine arm_get hS rfl _ _ rfl _ _ rfl rfl rfl _ _ (by repeat (first | exact Pick.here | apply Pick.there)) _ (by rfl) ?_) | (refine arm_getA hS rfl _ _ rfl _ rfl rfl rfl _ _ (by repeat (first | exact Pick.here | apply Pick.there)) (by rfl) ?_) | (refine arm_alloc hS rfl _ rfl _ _ rfl (by dsimp only [Value.cells]) ?_; clear hS; intro b6 w6 hS _) | (refine arm_put hS rfl _ _ _ rfl _ _ _ rfl (by simp [Act.eval, Act.put]; rfl) (by rfl) (by rfl) rfl _ _ _ (by rfl) (by repeat (first | exact Upd.here | apply Upd.there)) (by simp) (by simp only [List.set_cons_zero, List.set_cons_succ]; rfl) ?_; clear hS; intro w7 hS _) | (refine arm_putA hS rfl _ _ _ rfl _ _ rfl (by simp [Act.eval, Act.put]; rfl) (by simp [Value.oneCell']) (by rfl) _ _ (by repeat (first | exact Upd.here | apply Upd.there)) (by rfl) ?_; clear hS; intro w7 hS _) | (refine ⟨trivial, rfl, ?_⟩) | (gi_at_call 50; refine ((global_any hS x).inRound lp).mono ?_; clear hS; rintro e w9 ⟨rfl, hS⟩) | (refine arm_lookupR keyE_str (.agg #[.int .i64 q1, .int .i64 q2]) hS rfl _ _ _ _ rfl _ _ rfl rfl (0, 0) rfl _ _ rfl rfl _ (by repeat (first | exact Pick.here | apply Pick.there)) (by exact hr) ?_))
        all_goals first | exact ⟨_, ⟨yi, yk, ⟨rfl, rfl⟩, rfl, rfl⟩, hS.drop.drop⟩ | exact absurd ⟨by assumption, by assumption⟩ hne.out
end Go.Proofs.Ytnidmlngkpkmlaa.PScope
