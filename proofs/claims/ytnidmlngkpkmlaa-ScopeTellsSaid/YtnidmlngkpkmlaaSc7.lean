/-
  Package scope: Check.
-/
import Derived.Test.YtnidmlngkpkmlaaSc6
namespace Go.Proofs.Ytnidmlngkpkmlaa.PScope
open Go.RowKit Go.Shelf Go.Proofs.YtnidmlngkpkmlaaW.PrintWords Go.Proofs.YtnidmlngkpkmlaaSl
attribute [local go_sem] Oper.semAt_some

theorem bound_pick {w0 w : World} {Φ Φ' : List Res} {m : Nat} (A : Option Addr) (c : Nat) (l : List S40) (i k : Int) (r : Int × Int × Int) (hr : boundS l i k = r) (hS : St w0.heap.size w0 Φ w) (hp : Pick Φ (kmap Value.string placeV m (firstsM (symsFrom 0 l))) Φ') (hC : Kd.C k40 w0 A l.length l) (hl : Small l) :
    CallsIn Fence.wide 0 Try.prog 48 #[.slice A l.length c, .map (some m), .int .i64 i, .int .i64 k] w fun e w' => e = .returned (.tuple #[.agg #[.int .i64 r.1, .int .i64 r.2.1], .int .i64 r.2.2]) ∧ St w0.heap.size w0 Φ w' := by
  subst hr
  refine (bound_any A c l i k (hS.perm hp.perm) hC hl).mono ?_
  rintro e w' ⟨h1, h2⟩
  exact ⟨h1, h2.perm hp.perm.symm⟩

def unboundP (l : List S40) (y : Nat × Nat × S42) : Bool := !decide ((boundS l y.1 y.2.1).2.2 = 0)
/-- What is wrong of names first: why, file, item. -/
def checkS (l : List S40) : Int × Int × Int :=
  if l.length = 0 ∨ 6 < l.length then (19, -1, -1) else
  match twiceS l with
  | some p => (12, p.1, p.2)
  | none => match (symsFrom 0 l).find? (unboundP l) with
    | some y => ((boundS l y.1 y.2.1).2.2, y.1, y.2.1)
    | none => (0, 0, 0)
abbrev threeV (p : Int × Int × Int) : List Value := [.int .i64 p.1, .int .i64 p.2.1, .int .i64 p.2.2]

set_option maxRecDepth 100000 in
set_option maxHeartbeats 2000000 in
theorem Check_any {w0 w : World} {Φ : List Res} (hS : St w0.heap.size w0 Φ w) (A : Option Addr) (c : Nat) (l : List S40) (hC : Kd.C k40 w0 A l.length l) (hl : Small l) :
    CallsIn Fence.wide 0 Try.prog 21 #[.slice A l.length c] w fun e w' =>
      e = .returned (.agg (threeV (checkS l)).toArray) ∧ St w0.heap.size w0 Φ w' := by
  by_cases h0 : l.length = 0
  · have hres : checkS l = (19, -1, -1) := by simp [checkS, h0]
    rw [hres]
    clear hres
    have h1 : ((l.length : Int) == 0) = true := by rw [h0]; rfl
    clear h0
    (refine callsIn_of_wp_marks Try.func21 rfl trivial ?_ rfl; simp only [Try.ntmps21, List.size_toArray, List.length_cons, List.length_nil, Nat.reduceAdd, Nat.reduceSub, Array.replicate_succ, Array.replicate_zero, List.push_toArray, List.append_toArray, List.nil_append, List.cons_append])
    gi_wp2_with (first | (refine arm_get hS rfl _ _ rfl _ _ rfl rfl rfl _ _ (by repeat (first | exact Pick.here | apply Pick.there)) _ (by rfl) ?_) | (refine arm_getA hS rfl _ _ rfl _ rfl rfl rfl _ _ (by repeat (first | exact Pick.here | apply Pick.there)) (by rfl) ?_) | (have hq := bR; clear hq; (refine arm_alloc hS rfl 31 rfl _ _ rfl (by dsimp only [Value.cells]) ?_; clear hS; intro bX w6 hS _)) | (refine arm_alloc hS rfl 31 rfl _ _ rfl (by dsimp only [Value.cells]) ?_; clear hS; intro bR w6 hS _) | (refine arm_alloc hS rfl 22 rfl _ _ rfl (by dsimp only [Value.cells]) ?_; clear hS; intro bL w6 hS _) | (refine arm_box hS rfl _ _ rfl _ _ (by simp [Act.eval, Act.put]; rfl) (by dsimp only [Value.cells]) ?_; clear hS; intro bL w6 hS _) | (refine arm_alloc hS rfl _ rfl _ _ rfl (by dsimp only [Value.cells]) ?_; clear hS; intro b6 w6 hS _) | (refine arm_putA hS rfl _ _ _ rfl _ _ rfl (by simp [Act.eval, Act.put]; rfl) (by simp [Value.oneCell']) (by rfl) _ _ (by repeat (first | exact Upd.here | apply Upd.there)) (by rfl) ?_; clear hS; intro w7 hS _) | (refine arm_put hS rfl _ _ _ rfl _ _ _ rfl (by simp [Act.eval, Act.put]; rfl) (by rfl) (by rfl) rfl _ _ _ (by rfl) (by repeat (first | exact Upd.here | apply Upd.there)) (by simp) (by simp only [List.set_cons_zero, List.set_cons_succ]; rfl) ?_; clear hS; intro w7 hS _) | (refine ⟨trivial, rfl, ?_⟩))
    refine leaves_marks [] w7 (Ψ := blk bR 31 (threeV (19, -1, -1)) :: Φ) (hS.sub (by repeat (first | exact Sub.nil | exact Sub.refl | refine Sub.cons (by repeat (first | exact Pick.here | apply Pick.there)) ?_ | apply Sub.skip))) ?_
    clear hS
    exact fun w' hS => ⟨_, results_1 rfl (res_cellA hS _ _ _ _ rfl rfl rfl _ _ (by repeat (first | exact Pick.here | apply Pick.there)) (by rfl)), rfl, hS.drop⟩
  · have h1 : ((l.length : Int) == 0) = false := by simpa using h0
    by_cases h6 : 6 < l.length
    · have hres : checkS l = (19, -1, -1) := by simp [checkS, h6]
      rw [hres]
      clear hres
      have h2 : decide (6 < (l.length : Int)) = true := by simp; omega
      clear h0 h6
      (refine callsIn_of_wp_marks Try.func21 rfl trivial ?_ rfl; simp only [Try.ntmps21, List.size_toArray, List.length_cons, List.length_nil, Nat.reduceAdd, Nat.reduceSub, Array.replicate_succ, Array.replicate_zero, List.push_toArray, List.append_toArray, List.nil_append, List.cons_append])
      gi_wp2_with (first | (refine arm_get hS rfl _ _ rfl _ _ rfl rfl rfl _ _ (by repeat (first | exact Pick.here | apply Pick.there)) _ (by rfl) ?_) | (refine arm_getA hS rfl _ _ rfl _ rfl rfl rfl _ _ (by repeat (first | exact Pick.here | apply Pick.there)) (by rfl) ?_) | (have hq := bR; clear hq; (refine arm_alloc hS rfl 31 rfl _ _ rfl (by dsimp only [Value.cells]) ?_; clear hS; intro bX w6 hS _)) | (refine arm_alloc hS rfl 31 rfl _ _ rfl (by dsimp only [Value.cells]) ?_; clear hS; intro bR w6 hS _) | (refine arm_alloc hS rfl 22 rfl _ _ rfl (by dsimp only [Value.cells]) ?_; clear hS; intro bL w6 hS _) | (refine arm_box hS rfl _ _ rfl _ _ (by simp [Act.eval, Act.put]; rfl) (by dsimp only [Value.cells]) ?_; clear hS; intro bL w6 hS _) | (refine arm_alloc hS rfl _ rfl _ _ rfl (by dsimp only [Value.cells]) ?_; clear hS; intro b6 w6 hS _) | (refine arm_putA hS rfl _ _ _ rfl _ _ rfl (by simp [Act.eval, Act.put]; rfl) (by simp [Value.oneCell']) (by rfl) _ _ (by repeat (first | exact Upd.here | apply Upd.there)) (by rfl) ?_; clear hS; intro w7 hS _) | (refine arm_put hS rfl _ _ _ rfl _ _ _ rfl (by simp [Act.eval, Act.put]; rfl) (by rfl) (by rfl) rfl _ _ _ (by rfl) (by repeat (first | exact Upd.here | apply Upd.there)) (by simp) (by simp only [List.set_cons_zero, List.set_cons_succ]; rfl) ?_; clear hS; intro w7 hS _) | (refine ⟨trivial, rfl, ?_⟩))
      refine leaves_marks [] w7 (Ψ := blk bR 31 (threeV (19, -1, -1)) :: Φ) (hS.sub (by repeat (first | exact Sub.nil | exact Sub.refl | refine Sub.cons (by repeat (first | exact Pick.here | apply Pick.there)) ?_ | apply Sub.skip))) ?_
      clear hS
      exact fun w' hS => ⟨_, results_1 rfl (res_cellA hS _ _ _ _ rfl rfl rfl _ _ (by repeat (first | exact Pick.here | apply Pick.there)) (by rfl)), rfl, hS.drop⟩
    · have h2 : decide (6 < (l.length : Int)) = false := by simp; omega
      cases ht : twiceS l with
      | some p =>
        obtain ⟨p1, p2⟩ := p
        have hres : checkS l = (12, (p1 : Int), (p2 : Int)) := by unfold checkS; rw [if_neg (by omega), ht]
        rw [hres]
        clear hres h0 h6
        have hr1 : rejV (twiceS l) = [.int .i64 12, .int .i64 p1, .int .i64 p2] := by rw [ht]; rfl
        have hr2 : (twiceS l).isSome = true := by rw [ht]; rfl
        clear ht
        (refine callsIn_of_wp_marks Try.func21 rfl trivial ?_ rfl; simp only [Try.ntmps21, List.size_toArray, List.length_cons, List.length_nil, Nat.reduceAdd, Nat.reduceSub, Array.replicate_succ, Array.replicate_zero, List.push_toArray, List.append_toArray, List.nil_append, List.cons_append])
        gi_wp2_with (first | (refine arm_get hS rfl _ _ rfl _ _ rfl rfl rfl _ _ (by repeat (first | exact Pick.here | apply Pick.there)) _ (by rfl) ?_) | (refine arm_getA hS rfl _ _ rfl _ rfl rfl rfl _ _ (by repeat (first | exact Pick.here | apply Pick.there)) (by rfl) ?_) | (have hq := bR; clear hq; (refine arm_alloc hS rfl 31 rfl _ _ rfl (by dsimp only [Value.cells]) ?_; clear hS; intro bX w6 hS _)) | (refine arm_alloc hS rfl 31 rfl _ _ rfl (by dsimp only [Value.cells]) ?_; clear hS; intro bR w6 hS _) | (refine arm_alloc hS rfl 22 rfl _ _ rfl (by dsimp only [Value.cells]) ?_; clear hS; intro bL w6 hS _) | (refine arm_box hS rfl _ _ rfl _ _ (by simp [Act.eval, Act.put]; rfl) (by dsimp only [Value.cells]) ?_; clear hS; intro bL w6 hS _) | (refine arm_alloc hS rfl _ rfl _ _ rfl (by dsimp only [Value.cells]) ?_; clear hS; intro b6 w6 hS _) | (refine arm_putA hS rfl _ _ _ rfl _ _ rfl (by simp [Act.eval, Act.put]; rfl) (by simp [Value.oneCell']) (by rfl) _ _ (by repeat (first | exact Upd.here | apply Upd.there)) (by rfl) ?_; clear hS; intro w7 hS _) | (refine arm_put hS rfl _ _ _ rfl _ _ _ rfl (by simp [Act.eval, Act.put]; rfl) (by rfl) (by rfl) rfl _ _ _ (by rfl) (by repeat (first | exact Upd.here | apply Upd.there)) (by simp) (by simp only [List.set_cons_zero, List.set_cons_succ]; rfl) ?_; clear hS; intro w7 hS _) | (refine ⟨trivial, rfl, ?_⟩) | (gi_at_call 19; refine (Twice_any hS _ _ l hC hl).mono ?_; clear hS; rintro e w1 ⟨rfl, hS⟩; rw [hr1, hr2]))
        refine leaves_marks [] w7 (Ψ := blk bR 31 (threeV (12, (p1 : Int), (p2 : Int))) :: Φ) (hS.sub (by repeat (first | exact Sub.nil | exact Sub.refl | refine Sub.cons (by repeat (first | exact Pick.here | apply Pick.there)) ?_ | apply Sub.skip))) ?_
        clear hS
        exact fun w' hS => ⟨_, results_1 rfl (res_cellA hS _ _ _ _ rfl rfl rfl _ _ (by repeat (first | exact Pick.here | apply Pick.there)) (by rfl)), rfl, hS.drop⟩
      | none =>
        have hres : checkS l = match (symsFrom 0 l).find? (unboundP l) with
          | some y => ((boundS l y.1 y.2.1).2.2, (y.1 : Int), (y.2.1 : Int))
          | none => (0, 0, 0) := by unfold checkS; rw [if_neg (by omega), ht]
        replace hres := Lib.hid hres
        have hr1 : rejV (twiceS l) = [.int .i64 0, .int .i64 0, .int .i64 0] := by rw [ht]; rfl
        have hr2 : (twiceS l).isSome = false := by rw [ht]; rfl
        clear ht h0 h6
        (refine callsIn_of_wp_marks Try.func21 rfl trivial ?_ rfl; simp only [Try.ntmps21, List.size_toArray, List.length_cons, List.length_nil, Nat.reduceAdd, Nat.reduceSub, Array.replicate_succ, Array.replicate_zero, List.push_toArray, List.append_toArray, List.nil_append, List.cons_append])
        gi_wp2_with (first | (refine arm_get hS rfl _ _ rfl _ _ rfl rfl rfl _ _ (by repeat (first | exact Pick.here | apply Pick.there)) _ (by rfl) ?_) | (refine arm_getA hS rfl _ _ rfl _ rfl rfl rfl _ _ (by repeat (first | exact Pick.here | apply Pick.there)) (by rfl) ?_) | (have hq := bR; clear hq; (refine arm_alloc hS rfl 31 rfl _ _ rfl (by dsimp only [Value.cells]) ?_; clear hS; intro bX w6 hS _)) | (refine arm_alloc hS rfl 31 rfl _ _ rfl (by dsimp only [Value.cells]) ?_; clear hS; intro bR w6 hS _) | (refine arm_alloc hS rfl 22 rfl _ _ rfl (by dsimp only [Value.cells]) ?_; clear hS; intro bL w6 hS _) | (refine arm_box hS rfl _ _ rfl _ _ (by simp [Act.eval, Act.put]; rfl) (by dsimp only [Value.cells]) ?_; clear hS; intro bL w6 hS _) | (refine arm_alloc hS rfl _ rfl _ _ rfl (by dsimp only [Value.cells]) ?_; clear hS; intro b6 w6 hS _) | (refine arm_putA hS rfl _ _ _ rfl _ _ rfl (by simp [Act.eval, Act.put]; rfl) (by simp [Value.oneCell']) (by rfl) _ _ (by repeat (first | exact Upd.here | apply Upd.there)) (by rfl) ?_; clear hS; intro w7 hS _) | (refine arm_put hS rfl _ _ _ rfl _ _ _ rfl (by simp [Act.eval, Act.put]; rfl) (by rfl) (by rfl) rfl _ _ _ (by rfl) (by repeat (first | exact Upd.here | apply Upd.there)) (by simp) (by simp only [List.set_cons_zero, List.set_cons_succ]; rfl) ?_; clear hS; intro w7 hS _) | (refine ⟨trivial, rfl, ?_⟩) | (gi_at_call 19; refine (Twice_any hS _ _ l hC hl).mono ?_; clear hS; rintro e w1 ⟨rfl, hS⟩; rw [hr1, hr2]) | (gi_at_call 46; refine (firsts_any hS _ _ l hC hl).mono ?_; clear hS; rintro e w1 ⟨m, rfl, hS⟩) | (gi_at_call 49; refine (all_any hS _ _ _).mono ?_; clear hS; rintro e w4 ⟨bl, rfl, hS⟩))
        refine wpIn_range (St.swap (Φ := [blk bl 22 [.slice A l.length c]]) hS) rfl (enters_of Try.func67 (by kernel_rfl) rfl) (all1 l A c bl w0 hC hl) (by simp [symArgs])
          (fun j Ψ => NoneTo (unboundP l) (symsFrom 0 l) j ∧ Ψ = blk b6 83 [.map (some m)] :: kmap Value.string placeV m (firstsM (symsFrom 0 l)) :: blk bX 31 (threeV (0, 0, 0)) :: blk bR 31 (threeV (0, 0, 0)) :: blk bL 22 [.slice A l.length c] :: Φ)
          (fun _ cc Ψ => ∃ y1 y2 y3, Hid (checkS l = (y1, y2, y3)) ∧ cc = .ret ∧ Ψ = blk b6 83 [.map (some m)] :: kmap Value.string placeV m (firstsM (symsFrom 0 l)) :: blk bX 31 (threeV (0, 0, 0)) :: blk bR 31 (threeV (y1, y2, y3)) :: blk bL 22 [.slice A l.length c] :: Φ) ⟨.zero _ _, rfl⟩ ?round ?done ?stop
        case stop =>
          clear hS
          rintro D j cc Ψ W _ ⟨y1, y2, y3, hy, rfl, rfl⟩ hS
          gi_wp2_with (refine arm_get hS rfl _ _ rfl _ _ rfl rfl rfl _ _ (by repeat (first | exact Pick.here | apply Pick.there)) _ (by rfl) ?_)
          refine leaves_marks [D] W (Ψ := blk bR 31 (threeV (y1, y2, y3)) :: Φ) ((St.head (Φ := _ :: _ :: _ :: _ :: _ :: _ :: Φ) hS).sub (by repeat (first | exact Sub.nil | exact Sub.refl | refine Sub.cons (by repeat (first | exact Pick.here | apply Pick.there)) ?_ | apply Sub.skip))) ?_
          clear hS
          exact fun w' hS => ⟨_, results_1 rfl (res_cellA hS _ _ _ _ rfl rfl rfl _ _ (by repeat (first | exact Pick.here | apply Pick.there)) (by rfl)), by rw [hy.out], hS.drop⟩
        case done =>
          clear hS
          rintro D Ψ W ⟨hn, rfl⟩ hS
          rw [List.length_map] at hn
          have hy := Lib.hid (hres.out.trans (by rw [hn.all]))
          clear hn
          gi_wp2_with (first | (refine arm_get hS rfl _ _ rfl _ _ rfl rfl rfl _ _ (by repeat (first | exact Pick.here | apply Pick.there)) _ (by rfl) ?_) | (refine arm_put hS rfl _ _ _ rfl _ _ _ rfl (by simp [Act.eval, Act.put]; rfl) (by rfl) (by rfl) rfl _ _ _ (by rfl) (by repeat (first | exact Upd.here | apply Upd.there)) (by simp) (by simp only [List.set_cons_zero, List.set_cons_succ]; rfl) ?_; clear hS; intro w7 hS _) | (refine arm_putA hS rfl _ _ _ rfl _ _ rfl (by simp [Act.eval, Act.put]; rfl) (by simp [Value.oneCell']) (by rfl) _ _ (by repeat (first | exact Upd.here | apply Upd.there)) (by rfl) ?_; clear hS; intro w7 hS _))
          refine leaves_marks [D] w7 (Ψ := blk bR 31 (threeV (0, 0, 0)) :: Φ) ((St.head (Φ := _ :: _ :: _ :: _ :: _ :: _ :: Φ) hS).sub (by repeat (first | exact Sub.nil | exact Sub.refl | refine Sub.cons (by repeat (first | exact Pick.here | apply Pick.there)) ?_ | apply Sub.skip))) ?_
          clear hS
          exact fun w' hS => ⟨_, results_1 rfl (res_cellA hS _ _ _ _ rfl rfl rfl _ _ (by repeat (first | exact Pick.here | apply Pick.there)) (by rfl)), by rw [hy.out], hS.drop⟩
        case round =>
          clear hS
          rintro lp D j hj Ψ Fr W ⟨hn, rfl⟩ hS
          have hj' : j < (symsFrom 0 l).length := by simpa using hj
          have HT := hn.next hj'
          have HF := hn.found hj'
          clear hn
          rw [List.getElem_map]
          generalize (symsFrom 0 l)[j] = y at *
          obtain ⟨yi, yk, x⟩ := y
          obtain ⟨⟨b1, b2, b3⟩, hb⟩ : ∃ b, boundS l yi yk = b := ⟨_, rfl⟩
          by_cases he : b3 = 0
          · have ht : unboundP l (yi, yk, x) = false := by simp [unboundP, hb, he]
            replace HT := Lib.hid (HT ht)
            subst he
            clear HF ht
            simp only [handed, symArgs, List.zip_cons_cons, List.zip_nil_right, List.foldl_cons, List.foldl_nil, List.setIfInBounds_toArray, List.set_cons_succ, List.set_cons_zero]
            gi_wp2_with (first | (refine arm_alloc hS rfl _ rfl _ _ rfl (by dsimp only [Value.cells]) ?_; clear hS; intro b4 w4 hS _) | (refine arm_putA hS rfl _ _ _ rfl _ _ rfl (by simp [Act.eval, Act.put]; rfl) (by simp [Value.oneCell']) (by rfl) _ _ (by repeat (first | exact Upd.here | apply Upd.there)) (by rfl) ?_; clear hS; intro w5 hS _))
            refine ⟨_ :: _ :: _ :: _ :: _ :: _ :: Φ, hS, ?_⟩
            clear hS
            intro Fr2 W2 rec Fr3 _ _ hS
            gi_wp2_with (first | (refine arm_get hS rfl _ _ rfl _ _ rfl rfl rfl _ _ (by repeat (first | exact Pick.here | apply Pick.there)) _ (by rfl) ?_) | (refine arm_getA hS rfl _ _ rfl _ rfl rfl rfl _ _ (by repeat (first | exact Pick.here | apply Pick.there)) (by rfl) ?_) | (refine arm_alloc hS rfl _ rfl _ _ rfl (by dsimp only [Value.cells]) ?_; clear hS; intro b6 w6 hS _) | (refine arm_putA hS rfl _ _ _ rfl _ _ rfl (by simp [Act.eval, Act.put]; rfl) (by simp [Value.oneCell']) (by rfl) _ _ (by repeat (first | exact Upd.here | apply Upd.there)) (by rfl) ?_; clear hS; intro w7 hS _) | (refine ⟨trivial, rfl, ?_⟩) | (gi_at_call 48; refine ((bound_pick _ _ l yi yk _ hb hS (by repeat (first | exact Pick.here | apply Pick.there)) hC hl).inRound lp).mono ?_; clear hS; rintro e w9 ⟨rfl, hS⟩))
            exact ⟨_, ⟨HT.out, rfl⟩, hS.drop.drop⟩
          · have ht : unboundP l (yi, yk, x) = true := by simp [unboundP, hb, he]
            have hy := Lib.hid (show checkS l = (b3, (yi : Int), (yk : Int)) by rw [hres.out, HF ht]; simp [hb])
            have hn1 : (b3 == 0) = false := by simpa using he
            have hn2 : (b3 != 0) = true := by simpa using he
            clear HF HT ht he hres
            simp only [handed, symArgs, List.zip_cons_cons, List.zip_nil_right, List.foldl_cons, List.foldl_nil, List.setIfInBounds_toArray, List.set_cons_succ, List.set_cons_zero]
            gi_wp2_with (first | (refine arm_alloc hS rfl _ rfl _ _ rfl (by dsimp only [Value.cells]) ?_; clear hS; intro b4 w4 hS _) | (refine arm_putA hS rfl _ _ _ rfl _ _ rfl (by simp [Act.eval, Act.put]; rfl) (by simp [Value.oneCell']) (by rfl) _ _ (by repeat (first | exact Upd.here | apply Upd.there)) (by rfl) ?_; clear hS; intro w5 hS _))
            refine ⟨_ :: _ :: _ :: _ :: _ :: _ :: Φ, hS, ?_⟩
            clear hS
            intro Fr2 W2 rec Fr3 _ _ hS
            gi_wp2_with (first | (refine arm_get hS rfl _ _ rfl _ _ rfl rfl rfl _ _ (by repeat (first | exact Pick.here | apply Pick.there)) _ (by rfl) ?_) | (refine arm_getA hS rfl _ _ rfl _ rfl rfl rfl _ _ (by repeat (first | exact Pick.here | apply Pick.there)) (by rfl) ?_) | (refine arm_alloc hS rfl _ rfl _ _ rfl (by dsimp only [Value.cells]) ?_; clear hS; intro b6 w6 hS _) | (refine arm_putA hS rfl _ _ _ rfl _ _ rfl (by simp [Act.eval, Act.put]; rfl) (by simp [Value.oneCell']) (by rfl) _ _ (by repeat (first | exact Upd.here | apply Upd.there)) (by rfl) ?_; clear hS; intro w7 hS _) | (refine ⟨trivial, rfl, ?_⟩) | (gi_at_call 48; refine ((bound_pick _ _ l yi yk _ hb hS (by repeat (first | exact Pick.here | apply Pick.there)) hC hl).inRound lp).mono ?_; clear hS; rintro e w9 ⟨rfl, hS⟩))
            exact ⟨_, ⟨_, _, _, hy, rfl, rfl⟩, hS.drop.drop⟩
end Go.Proofs.Ytnidmlngkpkmlaa.PScope
