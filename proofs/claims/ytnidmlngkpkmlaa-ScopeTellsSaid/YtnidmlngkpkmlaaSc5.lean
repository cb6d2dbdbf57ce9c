/-
  Package scope: bound.
-/
import Derived.Test.YtnidmlngkpkmlaaSc4
namespace Go.Proofs.Ytnidmlngkpkmlaa.PScope
open Go.RowKit Go.Shelf Go.Proofs.YtnidmlngkpkmlaaW.PrintWords Go.Proofs.YtnidmlngkpkmlaaSl
attribute [local go_sem] Oper.semAt_some

set_option maxRecDepth 100000 in
set_option maxHeartbeats 1000000 in
theorem bound_any {w0 w : World} {Φ : List Res} {m : Nat} (A : Option Addr) (c : Nat) (l : List S40) (i k : Int) (hS : St w0.heap.size w0 (kmap Value.string placeV m (firstsM (symsFrom 0 l)) :: Φ) w) (hC : Kd.C k40 w0 A l.length l) (hl : Small l) :
    CallsIn Fence.wide 0 Try.prog 48 #[.slice A l.length c, .map (some m), .int .i64 i, .int .i64 k] w fun e w' => e = .returned (.tuple #[.agg #[.int .i64 (boundS l i k).1, .int .i64 (boundS l i k).2.1], .int .i64 (boundS l i k).2.2]) ∧ St w0.heap.size w0 (kmap Value.string placeV m (firstsM (symsFrom 0 l)) :: Φ) w' := by
  by_cases h1 : i < 0
  · have hres : boundS l i k = (0, 0, 2) := by simp [boundS, badAt, h1]
    rw [hres]
    clear hres
    (refine callsIn_of_wp Try.func48 rfl trivial ?_ rfl; simp only [Try.ntmps48, List.size_toArray, List.length_cons, List.length_nil, Nat.reduceAdd, Nat.reduceSub, Array.replicate_succ, Array.replicate_zero, List.push_toArray, List.append_toArray, List.nil_append, List.cons_append])
    gi_wp2_with (first | (refine arm_get hS rfl _ _ rfl _ _ rfl rfl rfl _ _ (by repeat (first | exact Pick.here | apply Pick.there)) _ (by rfl) ?_) | (refine arm_getA hS rfl _ _ rfl _ rfl rfl rfl _ _ (by repeat (first | exact Pick.here | apply Pick.there)) (by rfl) ?_) | (refine arm_alloc hS rfl _ rfl _ _ rfl (by dsimp only [Value.cells]) ?_; clear hS; intro b8 w6 hS _) | (refine arm_putA hS rfl _ _ _ rfl _ _ rfl (by simp [Act.eval, Act.put]; rfl) (by simp [Value.oneCell']) (by rfl) _ _ (by repeat (first | exact Upd.here | apply Upd.there)) (by rfl) ?_; clear hS; intro w7 hS _))
    refine bodyPost_ret (results_2 rfl (res_cellA hS _ _ _ _ rfl rfl rfl _ _ (by repeat (first | exact Pick.here | apply Pick.there)) (by rfl)) (res_tmp _ _ _ rfl _)) rfl ⟨rfl, hS.sub (by repeat (first | exact Sub.nil | exact Sub.refl | refine Sub.cons (by repeat (first | exact Pick.here | apply Pick.there)) ?_ | apply Sub.skip))⟩
  · by_cases h2 : (l.length : Int) ≤ i
    · have hres : boundS l i k = (0, 0, 2) := by simp [boundS, badAt, h2]
      rw [hres]
      clear hres
      (refine callsIn_of_wp Try.func48 rfl trivial ?_ rfl; simp only [Try.ntmps48, List.size_toArray, List.length_cons, List.length_nil, Nat.reduceAdd, Nat.reduceSub, Array.replicate_succ, Array.replicate_zero, List.push_toArray, List.append_toArray, List.nil_append, List.cons_append])
      gi_wp2_with (first | (refine arm_get hS rfl _ _ rfl _ _ rfl rfl rfl _ _ (by repeat (first | exact Pick.here | apply Pick.there)) _ (by rfl) ?_) | (refine arm_getA hS rfl _ _ rfl _ rfl rfl rfl _ _ (by repeat (first | exact Pick.here | apply Pick.there)) (by rfl) ?_) | (refine arm_alloc hS rfl _ rfl _ _ rfl (by dsimp only [Value.cells]) ?_; clear hS; intro b8 w6 hS _) | (refine arm_putA hS rfl _ _ _ rfl _ _ rfl (by simp [Act.eval, Act.put]; rfl) (by simp [Value.oneCell']) (by rfl) _ _ (by repeat (first | exact Upd.here | apply Upd.there)) (by rfl) ?_; clear hS; intro w7 hS _))
      refine bodyPost_ret (results_2 rfl (res_cellA hS _ _ _ _ rfl rfl rfl _ _ (by repeat (first | exact Pick.here | apply Pick.there)) (by rfl)) (res_tmp _ _ _ rfl _)) rfl ⟨rfl, hS.sub (by repeat (first | exact Sub.nil | exact Sub.refl | refine Sub.cons (by repeat (first | exact Pick.here | apply Pick.there)) ?_ | apply Sub.skip))⟩
    · by_cases h3 : k < 0
      · have hres : boundS l i k = (0, 0, 2) := by simp [boundS, badAt, h3]
        rw [hres]
        clear hres
        (refine callsIn_of_wp Try.func48 rfl trivial ?_ rfl; simp only [Try.ntmps48, List.size_toArray, List.length_cons, List.length_nil, Nat.reduceAdd, Nat.reduceSub, Array.replicate_succ, Array.replicate_zero, List.push_toArray, List.append_toArray, List.nil_append, List.cons_append])
        gi_wp2_with (first | (refine arm_get hS rfl _ _ rfl _ _ rfl rfl rfl _ _ (by repeat (first | exact Pick.here | apply Pick.there)) _ (by rfl) ?_) | (refine arm_getA hS rfl _ _ rfl _ rfl rfl rfl _ _ (by repeat (first | exact Pick.here | apply Pick.there)) (by rfl) ?_) | (refine arm_alloc hS rfl _ rfl _ _ rfl (by dsimp only [Value.cells]) ?_; clear hS; intro b8 w6 hS _) | (refine arm_putA hS rfl _ _ _ rfl _ _ rfl (by simp [Act.eval, Act.put]; rfl) (by simp [Value.oneCell']) (by rfl) _ _ (by repeat (first | exact Upd.here | apply Upd.there)) (by rfl) ?_; clear hS; intro w7 hS _))
        refine bodyPost_ret (results_2 rfl (res_cellA hS _ _ _ _ rfl rfl rfl _ _ (by repeat (first | exact Pick.here | apply Pick.there)) (by rfl)) (res_tmp _ _ _ rfl _)) rfl ⟨rfl, hS.sub (by repeat (first | exact Sub.nil | exact Sub.refl | refine Sub.cons (by repeat (first | exact Pick.here | apply Pick.there)) ?_ | apply Sub.skip))⟩
      · obtain ⟨i, rfl⟩ := Int.eq_ofNat_of_zero_le (Int.not_lt.1 h1)
        obtain ⟨k, rfl⟩ := Int.eq_ofNat_of_zero_le (Int.not_lt.1 h3)
        clear h1 h3
        have hi : i < l.length := by omega
        clear h2
        have b1 : decide ((i : Int) < 0) = false := by simp
        have b2 : decide (l.length ≤ i) = false := by simp; omega
        have b3 : decide ((k : Int) < 0) = false := by simp
        obtain ⟨ad, cs, rfl, hK, hlen, hcs⟩ := elem_cells hC z40 i (by omega) (by omega)
        obtain ⟨ox, hox⟩ : ∃ ox, l.getD i z40 = ox := ⟨_, rfl⟩
        rw [Int.toNat_natCast, hox] at hK
        obtain ⟨A0, c0, A1, c1, A2, c2, rfl, l0, g0, _, _, _, _⟩ := k40_open hK
        have hc0 := hcs 0 _ rfl
        by_cases h4 : ox.f0.length ≤ k
        · have hres : boundS l i k = (0, 0, 2) := by
            have : badAt l i k = true := by unfold badAt; rw [Int.toNat_natCast, hox]; simp; omega
            simp only [boundS, this, if_true]
          rw [hres]
          clear hres hox
          have b4 : decide (ox.f0.length ≤ k) = true := by simp; omega
          (refine callsIn_of_wp Try.func48 rfl trivial ?_ rfl; simp only [Try.ntmps48, List.size_toArray, List.length_cons, List.length_nil, Nat.reduceAdd, Nat.reduceSub, Array.replicate_succ, Array.replicate_zero, List.push_toArray, List.append_toArray, List.nil_append, List.cons_append])
          gi_wp2_with (first | (refine arm_get hS rfl _ _ rfl _ _ rfl rfl rfl _ _ (by repeat (first | exact Pick.here | apply Pick.there)) _ (by rfl) ?_) | (refine arm_getA hS rfl _ _ rfl _ rfl rfl rfl _ _ (by repeat (first | exact Pick.here | apply Pick.there)) (by rfl) ?_) | (refine arm_alloc hS rfl _ rfl _ _ rfl (by dsimp only [Value.cells]) ?_; clear hS; intro b8 w6 hS _) | (refine arm_putA hS rfl _ _ _ rfl _ _ rfl (by simp [Act.eval, Act.put]; rfl) (by simp [Value.oneCell']) (by rfl) _ _ (by repeat (first | exact Upd.here | apply Upd.there)) (by rfl) ?_; clear hS; intro w7 hS _) | (refine arm_load rfl _ _ rfl _ rfl rfl rfl _ (hS.ext hc0) ?_))
          refine bodyPost_ret (results_2 rfl (res_cellA hS _ _ _ _ rfl rfl rfl _ _ (by repeat (first | exact Pick.here | apply Pick.there)) (by rfl)) (res_tmp _ _ _ rfl _)) rfl ⟨rfl, hS.sub (by repeat (first | exact Sub.nil | exact Sub.refl | refine Sub.cons (by repeat (first | exact Pick.here | apply Pick.there)) ?_ | apply Sub.skip))⟩
        · have hk : k < ox.f0.length := by omega
          clear h4
          have b4 : decide (ox.f0.length ≤ k) = false := by simp; omega
          obtain ⟨ad2, cs2, rfl, hK2, hlen2, hcs2⟩ := elem_cells g0 z42 k (by omega) (by omega)
          obtain ⟨x, hx⟩ : ∃ x, ox.f0.getD k z42 = x := ⟨_, rfl⟩
          rw [Int.toNat_natCast, hx] at hK2
          obtain rfl := k42_open hK2
          have hsa : symAt l i k = x := by simp only [symAt, Int.toNat_natCast, hox, hx]
          have hnb : badAt l i k = false := by unfold badAt; rw [Int.toNat_natCast, hox]; simp; omega
          by_cases hd : x.f4 = -1
          · have hd1 : (x.f4 == -1) = true := by simpa using hd
            have hd2 : (x.f4 != -1) = false := by simpa using hd
            have hb0 : boundS l i k = match firstOf l x.f0 with
                | none => (0, 0, 13)
                | some p => if (symAt l p.1 p.2).f2 ≠ x.f2 ∨ (symAt l p.1 p.2).f3 ≠ x.f3 then (0, 0, 14) else ((p.1 : Int), (p.2 : Int), (0 : Int)) := by
              unfold boundS; rw [hnb, hsa]; cases firstOf l x.f0 <;> simp [hd]
            clear hox hx hsa hnb hd
            cases hf : firstOf l x.f0 with
            | none =>
              have hres : boundS l i k = (0, 0, 13) := by rw [hb0, hf]
              rw [hres]
              clear hres hb0
              have hm : mget (firstsM (symsFrom 0 l)) x.f0 = none := hf
              clear hf
              (refine callsIn_of_wp Try.func48 rfl trivial ?_ rfl; simp only [Try.ntmps48, List.size_toArray, List.length_cons, List.length_nil, Nat.reduceAdd, Nat.reduceSub, Array.replicate_succ, Array.replicate_zero, List.push_toArray, List.append_toArray, List.nil_append, List.cons_append])
              gi_wp2_with (first | (refine arm_get hS rfl _ _ rfl _ _ rfl rfl rfl _ _ (by repeat (first | exact Pick.here | apply Pick.there)) _ (by rfl) ?_) | (refine arm_getA hS rfl _ _ rfl _ rfl rfl rfl _ _ (by repeat (first | exact Pick.here | apply Pick.there)) (by rfl) ?_) | (refine arm_alloc hS rfl _ rfl _ _ rfl (by dsimp only [Value.cells]) ?_; clear hS; intro b8 w6 hS _) | (refine arm_putA hS rfl _ _ _ rfl _ _ rfl (by simp [Act.eval, Act.put]; rfl) (by simp [Value.oneCell']) (by rfl) _ _ (by repeat (first | exact Upd.here | apply Upd.there)) (by rfl) ?_; clear hS; intro w7 hS _) | (refine arm_load rfl _ _ rfl _ rfl rfl rfl _ (hS.ext hc0) ?_) | (refine arm_loadA rfl _ _ rfl _ rfl rfl rfl _ rfl (fun j v h => hS.ext (hcs2 j v h)) ?_) | (refine arm_lookup keyE_str hS rfl _ _ _ _ rfl _ _ rfl rfl (0, 0) rfl _ _ rfl rfl _ (by repeat (first | exact Pick.here | apply Pick.there)) ?_))
              refine bodyPost_ret (results_2 rfl (res_cellA hS _ _ _ _ rfl rfl rfl _ _ (by repeat (first | exact Pick.here | apply Pick.there)) (by rfl)) (res_tmp _ _ _ rfl _)) rfl ⟨rfl, hS.sub (by repeat (first | exact Sub.nil | exact Sub.refl | refine Sub.cons (by repeat (first | exact Pick.here | apply Pick.there)) ?_ | apply Sub.skip))⟩
            | some p =>
              obtain ⟨p1, p2⟩ := p
              obtain ⟨hp1, hp2⟩ := firstOf_in hf
              exact bound_some ad c l i k p1 p2 ox x ad2 c0 hS hC hi hk b1 b2 b3 b4 hc0 l0 hcs2 hd1 hd2 hf hp1 hp2 (by rw [hb0, hf])
          · have hres : boundS l i k = ((i : Int), (k : Int), (0 : Int)) := by
              unfold boundS; rw [hnb, hsa]; simp [hd]
            have hd1 : (x.f4 == -1) = false := by simpa using hd
            have hd2 : (x.f4 != -1) = true := by simpa using hd
            rw [hres]
            clear hres hox hx hsa hnb hd
            (refine callsIn_of_wp Try.func48 rfl trivial ?_ rfl; simp only [Try.ntmps48, List.size_toArray, List.length_cons, List.length_nil, Nat.reduceAdd, Nat.reduceSub, Array.replicate_succ, Array.replicate_zero, List.push_toArray, List.append_toArray, List.nil_append, List.cons_append])
            gi_wp2_with (first | (refine arm_get hS rfl _ _ rfl _ _ rfl rfl rfl _ _ (by repeat (first | exact Pick.here | apply Pick.there)) _ (by rfl) ?_) | (refine arm_getA hS rfl _ _ rfl _ rfl rfl rfl _ _ (by repeat (first | exact Pick.here | apply Pick.there)) (by rfl) ?_) | (refine arm_alloc hS rfl _ rfl _ _ rfl (by dsimp only [Value.cells]) ?_; clear hS; intro b8 w6 hS _) | (refine arm_putA hS rfl _ _ _ rfl _ _ rfl (by simp [Act.eval, Act.put]; rfl) (by simp [Value.oneCell']) (by rfl) _ _ (by repeat (first | exact Upd.here | apply Upd.there)) (by rfl) ?_; clear hS; intro w7 hS _) | (refine arm_load rfl _ _ rfl _ rfl rfl rfl _ (hS.ext hc0) ?_) | (refine arm_loadA rfl _ _ rfl _ rfl rfl rfl _ rfl (fun j v h => hS.ext (hcs2 j v h)) ?_))
            refine bodyPost_ret (results_2 rfl (res_cellA hS _ _ _ _ rfl rfl rfl _ _ (by repeat (first | exact Pick.here | apply Pick.there)) (by rfl)) (res_tmp _ _ _ rfl _)) rfl ⟨rfl, hS.sub (by repeat (first | exact Sub.nil | exact Sub.refl | refine Sub.cons (by repeat (first | exact Pick.here | apply Pick.there)) ?_ | apply Sub.skip))⟩
end Go.Proofs.Ytnidmlngkpkmlaa.PScope
