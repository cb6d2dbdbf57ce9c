/-
  Package scope: bound, where there is a first global.
-/
import Derived.Test.YtnidmlngkpkmlaaSc3
namespace Go.Proofs.Ytnidmlngkpkmlaa.PScope
open Go.RowKit Go.Shelf Go.Proofs.YtnidmlngkpkmlaaW.PrintWords Go.Proofs.YtnidmlngkpkmlaaSl
attribute [local go_sem] Oper.semAt_some

set_option maxRecDepth 100000 in
set_option maxHeartbeats 2000000 in
theorem bound_some {w0 w : World} {Φ : List Res} {m : Nat} (ad : Addr) (c : Nat) (l : List S40) (i k : Nat) (p1 p2 : Nat) (ox : S40) (x : S42) (ad2 : Addr) (c0 : Nat)
    (hS : St w0.heap.size w0 (kmap Value.string placeV m (firstsM (symsFrom 0 l)) :: Φ) w) (hC : Kd.C k40 w0 (some ad) l.length l) (hi : i < l.length) (hk : k < ox.f0.length)
    (b1 : decide ((i : Int) < 0) = false) (b2 : decide (l.length ≤ i) = false) (b3 : decide ((k : Int) < 0) = false) (b4 : decide (ox.f0.length ≤ k) = false)
    (hc0 : w0.cell? ((ad.add ((i : Int).toNat * k40.sz)).add 0) = some (.slice (some ad2) ox.f0.length c0)) (l0 : ox.f0.length ≤ c0)
    (hcs2 : ∀ (j : Nat) (u : Value), [Value.string x.f0, .bool x.f1, .int .i64 x.f2, .int .i64 x.f3, .int .i64 x.f4][j]? = some u → w0.cell? ((ad2.add ((k : Int).toNat * k42.sz)).add j) = some u)
    (hd1 : (x.f4 == -1) = true) (hd2 : (x.f4 != -1) = false) (hf : firstOf l x.f0 = some (p1, p2)) (hp1 : p1 < l.length) (hp2 : p2 < (l.getD p1 z40).f0.length)
    (hb0 : boundS l i k = if (symAt l p1 p2).f2 ≠ x.f2 ∨ (symAt l p1 p2).f3 ≠ x.f3 then (0, 0, 14) else ((p1 : Int), (p2 : Int), (0 : Int))) :
    CallsIn Fence.wide 0 Try.prog 48 #[.slice (some ad) l.length c, .map (some m), .int .i64 (i : Int), .int .i64 (k : Int)] w fun e w' => e = .returned (.tuple #[.agg #[.int .i64 (boundS l i k).1, .int .i64 (boundS l i k).2.1], .int .i64 (boundS l i k).2.2]) ∧ St w0.heap.size w0 (kmap Value.string placeV m (firstsM (symsFrom 0 l)) :: Φ) w' := by
  obtain ⟨ad', cs3, hA3, hK3, hlen3, hcs3⟩ := elem_cells hC z40 p1 (by omega) (by omega)
  obtain rfl : ad = ad' := by simpa using hA3
  clear hA3
  obtain ⟨oy, hoy⟩ : ∃ oy, l.getD p1 z40 = oy := ⟨_, rfl⟩
  rw [Int.toNat_natCast, hoy] at hK3
  rw [hoy] at hp2
  obtain ⟨B0, d0, B1, d1, B2, d2, rfl, m0, g3, _, _, _, _⟩ := k40_open hK3
  have hc3 := hcs3 0 _ rfl
  obtain ⟨ad4, cs4, rfl, hK4, hlen4, hcs4⟩ := elem_cells g3 z42 p2 (by omega) (by omega)
  obtain ⟨y, hy⟩ : ∃ y, oy.f0.getD p2 z42 = y := ⟨_, rfl⟩
  rw [Int.toNat_natCast, hy] at hK4
  obtain rfl := k42_open hK4
  have hya : symAt l p1 p2 = y := by simp only [symAt, Int.toNat_natCast, hoy, hy]
  have hb1 : boundS l i k = if y.f2 ≠ x.f2 ∨ y.f3 ≠ x.f3 then (0, 0, 14) else ((p1 : Int), (p2 : Int), (0 : Int)) := by rw [hb0]; simp only [hya]
  have HB := Lib.hid hb1
  have hm : mget (firstsM (symsFrom 0 l)) x.f0 = some (p1, p2) := hf
  clear hf hb1 hb0 hoy hy hya
  have e1 : w0.cell? (ad4.add (p2 * 5)) = some (.string y.f0) := hcs4 0 _ rfl
  have e2 : w0.cell? ⟨(ad4.add (p2 * 5)).block, (ad4.add (p2 * 5)).off + 1, none⟩ = some (.bool y.f1) := cell_pos 1 (by omega) (hcs4 1 _ rfl)
  have e3 : w0.cell? ⟨(ad4.add (p2 * 5)).block, (ad4.add (p2 * 5)).off + 2, none⟩ = some (.int .i64 y.f2) := cell_pos 2 (by omega) (hcs4 2 _ rfl)
  have e4 : w0.cell? ⟨(ad4.add (p2 * 5)).block, (ad4.add (p2 * 5)).off + 3, none⟩ = some (.int .i64 y.f3) := cell_pos 3 (by omega) (hcs4 3 _ rfl)
  have e5 : w0.cell? ⟨(ad4.add (p2 * 5)).block, (ad4.add (p2 * 5)).off + 4, none⟩ = some (.int .i64 y.f4) := cell_pos 4 (by omega) (hcs4 4 _ rfl)
  have e0 : w0.cell? (ad.add (p1 * 3)) = some (.slice (some ad4) oy.f0.length d0) := hc3
  (refine callsIn_of_wp Try.func48 rfl trivial ?_ rfl; simp only [Try.ntmps48, List.size_toArray, List.length_cons, List.length_nil, Nat.reduceAdd, Nat.reduceSub, Array.replicate_succ, Array.replicate_zero, List.push_toArray, List.append_toArray, List.nil_append, List.cons_append])
  gi_wp2_with (first | (refine arm_get hS rfl _ _ rfl _ _ rfl rfl rfl _ _ (by repeat (first | exact Pick.here | apply Pick.there)) _ (by rfl) ?_) | (refine arm_getA hS rfl _ _ rfl _ rfl rfl rfl _ _ (by repeat (first | exact Pick.here | apply Pick.there)) (by rfl) ?_) | (refine arm_alloc hS rfl _ rfl _ _ rfl (by dsimp only [Value.cells]) ?_; clear hS; intro b8 w6 hS _) | (refine arm_putA hS rfl _ _ _ rfl _ _ rfl (by simp [Act.eval, Act.put]; rfl) (by simp [Value.oneCell']) (by rfl) _ _ (by repeat (first | exact Upd.here | apply Upd.there)) (by rfl) ?_; clear hS; intro w7 hS _) | (refine arm_load rfl _ _ rfl _ rfl rfl rfl _ (hS.ext hc0) ?_) | (refine arm_loadA rfl _ _ rfl _ rfl rfl rfl _ rfl (fun j v h => hS.ext (hcs2 j v h)) ?_) | (refine arm_lookup keyE_str hS rfl _ _ _ _ rfl _ _ rfl rfl (0, 0) rfl _ _ rfl rfl _ (by repeat (first | exact Pick.here | apply Pick.there)) ?_))
  have f0 := hS.ext e0
  have f1 := hS.ext e1
  have f2 := hS.ext e2
  have f3 := hS.ext e3
  have f4 := hS.ext e4
  have f5 := hS.ext e5
  have q0 := hS.cell (b := b8) .here 0 rfl
  have q1 := hS.cell (b := b8) .here 1 rfl
  have hS1 := hS.alloc (.cells #[.string ⟨#[]⟩, .bool false, .int .i64 0, .int .i64 0, .int .i64 0] 42)
  have h0 := hS1.ext e0
  have h1 := hS1.ext e1
  have h2 := hS1.ext e2
  have h3 := hS1.ext e3
  have h4 := hS1.ext e4
  have h5 := hS1.ext e5
  have r0 := hS1.cell (b := b8) (.there .here) 0 rfl
  have r1 := hS1.cell (b := b8) (.there .here) 1 rfl
  refine wpIn_via ?A ?W (fun K0 hQ0 => ?key) ?rest
  case key =>
    gi_region
    all_goals exact hQ0.out
  clear f0 f1 f2 f3 f4 f5 q0 q1 h0 h1 h2 h3 h4 h5 r0 r1 hS1
  have hS2 := (hS.alloc (.cells #[.string y.f0, .bool y.f1, .int .i64 y.f2, .int .i64 y.f3, .int .i64 y.f4] 42)).drew
  clear hS
  obtain ⟨w9, hw9⟩ : ∃ w9, (w7.alloc (.cells #[.string y.f0, .bool y.f1, .int .i64 y.f2, .int .i64 y.f3, .int .i64 y.f4] 42)).drew = w9 := ⟨_, rfl⟩
  obtain ⟨b13, hb13⟩ : ∃ b13, w7.heap.size = b13 := ⟨_, rfl⟩
  rw [hw9] at hS2 ⊢
  rw [hb13] at hS2 ⊢
  have hS := hS2
  clear hS2 hw9
  by_cases g2 : y.f2 = x.f2
  · have t2 : (y.f2 != x.f2) = false := by simpa using g2
    by_cases g3 : y.f3 = x.f3
    · have t3 : (y.f3 != x.f3) = false := by simpa using g3
      have hres : boundS l i k = ((p1 : Int), (p2 : Int), (0 : Int)) := by rw [HB.out, if_neg (by simp [g2, g3])]
      have HR := Lib.hid hres
      clear hres g2 g3
      gi_wp2_with (first | (refine arm_get hS rfl _ _ rfl _ _ rfl rfl rfl _ _ (by repeat (first | exact Pick.here | apply Pick.there)) _ (by rfl) ?_) | (refine arm_getA hS rfl _ _ rfl _ rfl rfl rfl _ _ (by repeat (first | exact Pick.here | apply Pick.there)) (by rfl) ?_) | (refine arm_putA hS rfl _ _ _ rfl _ _ rfl (by simp [Act.eval, Act.put]; rfl) (by simp [Value.oneCell']) (by rfl) _ _ (by repeat (first | exact Upd.here | apply Upd.there)) (by rfl) ?_; clear hS; intro w10 hS _))
      refine bodyPost_ret (results_2 rfl (res_cellA hS _ _ _ _ rfl rfl rfl _ _ (by repeat (first | exact Pick.here | apply Pick.there)) (by rfl)) (res_tmp _ _ _ rfl _)) rfl ⟨by rw [HR.out]; rfl, hS.sub (by repeat (first | exact Sub.nil | exact Sub.refl | refine Sub.cons (by repeat (first | exact Pick.here | apply Pick.there)) ?_ | apply Sub.skip))⟩
    · have t3 : (y.f3 != x.f3) = true := by simpa using g3
      have hres : boundS l i k = (0, 0, 14) := by rw [HB.out, if_pos (.inr g3)]
      have HR := Lib.hid hres
      clear hres g2 g3
      gi_wp2_with (first | (refine arm_get hS rfl _ _ rfl _ _ rfl rfl rfl _ _ (by repeat (first | exact Pick.here | apply Pick.there)) _ (by rfl) ?_) | (refine arm_getA hS rfl _ _ rfl _ rfl rfl rfl _ _ (by repeat (first | exact Pick.here | apply Pick.there)) (by rfl) ?_) | (refine arm_putA hS rfl _ _ _ rfl _ _ rfl (by simp [Act.eval, Act.put]; rfl) (by simp [Value.oneCell']) (by rfl) _ _ (by repeat (first | exact Upd.here | apply Upd.there)) (by rfl) ?_; clear hS; intro w10 hS _))
      refine bodyPost_ret (results_2 rfl (res_cellA hS _ _ _ _ rfl rfl rfl _ _ (by repeat (first | exact Pick.here | apply Pick.there)) (by rfl)) (res_tmp _ _ _ rfl _)) rfl ⟨by rw [HR.out]; rfl, hS.sub (by repeat (first | exact Sub.nil | exact Sub.refl | refine Sub.cons (by repeat (first | exact Pick.here | apply Pick.there)) ?_ | apply Sub.skip))⟩
  · have t2 : (y.f2 != x.f2) = true := by simpa using g2
    have hres : boundS l i k = (0, 0, 14) := by rw [HB.out, if_pos (.inl g2)]
    have HR := Lib.hid hres
    clear hres g2
    gi_wp2_with (first | (refine arm_get hS rfl _ _ rfl _ _ rfl rfl rfl _ _ (by repeat (first | exact Pick.here | apply Pick.there)) _ (by rfl) ?_) | (refine arm_getA hS rfl _ _ rfl _ rfl rfl rfl _ _ (by repeat (first | exact Pick.here | apply Pick.there)) (by rfl) ?_) | (refine arm_putA hS rfl _ _ _ rfl _ _ rfl (by simp [Act.eval, Act.put]; rfl) (by simp [Value.oneCell']) (by rfl) _ _ (by repeat (first | exact Upd.here | apply Upd.there)) (by rfl) ?_; clear hS; intro w10 hS _))
    refine bodyPost_ret (results_2 rfl (res_cellA hS _ _ _ _ rfl rfl rfl _ _ (by repeat (first | exact Pick.here | apply Pick.there)) (by rfl)) (res_tmp _ _ _ rfl _)) rfl ⟨by rw [HR.out]; rfl, hS.sub (by repeat (first | exact Sub.nil | exact Sub.refl | refine Sub.cons (by repeat (first | exact Pick.here | apply Pick.there)) ?_ | apply Sub.skip))⟩
end Go.Proofs.Ytnidmlngkpkmlaa.PScope
