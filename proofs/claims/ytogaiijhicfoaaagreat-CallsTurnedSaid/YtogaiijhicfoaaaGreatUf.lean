import Derived.Test.YtogaiijhicfoaaaGreatUe

/-
  Of the statements on calls: fixed calls, and the two statements.
-/
namespace Go.Proofs.YtogaiijhicfoaaaGreatU
set_option linter.unusedVariables false
set_option linter.unusedSimpArgs false
open Go.RowKit Go.Proofs.YtogaiijhicfoaaaGreatK Go.Proofs.YtogaiijhicfoaaaGreatT Go.Proofs.YtogaiijhicfoaaaGreatL Go.Proofs.YtogaiijhicfoaaaGreatV Go.Proofs.YtogaiijhicfoaaaGreatG Go.Proofs.YtogaiijhicfoaaaGreatW

def two0 : ApiFun := ⟨0, 0, ⟨#[109, 97, 105, 110]⟩, ⟨0, [0, 1], 0, false, 3, 4, [], [⟨17, 1, 0, 0, 0⟩, ⟨20, 0, 1, 0, 0⟩, ⟨21, 0, 0, 0, 0⟩, ⟨24, 0, 0, 0, 0⟩], [⟨0, 1, true⟩, ⟨2, 2, true⟩]⟩, [1, -1, 2, -1]⟩
def two1 : ApiFun := ⟨0, 1, ⟨#[102]⟩, ⟨0, [], 10, true, 0, 0, [], [⟨24, 0, 0, 0, 0⟩], []⟩, [-1]⟩
def two2 : ApiFun := ⟨0, 2, ⟨#[103]⟩, ⟨0, [], 70, false, 0, 0, [], [⟨24, 0, 0, 0, 0⟩], []⟩, [-1]⟩
def two3 : ApiFun := ⟨0, 3, ⟨#[104]⟩, ⟨0, [], 0, false, 0, 0, [], [⟨19, 0, 0, 0, 0⟩, ⟨24, 0, 0, 0, 0⟩], [⟨0, 3, true⟩]⟩, [3, -1]⟩
def twoL : List ApiFun := [two0, two1, two2, two3]
def twoP : ApiProgram := ⟨twoL, [], 0⟩
theorem two_C {w : World} {b5 b10 b13 b15 b18 b20 b23 b25 b29 b31 b33 b39 : Nat} (hb5 : (blk b5 3 [.int .i64 0, .int .i64 1]).q w) (hb10 : (blk b10 51 [.int .i64 17, .int .i64 1, .int .i64 0, .int .i64 0, .int .i64 0, .int .i64 20, .int .i64 0, .int .i64 1, .int .i64 0, .int .i64 0, .int .i64 21, .int .i64 0, .int .i64 0, .int .i64 0, .int .i64 0, .int .i64 24, .int .i64 0, .int .i64 0, .int .i64 0, .int .i64 0]).q w) (hb13 : (blk b13 147 [.int .i64 0, .int .i64 1, .bool true, .int .i64 2, .int .i64 2, .bool true]).q w) (hb15 : (blk b15 3 [.int .i64 1, .int .i64 (-1), .int .i64 2, .int .i64 (-1)]).q w) (hb18 : (blk b18 51 [.int .i64 24, .int .i64 0, .int .i64 0, .int .i64 0, .int .i64 0]).q w) (hb20 : (blk b20 3 [.int .i64 (-1)]).q w) (hb23 : (blk b23 51 [.int .i64 24, .int .i64 0, .int .i64 0, .int .i64 0, .int .i64 0]).q w) (hb25 : (blk b25 3 [.int .i64 (-1)]).q w) (hb29 : (blk b29 51 [.int .i64 19, .int .i64 0, .int .i64 0, .int .i64 0, .int .i64 0, .int .i64 24, .int .i64 0, .int .i64 0, .int .i64 0, .int .i64 0]).q w) (hb31 : (blk b31 147 [.int .i64 0, .int .i64 3, .bool true]).q w) (hb33 : (blk b33 3 [.int .i64 3, .int .i64 (-1)]).q w) (hb39 : (blk b39 49 [.int .i64 0, .int .i64 0, .string ⟨#[109, 97, 105, 110]⟩, .int .i64 0, .slice (some ⟨b5, 0, none⟩) 2 2, .int .i64 0, .bool false, .int .i64 3, .int .i64 4, .slice none 0 0, .slice (some ⟨b10, 0, none⟩) 4 4, .slice (some ⟨b13, 0, none⟩) 2 2, .slice (some ⟨b15, 0, none⟩) 4 4, .int .i64 0, .int .i64 1, .string ⟨#[102]⟩, .int .i64 0, .slice none 0 0, .int .i64 10, .bool true, .int .i64 0, .int .i64 0, .slice none 0 0, .slice (some ⟨b18, 0, none⟩) 1 1, .slice none 0 0, .slice (some ⟨b20, 0, none⟩) 1 1, .int .i64 0, .int .i64 2, .string ⟨#[103]⟩, .int .i64 0, .slice none 0 0, .int .i64 70, .bool false, .int .i64 0, .int .i64 0, .slice none 0 0, .slice (some ⟨b23, 0, none⟩) 1 1, .slice none 0 0, .slice (some ⟨b25, 0, none⟩) 1 1, .int .i64 0, .int .i64 3, .string ⟨#[104]⟩, .int .i64 0, .slice none 0 0, .int .i64 0, .bool false, .int .i64 0, .int .i64 0, .slice none 0 0, .slice (some ⟨b29, 0, none⟩) 2 2, .slice (some ⟨b31, 0, none⟩) 1 1, .slice (some ⟨b33, 0, none⟩) 2 2]).q w) : kApiFun.C w (some ⟨b39, 0, none⟩) twoL :=
  C_blk (kd := kApiFun) hb39 (by decide) ⟨_, _, rfl, kApiFun_mk w two0 (c0 := 2) (c1 := 0) (c2 := 4) (c3 := 2) (c4 := 4) (by decide) (C_blk (kd := Kd.int .i64) hb5 (by decide) (cat_scalar.2 rfl)) (by decide) (Kd.C_nil _ _ _) (by decide) (C_blk (kd := kApiInstr) hb10 (by decide) ⟨_, _, rfl, kApiInstr_mk w ⟨17, 1, 0, 0, 0⟩, ⟨_, _, rfl, kApiInstr_mk w ⟨20, 0, 1, 0, 0⟩, ⟨_, _, rfl, kApiInstr_mk w ⟨21, 0, 0, 0, 0⟩, ⟨_, _, rfl, kApiInstr_mk w ⟨24, 0, 0, 0, 0⟩, rfl⟩⟩⟩⟩) (by decide) (C_blk (kd := kApiReloc) hb13 (by decide) ⟨_, _, rfl, kApiReloc_mk w ⟨0, 1, true⟩, ⟨_, _, rfl, kApiReloc_mk w ⟨2, 2, true⟩, rfl⟩⟩) (by decide) (C_blk (kd := Kd.int .i64) hb15 (by decide) (cat_scalar.2 rfl)), _, _, rfl, kApiFun_mk w two1 (c0 := 0) (c1 := 0) (c2 := 1) (c3 := 0) (c4 := 1) (by decide) (Kd.C_nil _ _ _) (by decide) (Kd.C_nil _ _ _) (by decide) (C_blk (kd := kApiInstr) hb18 (by decide) ⟨_, _, rfl, kApiInstr_mk w ⟨24, 0, 0, 0, 0⟩, rfl⟩) (by decide) (Kd.C_nil _ _ _) (by decide) (C_blk (kd := Kd.int .i64) hb20 (by decide) (cat_scalar.2 rfl)), _, _, rfl, kApiFun_mk w two2 (c0 := 0) (c1 := 0) (c2 := 1) (c3 := 0) (c4 := 1) (by decide) (Kd.C_nil _ _ _) (by decide) (Kd.C_nil _ _ _) (by decide) (C_blk (kd := kApiInstr) hb23 (by decide) ⟨_, _, rfl, kApiInstr_mk w ⟨24, 0, 0, 0, 0⟩, rfl⟩) (by decide) (Kd.C_nil _ _ _) (by decide) (C_blk (kd := Kd.int .i64) hb25 (by decide) (cat_scalar.2 rfl)), _, _, rfl, kApiFun_mk w two3 (c0 := 0) (c1 := 0) (c2 := 2) (c3 := 1) (c4 := 2) (by decide) (Kd.C_nil _ _ _) (by decide) (Kd.C_nil _ _ _) (by decide) (C_blk (kd := kApiInstr) hb29 (by decide) ⟨_, _, rfl, kApiInstr_mk w ⟨19, 0, 0, 0, 0⟩, ⟨_, _, rfl, kApiInstr_mk w ⟨24, 0, 0, 0, 0⟩, rfl⟩⟩) (by decide) (C_blk (kd := kApiReloc) hb31 (by decide) ⟨_, _, rfl, kApiReloc_mk w ⟨0, 3, true⟩, rfl⟩) (by decide) (C_blk (kd := Kd.int .i64) hb33 (by decide) (cat_scalar.2 rfl)), rfl⟩
theorem two_small : SmallP twoP := ⟨by decide, by decide, by decide, by decide⟩
theorem two_K {w : World} {A : Option Addr} {cp : Nat} (h : kApiFun.C w A twoL) (hc : 4 ≤ cp) : kApiProgram.K w twoP [.slice A 4 cp, .slice none 0 0, .int .i64 0] := kApiProgram_mk w twoP (A0 := A) (A1 := none) (c0 := cp) (c1 := 0) hc h (by decide) (Kd.C_nil _ _ _)
set_option maxRecDepth 100000 in
set_option maxHeartbeats 2000000 in
theorem law_Two {B : Base} {w : World} (hS : St B [] w) (W0 : World) :
    CallsIn Fence.wide 0 Tryz.prog 69 #[] w (Ret B (fun _ : Option Addr × (Nat → Prop) => True) (fun z => .agg #[.slice z.1 4 4, .slice none 0 0, .int .i64 0]) (fun z => [rdr W0 z.2 kApiFun z.1 twoL])) := by
  (refine enter Tryz.func69 rfl rfl hS ?_; simp only [List.zipIdx_cons, List.zipIdx_nil, List.map_cons, List.map_nil, Nat.reduceAdd, Nat.zero_add])
  refine wSeq ?_
  refine wRegion' ?_
  refine oAlloc rfl (by repeat constructor) (fun b0 => ?_)
  refine oNil ?_
  refine thn_n ?_
  refine wSeq ?_
  refine wRegion' ?_
  refine oBuildSliceF (Parts.cons rfl (Parts.cons rfl Parts.nil)) rfl rfl rfl rfl rfl (Fulls.cons (by repeat constructor) rfl (Fulls.cons (by repeat constructor) rfl Fulls.nil (by repeat (first | exact AppL.nil | apply AppL.cons))) (by repeat (first | exact AppL.nil | apply AppL.cons))) (fun b5 => ?_)
  refine oBuild (Parts.cons rfl (Parts.cons rfl Parts.nil)) rfl rfl (Built.cons (off := 0) (s := 1) rfl (by repeat constructor) rfl (by repeat constructor) (Built.cons (off := 1) (s := 1) rfl (by repeat constructor) rfl (by repeat constructor) Built.nil)) ?_
  refine oBuild (Parts.cons rfl (Parts.cons rfl Parts.nil)) rfl rfl (Built.cons (off := 0) (s := 1) rfl (by repeat constructor) rfl (by repeat constructor) (Built.cons (off := 2) (s := 1) rfl (by repeat constructor) rfl (by repeat constructor) Built.nil)) ?_
  refine oBuild (Parts.cons rfl Parts.nil) rfl rfl (Built.cons (off := 0) (s := 1) rfl (by repeat constructor) rfl (by repeat constructor) Built.nil) ?_
  refine oBuild (Parts.cons rfl Parts.nil) rfl rfl (Built.cons (off := 0) (s := 1) rfl (by repeat constructor) rfl (by repeat constructor) Built.nil) ?_
  refine oBuildSliceF (Parts.cons rfl (Parts.cons rfl (Parts.cons rfl (Parts.cons rfl Parts.nil)))) rfl rfl rfl rfl rfl (Fulls.cons (by repeat constructor) rfl (Fulls.cons (by repeat constructor) rfl (Fulls.cons (by repeat constructor) rfl (Fulls.cons (by repeat constructor) rfl Fulls.nil (by repeat (first | exact AppL.nil | apply AppL.cons))) (by repeat (first | exact AppL.nil | apply AppL.cons))) (by repeat (first | exact AppL.nil | apply AppL.cons))) (by repeat (first | exact AppL.nil | apply AppL.cons))) (fun b10 => ?_)
  refine oBuild (Parts.cons rfl (Parts.cons rfl (Parts.cons rfl Parts.nil))) rfl rfl (Built.cons (off := 0) (s := 1) rfl (by repeat constructor) rfl (by repeat constructor) (Built.cons (off := 1) (s := 1) rfl (by repeat constructor) rfl (by repeat constructor) (Built.cons (off := 2) (s := 1) rfl (by repeat constructor) rfl (by repeat constructor) Built.nil))) ?_
  refine oBuild (Parts.cons rfl (Parts.cons rfl (Parts.cons rfl Parts.nil))) rfl rfl (Built.cons (off := 0) (s := 1) rfl (by repeat constructor) rfl (by repeat constructor) (Built.cons (off := 1) (s := 1) rfl (by repeat constructor) rfl (by repeat constructor) (Built.cons (off := 2) (s := 1) rfl (by repeat constructor) rfl (by repeat constructor) Built.nil))) ?_
  refine oBuildSliceF (Parts.cons rfl (Parts.cons rfl Parts.nil)) rfl rfl rfl rfl rfl (Fulls.cons (by repeat constructor) rfl (Fulls.cons (by repeat constructor) rfl Fulls.nil (by repeat (first | exact AppL.nil | apply AppL.cons))) (by repeat (first | exact AppL.nil | apply AppL.cons))) (fun b13 => ?_)
  refine oBuild (Parts.cons rfl (Parts.cons rfl (Parts.cons rfl (Parts.cons rfl (Parts.cons rfl Parts.nil))))) rfl rfl (Built.cons (off := 1) (s := 1) rfl (by repeat constructor) rfl (by repeat constructor) (Built.cons (off := 7) (s := 1) rfl (by repeat constructor) rfl (by repeat constructor) (Built.cons (off := 4) (s := 1) rfl (by repeat constructor) rfl (by repeat constructor) (Built.cons (off := 5) (s := 1) rfl (by repeat constructor) rfl (by repeat constructor) (Built.cons (off := 8) (s := 1) rfl (by repeat constructor) rfl (by repeat constructor) Built.nil))))) ?_
  refine oBuildSliceF (Parts.cons rfl (Parts.cons rfl (Parts.cons rfl (Parts.cons rfl Parts.nil)))) rfl rfl rfl rfl rfl (Fulls.cons (by repeat constructor) rfl (Fulls.cons (by repeat constructor) rfl (Fulls.cons (by repeat constructor) rfl (Fulls.cons (by repeat constructor) rfl Fulls.nil (by repeat (first | exact AppL.nil | apply AppL.cons))) (by repeat (first | exact AppL.nil | apply AppL.cons))) (by repeat (first | exact AppL.nil | apply AppL.cons))) (by repeat (first | exact AppL.nil | apply AppL.cons))) (fun b15 => ?_)
  refine oBuild (Parts.cons rfl (Parts.cons rfl (Parts.cons rfl Parts.nil))) rfl rfl (Built.cons (off := 2) (s := 1) rfl (by repeat constructor) rfl (by repeat constructor) (Built.cons (off := 3) (s := 9) rfl (by repeat constructor) rfl (by repeat constructor) (Built.cons (off := 12) (s := 1) rfl (by repeat constructor) rfl (by repeat constructor) Built.nil))) ?_
  refine oAlloc rfl (by repeat constructor) (fun b1 => ?_)
  refine oStA rfl rfl rfl rfl (by repeat constructor) (by rfl) ?_
  refine oNil ?_
  refine thn_n ?_
  refine wSeq ?_
  refine wRegion' ?_
  refine oBuild (Parts.cons rfl Parts.nil) rfl rfl (Built.cons (off := 0) (s := 1) rfl (by repeat constructor) rfl (by repeat constructor) Built.nil) ?_
  refine oBuildSlice1 rfl rfl rfl rfl rfl (by repeat constructor) rfl (fun b18 => ?_)
  refine oBuild (Parts.cons rfl (Parts.cons rfl (Parts.cons rfl Parts.nil))) rfl rfl (Built.cons (off := 3) (s := 1) rfl (by repeat constructor) rfl (by repeat constructor) (Built.cons (off := 2) (s := 1) rfl (by repeat constructor) rfl (by repeat constructor) (Built.cons (off := 7) (s := 1) rfl (by repeat constructor) rfl (by repeat constructor) Built.nil))) ?_
  refine oBuildSlice1 rfl rfl rfl rfl rfl (by repeat constructor) rfl (fun b20 => ?_)
  refine oBuild (Parts.cons rfl (Parts.cons rfl (Parts.cons rfl (Parts.cons rfl Parts.nil)))) rfl rfl (Built.cons (off := 1) (s := 1) rfl (by repeat constructor) rfl (by repeat constructor) (Built.cons (off := 2) (s := 1) rfl (by repeat constructor) rfl (by repeat constructor) (Built.cons (off := 3) (s := 9) rfl (by repeat constructor) rfl (by repeat constructor) (Built.cons (off := 12) (s := 1) rfl (by repeat constructor) rfl (by repeat constructor) Built.nil)))) ?_
  refine oAlloc rfl (by repeat constructor) (fun b2 => ?_)
  refine oStA rfl rfl rfl rfl (by repeat constructor) (by rfl) ?_
  refine oNil ?_
  refine thn_n ?_
  refine wSeq ?_
  refine wRegion' ?_
  refine oBuild (Parts.cons rfl Parts.nil) rfl rfl (Built.cons (off := 0) (s := 1) rfl (by repeat constructor) rfl (by repeat constructor) Built.nil) ?_
  refine oBuildSlice1 rfl rfl rfl rfl rfl (by repeat constructor) rfl (fun b23 => ?_)
  refine oBuild (Parts.cons rfl (Parts.cons rfl Parts.nil)) rfl rfl (Built.cons (off := 2) (s := 1) rfl (by repeat constructor) rfl (by repeat constructor) (Built.cons (off := 7) (s := 1) rfl (by repeat constructor) rfl (by repeat constructor) Built.nil)) ?_
  refine oBuildSlice1 rfl rfl rfl rfl rfl (by repeat constructor) rfl (fun b25 => ?_)
  refine oBuild (Parts.cons rfl (Parts.cons rfl (Parts.cons rfl (Parts.cons rfl Parts.nil)))) rfl rfl (Built.cons (off := 1) (s := 1) rfl (by repeat constructor) rfl (by repeat constructor) (Built.cons (off := 2) (s := 1) rfl (by repeat constructor) rfl (by repeat constructor) (Built.cons (off := 3) (s := 9) rfl (by repeat constructor) rfl (by repeat constructor) (Built.cons (off := 12) (s := 1) rfl (by repeat constructor) rfl (by repeat constructor) Built.nil)))) ?_
  refine oAlloc rfl (by repeat constructor) (fun b3 => ?_)
  refine oStA rfl rfl rfl rfl (by repeat constructor) (by rfl) ?_
  refine oNil ?_
  refine thn_n ?_
  refine wSeq ?_
  refine wRegion' ?_
  refine oBuild (Parts.cons rfl Parts.nil) rfl rfl (Built.cons (off := 0) (s := 1) rfl (by repeat constructor) rfl (by repeat constructor) Built.nil) ?_
  refine oBuild (Parts.cons rfl Parts.nil) rfl rfl (Built.cons (off := 0) (s := 1) rfl (by repeat constructor) rfl (by repeat constructor) Built.nil) ?_
  refine oBuildSliceF (Parts.cons rfl (Parts.cons rfl Parts.nil)) rfl rfl rfl rfl rfl (Fulls.cons (by repeat constructor) rfl (Fulls.cons (by repeat constructor) rfl Fulls.nil (by repeat (first | exact AppL.nil | apply AppL.cons))) (by repeat (first | exact AppL.nil | apply AppL.cons))) (fun b29 => ?_)
  refine oBuild (Parts.cons rfl (Parts.cons rfl (Parts.cons rfl Parts.nil))) rfl rfl (Built.cons (off := 0) (s := 1) rfl (by repeat constructor) rfl (by repeat constructor) (Built.cons (off := 1) (s := 1) rfl (by repeat constructor) rfl (by repeat constructor) (Built.cons (off := 2) (s := 1) rfl (by repeat constructor) rfl (by repeat constructor) Built.nil))) ?_
  refine oBuildSlice1 rfl rfl rfl rfl rfl (by repeat constructor) rfl (fun b31 => ?_)
  refine oBuild (Parts.cons rfl (Parts.cons rfl Parts.nil)) rfl rfl (Built.cons (off := 7) (s := 1) rfl (by repeat constructor) rfl (by repeat constructor) (Built.cons (off := 8) (s := 1) rfl (by repeat constructor) rfl (by repeat constructor) Built.nil)) ?_
  refine oBuildSliceF (Parts.cons rfl (Parts.cons rfl Parts.nil)) rfl rfl rfl rfl rfl (Fulls.cons (by repeat constructor) rfl (Fulls.cons (by repeat constructor) rfl Fulls.nil (by repeat (first | exact AppL.nil | apply AppL.cons))) (by repeat (first | exact AppL.nil | apply AppL.cons))) (fun b33 => ?_)
  refine oBuild (Parts.cons rfl (Parts.cons rfl (Parts.cons rfl (Parts.cons rfl Parts.nil)))) rfl rfl (Built.cons (off := 1) (s := 1) rfl (by repeat constructor) rfl (by repeat constructor) (Built.cons (off := 2) (s := 1) rfl (by repeat constructor) rfl (by repeat constructor) (Built.cons (off := 3) (s := 9) rfl (by repeat constructor) rfl (by repeat constructor) (Built.cons (off := 12) (s := 1) rfl (by repeat constructor) rfl (by repeat constructor) Built.nil)))) ?_
  refine oAlloc rfl (by repeat constructor) (fun b4 => ?_)
  refine oStA rfl rfl rfl rfl (by repeat constructor) (by rfl) ?_
  refine oNil ?_
  refine thn_n ?_
  refine wSeq ?_
  refine wRegion' ?_
  refine oLdA rfl (by repeat constructor) rfl (by repeat constructor) ?_
  refine oLdA rfl (by repeat constructor) rfl (by repeat constructor) ?_
  refine oLdA rfl (by repeat constructor) rfl (by repeat constructor) ?_
  refine oLdA rfl (by repeat constructor) rfl (by repeat constructor) ?_
  refine oBuildSliceF (Parts.cons rfl (Parts.cons rfl (Parts.cons rfl (Parts.cons rfl Parts.nil)))) rfl rfl rfl rfl rfl (Fulls.cons (by repeat constructor) rfl (Fulls.cons (by repeat constructor) rfl (Fulls.cons (by repeat constructor) rfl (Fulls.cons (by repeat constructor) rfl Fulls.nil (by repeat (first | exact AppL.nil | apply AppL.cons))) (by repeat (first | exact AppL.nil | apply AppL.cons))) (by repeat (first | exact AppL.nil | apply AppL.cons))) (by repeat (first | exact AppL.nil | apply AppL.cons))) (fun b39 => ?_)
  refine oBuild (Parts.cons rfl Parts.nil) rfl rfl (Built.cons (off := 0) (s := 1) rfl (by repeat constructor) rfl (by repeat constructor) Built.nil) ?_
  refine oSeal (W := W0) (kd := kApiFun) (A := some ⟨b39, 0, none⟩) (xs := twoL) [blk b5 3 [.int .i64 0, .int .i64 1], blk b10 51 [.int .i64 17, .int .i64 1, .int .i64 0, .int .i64 0, .int .i64 0, .int .i64 20, .int .i64 0, .int .i64 1, .int .i64 0, .int .i64 0, .int .i64 21, .int .i64 0, .int .i64 0, .int .i64 0, .int .i64 0, .int .i64 24, .int .i64 0, .int .i64 0, .int .i64 0, .int .i64 0], blk b13 147 [.int .i64 0, .int .i64 1, .bool true, .int .i64 2, .int .i64 2, .bool true], blk b15 3 [.int .i64 1, .int .i64 (-1), .int .i64 2, .int .i64 (-1)], blk b18 51 [.int .i64 24, .int .i64 0, .int .i64 0, .int .i64 0, .int .i64 0], blk b20 3 [.int .i64 (-1)], blk b23 51 [.int .i64 24, .int .i64 0, .int .i64 0, .int .i64 0, .int .i64 0], blk b25 3 [.int .i64 (-1)], blk b29 51 [.int .i64 19, .int .i64 0, .int .i64 0, .int .i64 0, .int .i64 0, .int .i64 24, .int .i64 0, .int .i64 0, .int .i64 0, .int .i64 0], blk b31 147 [.int .i64 0, .int .i64 3, .bool true], blk b33 3 [.int .i64 3, .int .i64 (-1)], blk b39 49 [.int .i64 0, .int .i64 0, .string ⟨#[109, 97, 105, 110]⟩, .int .i64 0, .slice (some ⟨b5, 0, none⟩) 2 2, .int .i64 0, .bool false, .int .i64 3, .int .i64 4, .slice none 0 0, .slice (some ⟨b10, 0, none⟩) 4 4, .slice (some ⟨b13, 0, none⟩) 2 2, .slice (some ⟨b15, 0, none⟩) 4 4, .int .i64 0, .int .i64 1, .string ⟨#[102]⟩, .int .i64 0, .slice none 0 0, .int .i64 10, .bool true, .int .i64 0, .int .i64 0, .slice none 0 0, .slice (some ⟨b18, 0, none⟩) 1 1, .slice none 0 0, .slice (some ⟨b20, 0, none⟩) 1 1, .int .i64 0, .int .i64 2, .string ⟨#[103]⟩, .int .i64 0, .slice none 0 0, .int .i64 70, .bool false, .int .i64 0, .int .i64 0, .slice none 0 0, .slice (some ⟨b23, 0, none⟩) 1 1, .slice none 0 0, .slice (some ⟨b25, 0, none⟩) 1 1, .int .i64 0, .int .i64 3, .string ⟨#[104]⟩, .int .i64 0, .slice none 0 0, .int .i64 0, .bool false, .int .i64 0, .int .i64 0, .slice none 0 0, .slice (some ⟨b29, 0, none⟩) 2 2, .slice (some ⟨b31, 0, none⟩) 1 1, .slice (some ⟨b33, 0, none⟩) 2 2]] (by repeat' constructor) (fun w hq _ => two_C (b5 := b5) (b10 := b10) (b13 := b13) (b15 := b15) (b18 := b18) (b20 := b20) (b23 := b23) (b25 := b25) (b29 := b29) (b31 := b31) (b33 := b33) (b39 := b39) (hq _ _ (by repeat constructor)) (hq _ _ (by repeat constructor)) (hq _ _ (by repeat constructor)) (hq _ _ (by repeat constructor)) (hq _ _ (by repeat constructor)) (hq _ _ (by repeat constructor)) (hq _ _ (by repeat constructor)) (hq _ _ (by repeat constructor)) (hq _ _ (by repeat constructor)) (hq _ _ (by repeat constructor)) (hq _ _ (by repeat constructor)) (hq _ _ (by repeat constructor))) (fun S => ?_)
  refine oStA rfl rfl rfl rfl (by repeat constructor) (by rfl) ?_
  refine oNil ?_
  refine thn_n ?_
  refine wRet ?_
  refine fin_r ?_
  refine ⟨rfl, _, (ResL.cons (by first | exact ResR.cell rfl (by repeat constructor) rfl | exact ResR.agg rfl (by repeat constructor) rfl rfl) ResL.nil), ?_⟩
  exact ⟨(some ⟨b39, 0, none⟩, S), trivial, rfl, (Leads.has (by repeat' constructor))⟩
theorem lit_1 {w : World} {b : Nat} {x : Int} (h : (blk b 3 [.int .i64 x]).q w) : (Kd.int .i64).C w (some ⟨b, 0, none⟩) [x] := C_blk (kd := Kd.int .i64) h (by simp) (cat_scalar.2 rfl)
theorem lit_2 {w : World} {b : Nat} {x y : Int} (h : (blk b 3 [.int .i64 x, .int .i64 y]).q w) : (Kd.int .i64).C w (some ⟨b, 0, none⟩) [x, y] := C_blk (kd := Kd.int .i64) h (by simp) (cat_scalar.2 rfl)
theorem lit_G {w : World} {b : Nat} {A0 A1 A2 A3 : Option Addr} {x0 x1 x2 x3 : List Int} {n0 n1 n2 n3 c0 c1 c2 c3 : Nat} (h : (blk b 42 [.slice A0 n0 c0, .slice A1 n1 c1, .slice A2 n2 c2, .slice A3 n3 c3]).q w) (e0 : n0 = x0.length) (e1 : n1 = x1.length) (e2 : n2 = x2.length) (e3 : n3 = x3.length) (k0 : x0.length ≤ c0) (k1 : x1.length ≤ c1) (k2 : x2.length ≤ c2) (k3 : x3.length ≤ c3) (h0 : (Kd.int .i64).C w A0 x0) (h1 : (Kd.int .i64).C w A1 x1) (h2 : (Kd.int .i64).C w A2 x2) (h3 : (Kd.int .i64).C w A3 x3) :
    (Kd.slice (Kd.int .i64)).C w (some ⟨b, 0, none⟩) [x0, x1, x2, x3] := by
  subst e0 e1 e2 e3
  exact C_blk (kd := Kd.slice (Kd.int .i64)) h (by simp) ⟨_, _, rfl, ⟨A0, c0, rfl, k0, h0⟩, _, _, rfl, ⟨A1, c1, rfl, k1, h1⟩, _, _, rfl, ⟨A2, c2, rfl, k2, h2⟩, _, _, rfl, ⟨A3, c3, rfl, k3, h3⟩, rfl⟩
theorem two_D : twoP.fFuns.map (directF twoP) = [[2], [], [], [3]] := by decide
theorem two_V : twoP.fFuns.map (valuesF twoP) = [[1], [], [], []] := by decide
theorem two_R : twoP.fFuns.map (refersF twoP) = [[1, 2], [], [], [3]] := by decide
theorem two_I : twoP.fFuns.map viasF = [[0], [], [], []] := by decide
theorem two_T : twoP.fFuns.map (datasF twoP) = [[], [], [], []] := by decide
set_option maxRecDepth 100000 in
set_option maxHeartbeats 2000000 in
theorem known25 {B : Base} {w : World} (hS : St B [] w) :
    CallsIn Fence.wide 0 Tryz.prog 16 #[] w (Ret B (fun _ : Unit => True) (fun _ => .bool true) (fun _ => [])) := by
  (refine enter Tryz.func16 rfl rfl hS ?_; simp only [List.zipIdx_cons, List.zipIdx_nil, List.map_cons, List.map_nil, Nat.reduceAdd, Nat.zero_add])
  refine wSeq ?_
  refine wRegion' ?_
  refine oAssign rfl ?_
  refine oNil ?_
  refine thn_n ?_
  refine wSeq ?_
  refine wRegion' ?_
  (refine oCall rfl (by kernel_rfl) (fun w hS => frame hS (by repeat' constructor) (fun B' hB hS' => law_Two hS' B.e)) ?_; rintro ⟨A2, S2⟩ -)
  refine oAlloc rfl (by repeat constructor) (fun b1 => ?_)
  refine oStA rfl rfl rfl rfl (by repeat constructor) (by rfl) ?_
  refine oNil ?_
  refine thn_n ?_
  refine wSeq ?_
  refine wRegion' ?_
  refine oLdA rfl (by repeat constructor) rfl (by repeat constructor) ?_
  (refine oCall rfl (by kernel_rfl) (fun w hS => frame' hS .nil (fun B' hB hR hS' => prog_Direct hS' twoP _ (two_K (A := A2) (rdr_C (hR _ _ (by repeat constructor)) hB) (by decide)) two_small B.e)) ?_; rintro ⟨A4, c4, hs4⟩ hl4)
  rw [two_D]
  refine oBuildSlice1 rfl rfl rfl rfl rfl (by repeat constructor) rfl (fun b5 => ?_)
  refine oBuildSlice1 rfl rfl rfl rfl rfl (by repeat constructor) rfl (fun b6 => ?_)
  refine oBuildSliceF (Parts.cons rfl (Parts.cons rfl (Parts.cons rfl (Parts.cons rfl Parts.nil)))) rfl rfl rfl rfl rfl (Fulls.cons (by repeat constructor) rfl (Fulls.cons (by repeat constructor) rfl (Fulls.cons (by repeat constructor) rfl (Fulls.cons (by repeat constructor) rfl Fulls.nil (by repeat (first | exact AppL.nil | apply AppL.cons))) (by repeat (first | exact AppL.nil | apply AppL.cons))) (by repeat (first | exact AppL.nil | apply AppL.cons))) (by repeat (first | exact AppL.nil | apply AppL.cons))) (fun b7 => ?_)
  (refine oCall rfl (by kernel_rfl) (fun w hS => frame' hS .nil (fun B' hB hR hS' => ref10_Same hS' [[2], [], [], [3]] A4 c4 (grid_C (kd := Kd.int .i64) (W := B.e) (ei := 3) (eo := 42) (W0 := B.e) (n := 4) (cp := c4) (hs := hs4) (A := A4) (xss := [[2], [], [], [3]]) (hR _ _ (by repeat constructor)) (hR _ _ (by repeat constructor)) hl4 hB) (some ⟨b7, 0, none⟩) 4 (lit_G (b := b7) (A0 := some ⟨b5, 0, none⟩) (n0 := 1) (c0 := 1) (A1 := none) (n1 := 0) (c1 := 0) (A2 := none) (n2 := 0) (c2 := 0) (A3 := some ⟨b6, 0, none⟩) (n3 := 1) (c3 := 1) (hR _ _ (by repeat constructor)) rfl rfl rfl rfl (by decide) (by decide) (by decide) (by decide) (lit_1 (b := b5) (hR _ _ (by repeat constructor))) (Kd.C_nil _ _ _) (Kd.C_nil _ _ _) (lit_1 (b := b6) (hR _ _ (by repeat constructor)))))) ?_; rintro ⟨⟩ -)
  refine oMove rfl ?_
  refine oWant rfl rfl ?_
  refine oLdA rfl (by repeat constructor) rfl (by repeat constructor) ?_
  refine oWant rfl rfl ?_
  (refine oCall rfl (by kernel_rfl) (fun w hS => frame' hS .nil (fun B' hB hR hS' => prog_Values hS' twoP _ (two_K (A := A2) (rdr_C (hR _ _ (by repeat constructor)) hB) (by decide)) two_small B.e)) ?_; rintro ⟨A11, c11, hs11⟩ hl11)
  rw [two_V]
  refine oWant rfl rfl ?_
  refine oBuildSlice1 rfl rfl rfl rfl rfl (by repeat constructor) rfl (fun b12 => ?_)
  refine oWant rfl rfl ?_
  refine oBuildSliceF (Parts.cons rfl (Parts.cons rfl (Parts.cons rfl (Parts.cons rfl Parts.nil)))) rfl rfl rfl rfl rfl (Fulls.cons (by repeat constructor) rfl (Fulls.cons (by repeat constructor) rfl (Fulls.cons (by repeat constructor) rfl (Fulls.cons (by repeat constructor) rfl Fulls.nil (by repeat (first | exact AppL.nil | apply AppL.cons))) (by repeat (first | exact AppL.nil | apply AppL.cons))) (by repeat (first | exact AppL.nil | apply AppL.cons))) (by repeat (first | exact AppL.nil | apply AppL.cons))) (fun b13 => ?_)
  refine oWant rfl rfl ?_
  (refine oCall rfl (by kernel_rfl) (fun w hS => frame' hS .nil (fun B' hB hR hS' => ref10_Same hS' [[1], [], [], []] A11 c11 (grid_C (kd := Kd.int .i64) (W := B.e) (ei := 3) (eo := 42) (W0 := B.e) (n := 4) (cp := c11) (hs := hs11) (A := A11) (xss := [[1], [], [], []]) (hR _ _ (by repeat constructor)) (hR _ _ (by repeat constructor)) hl11 hB) (some ⟨b13, 0, none⟩) 4 (lit_G (b := b13) (A0 := some ⟨b12, 0, none⟩) (n0 := 1) (c0 := 1) (A1 := none) (n1 := 0) (c1 := 0) (A2 := none) (n2 := 0) (c2 := 0) (A3 := none) (n3 := 0) (c3 := 0) (hR _ _ (by repeat constructor)) rfl rfl rfl rfl (by decide) (by decide) (by decide) (by decide) (lit_1 (b := b12) (hR _ _ (by repeat constructor))) (Kd.C_nil _ _ _) (Kd.C_nil _ _ _) (Kd.C_nil _ _ _)))) ?_; rintro ⟨⟩ -)
  refine oPickT rfl rfl ?_
  refine oMove rfl ?_
  refine oWant rfl rfl ?_
  refine oLdA rfl (by repeat constructor) rfl (by repeat constructor) ?_
  refine oWant rfl rfl ?_
  (refine oCall rfl (by kernel_rfl) (fun w hS => frame' hS .nil (fun B' hB hR hS' => prog_Refers hS' twoP _ (two_K (A := A2) (rdr_C (hR _ _ (by repeat constructor)) hB) (by decide)) two_small B.e)) ?_; rintro ⟨A18, c18, hs18⟩ hl18)
  rw [two_R]
  refine oWant rfl rfl ?_
  refine oBuildSliceF (Parts.cons rfl (Parts.cons rfl Parts.nil)) rfl rfl rfl rfl rfl (Fulls.cons (by repeat constructor) rfl (Fulls.cons (by repeat constructor) rfl Fulls.nil (by repeat (first | exact AppL.nil | apply AppL.cons))) (by repeat (first | exact AppL.nil | apply AppL.cons))) (fun b19 => ?_)
  refine oWant rfl rfl ?_
  refine oBuildSlice1 rfl rfl rfl rfl rfl (by repeat constructor) rfl (fun b20 => ?_)
  refine oWant rfl rfl ?_
  refine oBuildSliceF (Parts.cons rfl (Parts.cons rfl (Parts.cons rfl (Parts.cons rfl Parts.nil)))) rfl rfl rfl rfl rfl (Fulls.cons (by repeat constructor) rfl (Fulls.cons (by repeat constructor) rfl (Fulls.cons (by repeat constructor) rfl (Fulls.cons (by repeat constructor) rfl Fulls.nil (by repeat (first | exact AppL.nil | apply AppL.cons))) (by repeat (first | exact AppL.nil | apply AppL.cons))) (by repeat (first | exact AppL.nil | apply AppL.cons))) (by repeat (first | exact AppL.nil | apply AppL.cons))) (fun b21 => ?_)
  refine oWant rfl rfl ?_
  (refine oCall rfl (by kernel_rfl) (fun w hS => frame' hS .nil (fun B' hB hR hS' => ref10_Same hS' [[1, 2], [], [], [3]] A18 c18 (grid_C (kd := Kd.int .i64) (W := B.e) (ei := 3) (eo := 42) (W0 := B.e) (n := 4) (cp := c18) (hs := hs18) (A := A18) (xss := [[1, 2], [], [], [3]]) (hR _ _ (by repeat constructor)) (hR _ _ (by repeat constructor)) hl18 hB) (some ⟨b21, 0, none⟩) 4 (lit_G (b := b21) (A0 := some ⟨b19, 0, none⟩) (n0 := 2) (c0 := 2) (A1 := none) (n1 := 0) (c1 := 0) (A2 := none) (n2 := 0) (c2 := 0) (A3 := some ⟨b20, 0, none⟩) (n3 := 1) (c3 := 1) (hR _ _ (by repeat constructor)) rfl rfl rfl rfl (by decide) (by decide) (by decide) (by decide) (lit_2 (b := b19) (hR _ _ (by repeat constructor))) (Kd.C_nil _ _ _) (Kd.C_nil _ _ _) (lit_1 (b := b20) (hR _ _ (by repeat constructor)))))) ?_; rintro ⟨⟩ -)
  refine oPickT rfl rfl ?_
  refine oMove rfl ?_
  refine oWant rfl rfl ?_
  refine oLdA rfl (by repeat constructor) rfl (by repeat constructor) ?_
  refine oWant rfl rfl ?_
  (refine oCall rfl (by kernel_rfl) (fun w hS => frame' hS .nil (fun B' hB hR hS' => prog_Vias hS' twoP _ (two_K (A := A2) (rdr_C (hR _ _ (by repeat constructor)) hB) (by decide)) two_small B.e)) ?_; rintro ⟨A26, c26, hs26⟩ hl26)
  rw [two_I]
  refine oWant rfl rfl ?_
  refine oBuildSlice1 rfl rfl rfl rfl rfl (by repeat constructor) rfl (fun b27 => ?_)
  refine oWant rfl rfl ?_
  refine oBuildSliceF (Parts.cons rfl (Parts.cons rfl (Parts.cons rfl (Parts.cons rfl Parts.nil)))) rfl rfl rfl rfl rfl (Fulls.cons (by repeat constructor) rfl (Fulls.cons (by repeat constructor) rfl (Fulls.cons (by repeat constructor) rfl (Fulls.cons (by repeat constructor) rfl Fulls.nil (by repeat (first | exact AppL.nil | apply AppL.cons))) (by repeat (first | exact AppL.nil | apply AppL.cons))) (by repeat (first | exact AppL.nil | apply AppL.cons))) (by repeat (first | exact AppL.nil | apply AppL.cons))) (fun b28 => ?_)
  refine oWant rfl rfl ?_
  (refine oCall rfl (by kernel_rfl) (fun w hS => frame' hS .nil (fun B' hB hR hS' => ref10_Same hS' [[0], [], [], []] A26 c26 (grid_C (kd := Kd.int .i64) (W := B.e) (ei := 3) (eo := 42) (W0 := B.e) (n := 4) (cp := c26) (hs := hs26) (A := A26) (xss := [[0], [], [], []]) (hR _ _ (by repeat constructor)) (hR _ _ (by repeat constructor)) hl26 hB) (some ⟨b28, 0, none⟩) 4 (lit_G (b := b28) (A0 := some ⟨b27, 0, none⟩) (n0 := 1) (c0 := 1) (A1 := none) (n1 := 0) (c1 := 0) (A2 := none) (n2 := 0) (c2 := 0) (A3 := none) (n3 := 0) (c3 := 0) (hR _ _ (by repeat constructor)) rfl rfl rfl rfl (by decide) (by decide) (by decide) (by decide) (lit_1 (b := b27) (hR _ _ (by repeat constructor))) (Kd.C_nil _ _ _) (Kd.C_nil _ _ _) (Kd.C_nil _ _ _)))) ?_; rintro ⟨⟩ -)
  refine oPickT rfl rfl ?_
  refine oMove rfl ?_
  refine oWant rfl rfl ?_
  refine oLdA rfl (by repeat constructor) rfl (by repeat constructor) ?_
  refine oWant rfl rfl ?_
  (refine oCall rfl (by kernel_rfl) (fun w hS => frame' hS .nil (fun B' hB hR hS' => prog_Datas hS' twoP _ (two_K (A := A2) (rdr_C (hR _ _ (by repeat constructor)) hB) (by decide)) two_small B.e)) ?_; rintro ⟨A33, c33, hs33⟩ hl33)
  rw [two_T]
  refine oWant rfl rfl ?_
  refine oBuildSliceF (Parts.cons rfl (Parts.cons rfl (Parts.cons rfl (Parts.cons rfl Parts.nil)))) rfl rfl rfl rfl rfl (Fulls.cons (by repeat constructor) rfl (Fulls.cons (by repeat constructor) rfl (Fulls.cons (by repeat constructor) rfl (Fulls.cons (by repeat constructor) rfl Fulls.nil (by repeat (first | exact AppL.nil | apply AppL.cons))) (by repeat (first | exact AppL.nil | apply AppL.cons))) (by repeat (first | exact AppL.nil | apply AppL.cons))) (by repeat (first | exact AppL.nil | apply AppL.cons))) (fun b34 => ?_)
  refine oWant rfl rfl ?_
  (refine oCall rfl (by kernel_rfl) (fun w hS => frame' hS .nil (fun B' hB hR hS' => ref10_Same hS' [[], [], [], []] A33 c33 (grid_C (kd := Kd.int .i64) (W := B.e) (ei := 3) (eo := 42) (W0 := B.e) (n := 4) (cp := c33) (hs := hs33) (A := A33) (xss := [[], [], [], []]) (hR _ _ (by repeat constructor)) (hR _ _ (by repeat constructor)) hl33 hB) (some ⟨b34, 0, none⟩) 4 (lit_G (b := b34) (A0 := none) (n0 := 0) (c0 := 0) (A1 := none) (n1 := 0) (c1 := 0) (A2 := none) (n2 := 0) (c2 := 0) (A3 := none) (n3 := 0) (c3 := 0) (hR _ _ (by repeat constructor)) rfl rfl rfl rfl (by decide) (by decide) (by decide) (by decide) (Kd.C_nil _ _ _) (Kd.C_nil _ _ _) (Kd.C_nil _ _ _) (Kd.C_nil _ _ _)))) ?_; rintro ⟨⟩ -)
  refine oPickT rfl rfl ?_
  refine oAssign rfl ?_
  refine oNil ?_
  refine thn_n ?_
  refine wRet ?_
  refine fin_r ?_
  refine ⟨rfl, _, (ResL.cons (ResR.tmp rfl) ResL.nil), ?_⟩
  exact ⟨(), trivial, rfl, (Leads.has (by repeat' constructor))⟩
end Go.Proofs.YtogaiijhicfoaaaGreatU
