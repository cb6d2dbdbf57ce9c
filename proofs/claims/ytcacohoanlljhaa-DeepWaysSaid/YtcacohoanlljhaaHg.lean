import Derived.Test.YtcacohoanlljhaaHf

/-
  sheerleglaw12: known, DeepTells.
-/
namespace Go.Proofs.YtcacohoanlljhaaG
set_option linter.unusedVariables false
set_option linter.unusedSimpArgs false
open Go.RowKit Go.Proofs.YtcacohoanlljhaaK Go.Proofs.YtcacohoanlljhaaT Go.Proofs.YtcacohoanlljhaaL

def kd0 : Graph := [[1, 2], [], []]
def kd1 : Graph := [[0]]
theorem small_kd0 : SmallG kd0 := by unfold SmallG; decide
theorem small_kd1 : SmallG kd1 := by unfold SmallG; decide
theorem ok_kd0 : okO kd0 [true, true] = true := by decide
theorem ok_kd1 : okO kd1 [true] = false := by decide
theorem dl_kd0 : DLo kd0 [true, true] [3, 4] 1 1 = [8, 4, 1] := by decide
theorem ws_kd0 : wsL kd0 [true, true] [3, 4] 1 1 0 = [0, 1] := by
  show wsL kd0 [true, true] [3, 4] 1 1 ((0 : Nat) : Int) = [0, 1]
  rw [wsL_yes (k := 0) ok_kd0 (by decide), show DL kd0 [true, true] [3, 4] 1 1 = [8, 4, 1] from by rw [← dl_kd0, DLo_ok ok_kd0]]
  rw [show kd0.length + 1 = 3 + 1 from rfl, wy_go (c := 1) (by decide) (by rw [← bTo_all]; decide), wy_stop (.inr (by rw [← bTo_all]; decide))]
  rfl
theorem C_kd0 {w : World} {b1 b3 : Nat} (h1 : (blk b1 3 [.int .i64 1, .int .i64 2]).q w) (h3 : (blk b3 24 [.slice (some ⟨b1, 0, none⟩) 2 2, .slice none 0 0, .slice none 0 0]).q w) : kII.C w (some ⟨b3, 0, none⟩) kd0 :=
  C_blk h3 (by decide) (Cat.app (Cat.one (int_K (l := [1, 2]) (C_ints h1 rfl (by decide)) rfl (by decide))) (Cat.app (Cat.one (int_K (l := []) (Kd.C_nil _ _ _) rfl (by decide))) (Cat.one (int_K (l := []) (Kd.C_nil _ _ _) rfl (by decide)))))
theorem C_kd1 {w : World} {b1 b3 : Nat} (h1 : (blk b1 3 [.int .i64 0]).q w) (h3 : (blk b3 24 [.slice (some ⟨b1, 0, none⟩) 1 1]).q w) : kII.C w (some ⟨b3, 0, none⟩) kd1 :=
  C_blk h3 (by decide) (Cat.one (int_K (l := [0]) (C_ints h1 rfl (by decide)) rfl (by decide)))
set_option maxRecDepth 100000 in
set_option maxHeartbeats 1000000 in
theorem known12 {B : Base} {w : World} (hS : St B [] w) :
    CallsIn Fence.wide 0 Try.prog 9 #[] w (Ret B (fun _ : Unit => True) (fun _ => .bool true) (fun _ => [])) := by
  (refine enter Try.func9 rfl rfl hS ?_; simp only [List.zipIdx_cons, List.zipIdx_nil, List.map_cons, List.map_nil, Nat.reduceAdd, Nat.zero_add])
  refine wSeq ?_
  refine wRegion' ?_
  refine oAssign rfl ?_
  refine oNil ?_
  refine thn_n ?_
  refine wSeq ?_
  refine wRegion' ?_
  refine oBuildSliceF (Parts.cons rfl (Parts.cons rfl Parts.nil)) rfl rfl rfl rfl rfl (Fulls.cons (by first | exact CellsOf.agg | exact CellsOf.one rfl) rfl (Fulls.cons (by first | exact CellsOf.agg | exact CellsOf.one rfl) rfl Fulls.nil (by repeat (first | exact AppL.nil | apply AppL.cons))) (by repeat (first | exact AppL.nil | apply AppL.cons))) (fun b6 => ?_)
  refine oBuildSliceF (Parts.cons rfl (Parts.cons rfl (Parts.cons rfl Parts.nil))) rfl rfl rfl rfl rfl (Fulls.cons (by first | exact CellsOf.agg | exact CellsOf.one rfl) rfl (Fulls.cons (by first | exact CellsOf.agg | exact CellsOf.one rfl) rfl (Fulls.cons (by first | exact CellsOf.agg | exact CellsOf.one rfl) rfl Fulls.nil (by repeat (first | exact AppL.nil | apply AppL.cons))) (by repeat (first | exact AppL.nil | apply AppL.cons))) (by repeat (first | exact AppL.nil | apply AppL.cons))) (fun b7 => ?_)
  refine oAssign rfl ?_
  refine oNil ?_
  refine thn_n ?_
  refine wSeq ?_
  refine wRegion' ?_
  refine oMove rfl ?_
  refine oBuildSliceF (Parts.cons rfl (Parts.cons rfl Parts.nil)) rfl rfl rfl rfl rfl (Fulls.cons (by first | exact CellsOf.agg | exact CellsOf.one rfl) rfl (Fulls.cons (by first | exact CellsOf.agg | exact CellsOf.one rfl) rfl Fulls.nil (by repeat (first | exact AppL.nil | apply AppL.cons))) (by repeat (first | exact AppL.nil | apply AppL.cons))) (fun b10 => ?_)
  refine oBuildSliceF (Parts.cons rfl (Parts.cons rfl Parts.nil)) rfl rfl rfl rfl rfl (Fulls.cons (by first | exact CellsOf.agg | exact CellsOf.one rfl) rfl (Fulls.cons (by first | exact CellsOf.agg | exact CellsOf.one rfl) rfl Fulls.nil (by repeat (first | exact AppL.nil | apply AppL.cons))) (by repeat (first | exact AppL.nil | apply AppL.cons))) (fun b11 => ?_)
  (refine oCall rfl (by kernel_rfl) (fun w hS => frame' hS .nil (fun B' hB hR hS' => depthsP hS' kd0 (some ⟨b7, 0, none⟩) 3 (C_kd0 (b1 := b6) (hR _ _ (by repeat (first | exact Pick.here | apply Pick.there))) (hR _ _ (by repeat (first | exact Pick.here | apply Pick.there)))) small_kd0 [true, true] (some ⟨b10, 0, none⟩) 2 (C_bools (hR _ _ (by repeat (first | exact Pick.here | apply Pick.there))) rfl (by decide)) (by decide) [3, 4] (some ⟨b11, 0, none⟩) 2 (C_ints (hR _ _ (by repeat (first | exact Pick.here | apply Pick.there))) rfl (by decide)) 1 1 B.e)) ?_; rintro ⟨A12, c12⟩ -)
  rw [dl_kd0, ok_kd0]; try dsimp only
  refine oMove rfl ?_
  refine oExt rfl (by repeat (first | exact GetAt.here | apply GetAt.there)) ?_
  refine oExt rfl (by repeat (first | exact GetAt.here | apply GetAt.there)) ?_
  refine oAssign rfl ?_
  refine oAssign rfl ?_
  refine oNil ?_
  refine thn_n ?_
  refine wSeq ?_
  refine wRegion' ?_
  refine oBuildSlice1 rfl rfl rfl rfl rfl (by first | exact CellsOf.agg | exact CellsOf.one rfl) rfl (fun b16 => ?_)
  refine oBuildSlice1 rfl rfl rfl rfl rfl (by first | exact CellsOf.agg | exact CellsOf.one rfl) rfl (fun b17 => ?_)
  refine oBuildSlice1 rfl rfl rfl rfl rfl (by first | exact CellsOf.agg | exact CellsOf.one rfl) rfl (fun b18 => ?_)
  (refine oCall rfl (by kernel_rfl) (fun w hS => frame' hS .nil (fun B' hB hR hS' => depthsP hS' kd1 (some ⟨b17, 0, none⟩) 1 (C_kd1 (b1 := b16) (hR _ _ (by repeat (first | exact Pick.here | apply Pick.there))) (hR _ _ (by repeat (first | exact Pick.here | apply Pick.there)))) small_kd1 [true] (some ⟨b18, 0, none⟩) 1 (C_bools (hR _ _ (by repeat (first | exact Pick.here | apply Pick.there))) rfl (by decide)) (by decide) [] none 0 (Kd.C_nil _ _ _) 0 0 B.e)) ?_; rintro ⟨A19, c19⟩ -)
  rw [ok_kd1]; try dsimp only
  refine oMove rfl ?_
  refine oExt rfl (by repeat (first | exact GetAt.here | apply GetAt.there)) ?_
  refine oExt rfl (by repeat (first | exact GetAt.here | apply GetAt.there)) ?_
  refine oAssign rfl ?_
  refine oAssign rfl ?_
  refine oNil ?_
  refine thn_n ?_
  refine wSeq ?_
  refine wRegion' ?_
  refine oMove rfl ?_
  refine oBuildSliceF (Parts.cons rfl (Parts.cons rfl (Parts.cons rfl Parts.nil))) rfl rfl rfl rfl rfl (Fulls.cons (by first | exact CellsOf.agg | exact CellsOf.one rfl) rfl (Fulls.cons (by first | exact CellsOf.agg | exact CellsOf.one rfl) rfl (Fulls.cons (by first | exact CellsOf.agg | exact CellsOf.one rfl) rfl Fulls.nil (by repeat (first | exact AppL.nil | apply AppL.cons))) (by repeat (first | exact AppL.nil | apply AppL.cons))) (by repeat (first | exact AppL.nil | apply AppL.cons))) (fun b23 => ?_)
  (refine oCall rfl (by kernel_rfl) (fun w hS => frame' hS .nil (fun B' hB hR hS' => ints_any hS' A12 c12 [8, 4, 1] (row_Cs (hR _ _ (by repeat (first | exact Pick.here | apply Pick.there)))) (some ⟨b23, 0, none⟩) 3 [8, 4, 1] (C_ints (hR _ _ (by repeat (first | exact Pick.here | apply Pick.there))) rfl (by decide)))) ?_; rintro ⟨⟩ -)
  refine oMove rfl ?_
  first | refine oSplit (t := 25) rfl (fun h25 => ?_) (fun h25 => ?_) | refine oSplitB (t := 25) rfl (fun h25 => ?_) (fun h25 => ?_)
  ·
    refine oWant rfl rfl ?_
    refine oMove rfl ?_
    refine oPickT rfl rfl ?_
    refine oMove rfl ?_
    first | refine oSplit (t := 28) rfl (fun h28 => ?_) (fun h28 => ?_) | refine oSplitB (t := 28) rfl (fun h28 => ?_) (fun h28 => ?_)
    ·
      refine oWant rfl rfl ?_
      refine oMove rfl ?_
      refine oWant rfl rfl ?_
      first | refine oNot rfl ?_ | refine oNotB rfl ?_
      refine oPickT rfl rfl ?_
      refine oMove rfl ?_
      first | refine oSplit (t := 32) rfl (fun h32 => ?_) (fun h32 => ?_) | refine oSplitB (t := 32) rfl (fun h32 => ?_) (fun h32 => ?_)
      ·
        refine oWant rfl rfl ?_
        refine oMove rfl ?_
        refine oWant rfl rfl ?_
        refine oBuildSliceF (Parts.cons rfl (Parts.cons rfl Parts.nil)) rfl rfl rfl rfl rfl (Fulls.cons (by first | exact CellsOf.agg | exact CellsOf.one rfl) rfl (Fulls.cons (by first | exact CellsOf.agg | exact CellsOf.one rfl) rfl Fulls.nil (by repeat (first | exact AppL.nil | apply AppL.cons))) (by repeat (first | exact AppL.nil | apply AppL.cons))) (fun b34 => ?_)
        refine oWant rfl rfl ?_
        refine oBuildSliceF (Parts.cons rfl (Parts.cons rfl Parts.nil)) rfl rfl rfl rfl rfl (Fulls.cons (by first | exact CellsOf.agg | exact CellsOf.one rfl) rfl (Fulls.cons (by first | exact CellsOf.agg | exact CellsOf.one rfl) rfl Fulls.nil (by repeat (first | exact AppL.nil | apply AppL.cons))) (by repeat (first | exact AppL.nil | apply AppL.cons))) (fun b35 => ?_)
        refine oWant rfl rfl ?_
        (refine oCall rfl (by kernel_rfl) (fun w hS => frame' hS .nil (fun B' hB hR hS' => worstP hS' kd0 (some ⟨b7, 0, none⟩) 3 (C_kd0 (b1 := b6) (hR _ _ (by repeat (first | exact Pick.here | apply Pick.there))) (hR _ _ (by repeat (first | exact Pick.here | apply Pick.there)))) small_kd0 [true, true] (some ⟨b34, 0, none⟩) 2 (C_bools (hR _ _ (by repeat (first | exact Pick.here | apply Pick.there))) rfl (by decide)) (by decide) [3, 4] (some ⟨b35, 0, none⟩) 2 (C_ints (hR _ _ (by repeat (first | exact Pick.here | apply Pick.there))) rfl (by decide)) 1 1 0 B.e)) ?_; rintro ⟨A36, c36⟩ -)
        rw [ws_kd0]; try dsimp only
        refine oWant rfl rfl ?_
        refine oBuildSliceF (Parts.cons rfl (Parts.cons rfl Parts.nil)) rfl rfl rfl rfl rfl (Fulls.cons (by first | exact CellsOf.agg | exact CellsOf.one rfl) rfl (Fulls.cons (by first | exact CellsOf.agg | exact CellsOf.one rfl) rfl Fulls.nil (by repeat (first | exact AppL.nil | apply AppL.cons))) (by repeat (first | exact AppL.nil | apply AppL.cons))) (fun b37 => ?_)
        refine oWant rfl rfl ?_
        (refine oCall rfl (by kernel_rfl) (fun w hS => frame' hS .nil (fun B' hB hR hS' => ints_any hS' A36 c36 [0, 1] (row_Cs (hR _ _ (by repeat (first | exact Pick.here | apply Pick.there)))) (some ⟨b37, 0, none⟩) 2 [0, 1] (C_ints (hR _ _ (by repeat (first | exact Pick.here | apply Pick.there))) rfl (by decide)))) ?_; rintro ⟨⟩ -)
        refine oPickT rfl rfl ?_
        refine oAssign rfl ?_
        refine oNil ?_
        refine thn_n ?_
        refine wRet ?_
        refine fin_r ?_
        refine ⟨rfl, _, (ResL.cons (ResR.tmp rfl) ResL.nil), ?_⟩
        exact ⟨(), trivial, rfl, (Leads.has (by repeat' (first | exact Has.nil | exact Pick.here | apply Has.cons | apply Pick.there)))⟩
      ·
        first | exact absurd rfl h32 | cases h32
    ·
      first | exact absurd rfl h28 | cases h28
  ·
    first | exact absurd rfl h25 | cases h25
set_option maxRecDepth 100000 in
set_option maxHeartbeats 1000000 in
theorem deepTells {B : Base} {w : World} (hS : St B [] w) (A : Option Addr) (cp : Nat) (g : Graph) (hC : kII.C B.e A g) (A1 : Option Addr) (cp1 : Nat) (ib : List Bool) (hC1 : Kd.bool.C B.e A1 ib) (A2 : Option Addr) (cp2 : Nat) (own : List Int) (hC2 : (Kd.int .i64).C B.e A2 own) (n : Int × Int × Int) (cs : List Value) (hK : (Kd.pair (Kd.int .i64) (Kd.pair (Kd.int .i64) (Kd.int .i64))).K B.e n cs) :
    CallsIn Fence.wide 0 Try.prog 3 #[.slice A g.length cp, .slice A1 ib.length cp1, .slice A2 own.length cp2, .agg cs.toArray] w (Ret B (fun _ : Unit => True) (fun _ => .bool true) (fun _ => [])) := by
  have m1 := hC1.1
  have m2 := hC2.1
  obtain ⟨n0, n1, n2⟩ := n
  obtain ⟨_, _, rfl, rfl, _, _, rfl, rfl, rfl⟩ := hK
  (refine enter Try.func3 rfl rfl hS ?_; simp only [List.zipIdx_cons, List.zipIdx_nil, List.map_cons, List.map_nil, Nat.reduceAdd, Nat.zero_add])
  refine wSeq ?_
  refine wRegion' ?_
  refine oBox rfl (by first | exact CellsOf.agg | exact CellsOf.one rfl) (fun b7 => ?_)
  refine oAssign rfl ?_
  refine oNil ?_
  refine thn_n ?_
  refine wSeq ?_
  refine wSeq ?_
  refine wRegion' ?_
  refine oMove rfl ?_
  (refine oCall rfl (by kernel_rfl) (fun w hS => frame hS (by repeat' (first | exact Split.nil | exact Pick.here | apply Split.cons | apply Pick.there)) (fun B' hB hS' => few10 hS' A cp g (Kd.C_grow hB hC))) ?_; rintro r14 h14)
  first | refine oNot rfl ?_ | refine oNotB rfl ?_
  refine oMove rfl ?_
  first | refine oSplit (t := 16) rfl (fun h16 => ?_) (fun h16 => ?_) | refine oSplitB (t := 16) rfl (fun h16 => ?_) (fun h16 => ?_)
  ·
    refine oSkip rfl rfl rfl rfl ?_
    refine oSkip rfl rfl rfl rfl ?_
    refine oSkip rfl rfl rfl rfl ?_
    refine oPickT rfl rfl ?_
    refine oMove rfl ?_
    refine oSkip rfl rfl rfl rfl ?_
    refine oSkip rfl rfl rfl rfl ?_
    refine oSkip rfl rfl rfl rfl ?_
    refine oPickT rfl rfl ?_
    refine oNil ?_
    refine thn_n ?_
    refine wCondT rfl ?_
    refine wSeq ?_
    refine wRegion' ?_
    (refine oCall rfl (by kernel_rfl) (fun w hS => frame hS (by repeat' (first | exact Split.nil | exact Pick.here | apply Split.cons | apply Pick.there)) (fun B' hB hS' => known12 hS')) ?_; rintro ⟨⟩ -)
    refine oAssign rfl ?_
    refine oNil ?_
    refine thn_n ?_
    refine wRet ?_
    refine thn_r ?_
    refine fin_r ?_
    refine ⟨rfl, _, (ResL.cons (ResR.tmp rfl) ResL.nil), ?_⟩
    exact ⟨(), trivial, rfl, (Leads.has (by repeat' (first | exact Has.nil | exact Pick.here | apply Has.cons | apply Pick.there)))⟩
  ·
    refine oWant rfl rfl ?_
    refine oMove rfl ?_
    refine oWant rfl rfl ?_
    refine oLenS rfl rfl ?_
    refine oWant rfl rfl ?_
    refine oGtr rfl rfl ?_
    refine oPickF rfl rfl ?_
    refine oMove rfl ?_
    first | refine oSplit (t := 21) rfl (fun h21 => ?_) (fun h21 => ?_) | refine oSplitB (t := 21) rfl (fun h21 => ?_) (fun h21 => ?_)
    ·
      refine oSkip rfl rfl rfl rfl ?_
      refine oSkip rfl rfl rfl rfl ?_
      refine oSkip rfl rfl rfl rfl ?_
      refine oPickT rfl rfl ?_
      refine oNil ?_
      refine thn_n ?_
      refine wCondT rfl ?_
      refine wSeq ?_
      refine wRegion' ?_
      (refine oCall rfl (by kernel_rfl) (fun w hS => frame hS (by repeat' (first | exact Split.nil | exact Pick.here | apply Split.cons | apply Pick.there)) (fun B' hB hS' => known12 hS')) ?_; rintro ⟨⟩ -)
      refine oAssign rfl ?_
      refine oNil ?_
      refine thn_n ?_
      refine wRet ?_
      refine thn_r ?_
      refine fin_r ?_
      refine ⟨rfl, _, (ResL.cons (ResR.tmp rfl) ResL.nil), ?_⟩
      exact ⟨(), trivial, rfl, (Leads.has (by repeat' (first | exact Has.nil | exact Pick.here | apply Has.cons | apply Pick.there)))⟩
    ·
      refine oWant rfl rfl ?_
      refine oMove rfl ?_
      refine oWant rfl rfl ?_
      refine oLenS rfl rfl ?_
      refine oWant rfl rfl ?_
      refine oGtr rfl rfl ?_
      refine oPickF rfl rfl ?_
      refine oNil ?_
      refine thn_n ?_
      first | refine wCond rfl (fun h25 => ?_) (fun h25 => ?_) | refine wCondB rfl (fun h25 => ?_) (fun h25 => ?_)
      ·
        refine wSeq ?_
        refine wRegion' ?_
        (refine oCall rfl (by kernel_rfl) (fun w hS => frame hS (by repeat' (first | exact Split.nil | exact Pick.here | apply Split.cons | apply Pick.there)) (fun B' hB hS' => known12 hS')) ?_; rintro ⟨⟩ -)
        refine oAssign rfl ?_
        refine oNil ?_
        refine thn_n ?_
        refine wRet ?_
        refine thn_r ?_
        refine fin_r ?_
        refine ⟨rfl, _, (ResL.cons (ResR.tmp rfl) ResL.nil), ?_⟩
        exact ⟨(), trivial, rfl, (Leads.has (by repeat' (first | exact Has.nil | exact Pick.here | apply Has.cons | apply Pick.there)))⟩
      ·
        have hsm := few_small (h14 (by simpa using h16))
        refine wSkip ?_
        refine thn_n ?_
        refine wSeq ?_
        refine wRegion' ?_
        refine oMove rfl ?_
        refine oMove rfl ?_
        refine oMove rfl ?_
        refine oIdxA (i := 0) (m := 0) rfl rfl rfl rfl (by decide) rfl ?_
        refine oLd rfl (by repeat (first | exact Pick.here | apply Pick.there)) rfl rfl ?_
        refine oIdxA (i := 1) (m := 1) rfl rfl rfl rfl (by decide) rfl ?_
        refine oLd rfl (by repeat (first | exact Pick.here | apply Pick.there)) rfl rfl ?_
        (refine oCall rfl (by kernel_rfl) (fun w hS => frame hS (by repeat' (first | exact Split.nil | exact Pick.here | apply Split.cons | apply Pick.there)) (fun B' hB hS' => depthsP hS' g A cp (Kd.C_grow hB hC) hsm ib A1 cp1 (Kd.C_grow hB hC1) (by omega) own A2 cp2 (Kd.C_grow hB hC2) n0 n1 B.e)) ?_; rintro ⟨A35, c35⟩ -)
        refine oMove rfl ?_
        refine oExt rfl (by repeat (first | exact GetAt.here | apply GetAt.there)) ?_
        refine oExt rfl (by repeat (first | exact GetAt.here | apply GetAt.there)) ?_
        refine oAssign rfl ?_
        refine oAssign rfl ?_
        refine oNil ?_
        refine thn_n ?_
        refine wSeq ?_
        refine wRegion' ?_
        refine oMove rfl ?_
        refine oMove rfl ?_
        refine oMove rfl ?_
        refine oIdxA (i := 0) (m := 0) rfl rfl rfl rfl (by decide) rfl ?_
        refine oLd rfl (by repeat (first | exact Pick.here | apply Pick.there)) rfl rfl ?_
        refine oIdxA (i := 1) (m := 1) rfl rfl rfl rfl (by decide) rfl ?_
        refine oLd rfl (by repeat (first | exact Pick.here | apply Pick.there)) rfl rfl ?_
        (refine oCall rfl (by kernel_rfl) (fun w hS => frame hS (by repeat' (first | exact Split.nil | exact Pick.here | apply Split.cons | apply Pick.there)) (fun B' hB hS' => refDepths hS' g A cp (Kd.C_grow hB hC) hsm ib A1 cp1 (Kd.C_grow hB hC1) own A2 cp2 (Kd.C_grow hB hC2) n0 n1 B.e)) ?_; rintro ⟨A46, c46⟩ -)
        refine oMove rfl ?_
        refine oExt rfl (by repeat (first | exact GetAt.here | apply GetAt.there)) ?_
        refine oExt rfl (by repeat (first | exact GetAt.here | apply GetAt.there)) ?_
        refine oAssign rfl ?_
        refine oAssign rfl ?_
        refine oNil ?_
        refine thn_n ?_
        refine wSeq ?_
        refine wDrawG rfl [0, 1] [(2, [], [3, 4, 5, 6, 7, 8, 9, 10, 11, 12, 13, 14, 15, 16, 17, 19, 20, 21, 22, 23, 24, 25, 26, 27]), (18, [19, 20, 21, 22, 23, 24, 25, 26, 27], []), (28, [], []), (29, [], [30, 31]), (32, [], [])] [33, 34] 24 (by kernel_rfl) rfl rfl (fun w0 => ?_)
        refine oMove rfl ?_
        refine oMove rfl ?_
        refine oLkSegG ?_
        refine oSegG rfl ?_
        (refine oCall rfl (by kernel_rfl) (fun w hS => frame' hS .nil (fun B' hB hR hS' => ints_any hS' A35 c35 (DLo g ib own n0 n1) (row_Cs (hR _ _ (by repeat (first | exact Pick.here | apply Pick.there)))) A46 c46 (DLo g ib own n0 n1) (row_Cs (hR _ _ (by repeat (first | exact Pick.here | apply Pick.there)))))) ?_; rintro ⟨⟩ -)
        refine oAgainG ?_ rfl (fun w0 => ?_)
        ·
          exact AgainG.nil
        ·
          refine oMove rfl ?_
          first | refine oSplit (t := 52) rfl (fun h52 => ?_) (fun h52 => ?_) | refine oSplitB (t := 52) rfl (fun h52 => ?_) (fun h52 => ?_)
          ·
            refine oWant rfl rfl ?_
            refine oMove rfl ?_
            refine oWant rfl rfl ?_
            refine oMove rfl ?_
            refine oWant rfl rfl ?_
            refine oEqlBool rfl rfl rfl ?_
            refine oPickT rfl rfl ?_
            refine oMove rfl ?_
            first | refine oSplit (t := 57) rfl (fun h57 => ?_) (fun h57 => ?_) | refine oSplitB (t := 57) rfl (fun h57 => ?_) (fun h57 => ?_)
            ·
              refine oWant rfl rfl ?_
              refine oMove rfl ?_
              refine oWant rfl rfl ?_
              refine oMove rfl ?_
              refine oWant rfl rfl ?_
              refine oMove rfl ?_
              refine oWant rfl rfl ?_
              refine oIdxA (i := 0) (m := 0) rfl rfl rfl rfl (by decide) rfl ?_
              refine oWant rfl rfl ?_
              refine oLd rfl (by repeat (first | exact Pick.here | apply Pick.there)) rfl rfl ?_
              refine oWant rfl rfl ?_
              refine oIdxA (i := 1) (m := 1) rfl rfl rfl rfl (by decide) rfl ?_
              refine oWant rfl rfl ?_
              refine oLd rfl (by repeat (first | exact Pick.here | apply Pick.there)) rfl rfl ?_
              refine oWant rfl rfl ?_
              refine oIdxA (i := 2) (m := 2) rfl rfl rfl rfl (by decide) rfl ?_
              refine oWant rfl rfl ?_
              refine oLd rfl (by repeat (first | exact Pick.here | apply Pick.there)) rfl rfl ?_
              refine oWant rfl rfl ?_
              refine oMove rfl ?_
              refine oWant rfl rfl ?_
              refine oMove rfl ?_
              refine oWant rfl rfl ?_
              refine oMove rfl ?_
              refine oWant rfl rfl ?_
              refine oIdxA (i := 0) (m := 0) rfl rfl rfl rfl (by decide) rfl ?_
              refine oWant rfl rfl ?_
              refine oLd rfl (by repeat (first | exact Pick.here | apply Pick.there)) rfl rfl ?_
              refine oWant rfl rfl ?_
              refine oIdxA (i := 1) (m := 1) rfl rfl rfl rfl (by decide) rfl ?_
              refine oWant rfl rfl ?_
              refine oLd rfl (by repeat (first | exact Pick.here | apply Pick.there)) rfl rfl ?_
              refine oWant rfl rfl ?_
              refine oIdxA (i := 2) (m := 2) rfl rfl rfl rfl (by decide) rfl ?_
              refine oWant rfl rfl ?_
              refine oLd rfl (by repeat (first | exact Pick.here | apply Pick.there)) rfl rfl ?_
              refine oLkSegG ?_
              refine oSegG rfl ?_
              refine oWant rfl rfl ?_
              (refine oCall rfl (by kernel_rfl) (fun w hS => frame hS (by repeat' (first | exact Split.nil | exact Pick.here | apply Split.cons | apply Pick.there)) (fun B' hB hS' => worstP hS' g A cp (Kd.C_grow hB hC) hsm ib A1 cp1 (Kd.C_grow hB hC1) (by omega) own A2 cp2 (Kd.C_grow hB hC2) n0 n1 n2 B.e)) ?_; rintro ⟨A67, c67⟩ -)
              refine oAgainG ?_ rfl (fun w0 => ?_)
              ·
                refine AgainG.cons rfl rfl rfl rfl (fun w0 => ?_) ?_
                ·
                  refine oWant rfl rfl ?_
                  refine oMove rfl ?_
                  exact oLkHas rfl
                ·
                  refine AgainG.cons rfl rfl rfl rfl (fun w0 => ?_) ?_
                  ·
                    refine oWant rfl rfl ?_
                    refine oMove rfl ?_
                    exact oLkHas rfl
                  ·
                    refine AgainG.cons rfl rfl rfl rfl (fun w0 => ?_) ?_
                    ·
                      refine oWant rfl rfl ?_
                      refine oMove rfl ?_
                      exact oLkHas rfl
                    ·
                      refine AgainG.cons rfl rfl rfl rfl (fun w0 => ?_) ?_
                      ·
                        refine oWant rfl rfl ?_
                        refine oIdxA (i := 0) (m := 0) rfl rfl rfl rfl (by decide) rfl ?_
                        exact oLkHas rfl
                      ·
                        refine AgainG.cons rfl rfl rfl rfl (fun w0 => ?_) ?_
                        ·
                          refine oWant rfl rfl ?_
                          refine oLd rfl (by repeat (first | exact Pick.here | apply Pick.there)) rfl rfl ?_
                          exact oLkHas rfl
                        ·
                          refine AgainG.cons rfl rfl rfl rfl (fun w0 => ?_) ?_
                          ·
                            refine oWant rfl rfl ?_
                            refine oIdxA (i := 1) (m := 1) rfl rfl rfl rfl (by decide) rfl ?_
                            exact oLkHas rfl
                          ·
                            refine AgainG.cons rfl rfl rfl rfl (fun w0 => ?_) ?_
                            ·
                              refine oWant rfl rfl ?_
                              refine oLd rfl (by repeat (first | exact Pick.here | apply Pick.there)) rfl rfl ?_
                              exact oLkHas rfl
                            ·
                              refine AgainG.cons rfl rfl rfl rfl (fun w0 => ?_) ?_
                              ·
                                refine oWant rfl rfl ?_
                                refine oIdxA (i := 2) (m := 2) rfl rfl rfl rfl (by decide) rfl ?_
                                exact oLkHas rfl
                              ·
                                refine AgainG.cons rfl rfl rfl rfl (fun w0 => ?_) ?_
                                ·
                                  refine oWant rfl rfl ?_
                                  refine oLd rfl (by repeat (first | exact Pick.here | apply Pick.there)) rfl rfl ?_
                                  exact oLkHas rfl
                                ·
                                  exact AgainG.nil
              ·
                refine oLkSegG ?_
                refine oSegG rfl ?_
                refine oWant rfl rfl ?_
                (refine oCall rfl (by kernel_rfl) (fun w hS => frame hS (by repeat' (first | exact Split.nil | exact Pick.here | apply Split.cons | apply Pick.there)) (fun B' hB hS' => refWorst hS' g A cp (Kd.C_grow hB hC) hsm ib A1 cp1 (Kd.C_grow hB hC1) own A2 cp2 (Kd.C_grow hB hC2) n0 n1 n2 B.e)) ?_; rintro ⟨A77, c77⟩ -)
                refine oAgainG ?_ rfl (fun w0 => ?_)
                ·
                  exact AgainG.nil
                ·
                  refine oLkSegG ?_
                  refine oSegG rfl ?_
                  refine oWant rfl rfl ?_
                  (refine oCall rfl (by kernel_rfl) (fun w hS => frame' hS .nil (fun B' hB hR hS' => ints_any hS' A67 c67 (wsL g ib own n0 n1 n2) (row_Cs (hR _ _ (by repeat (first | exact Pick.here | apply Pick.there)))) A77 c77 (wsL g ib own n0 n1 n2) (row_Cs (hR _ _ (by repeat (first | exact Pick.here | apply Pick.there)))))) ?_; rintro ⟨⟩ -)
                  refine oAgainG ?_ rfl (fun w0 => ?_)
                  ·
                    exact AgainG.nil
                  ·
                    refine oPickT rfl rfl ?_
                    refine oMove rfl ?_
                    refine oLkSegG ?_
                    refine oSegG rfl ?_
                    first | refine oSplit (t := 80) rfl (fun h80 => ?_) (fun h80 => ?_) | refine oSplitB (t := 80) rfl (fun h80 => ?_) (fun h80 => ?_)
                    ·
                      refine oWant rfl rfl ?_
                      (refine oCall rfl (by kernel_rfl) (fun w hS => frame hS (by repeat' (first | exact Split.nil | exact Pick.here | apply Split.cons | apply Pick.there)) (fun B' hB hS' => known12 hS')) ?_; rintro ⟨⟩ -)
                      refine oAgainG ?_ rfl (fun w0 => ?_)
                      ·
                        exact AgainG.nil
                      ·
                        refine oTailG ?_
                        refine oPickT rfl rfl ?_
                        refine oAssign rfl ?_
                        refine oNil ?_
                        refine thn_n ?_
                        refine wRet ?_
                        refine fin_r ?_
                        refine ⟨rfl, _, (ResL.cons (ResR.tmp rfl) ResL.nil), ?_⟩
                        exact ⟨(), trivial, rfl, (Leads.has (by repeat' (first | exact Has.nil | exact Pick.here | apply Has.cons | apply Pick.there)))⟩
                    ·
                      first | exact absurd rfl h80 | cases h80 | (simp at h80)
            ·
              first | exact absurd rfl h57 | cases h57 | (simp at h57)
          ·
            first | exact absurd rfl h52 | cases h52 | (simp at h52)
end Go.Proofs.YtcacohoanlljhaaG
