import Derived.Test.YtcacohoanlljhaaGreatVh

/-
  sheerleglaw17: known, VerifyRefers, VerifyMore.
-/
namespace Go.Proofs.YtcacohoanlljhaaGreatV
set_option linter.unusedVariables false
set_option linter.unusedSimpArgs false
open Go.RowKit Go.Proofs.YtcacohoanlljhaaGreatK Go.Proofs.YtcacohoanlljhaaGreatT Go.Proofs.YtcacohoanlljhaaGreatL

theorem nextL_any (x : ApiInstr) (i : Int) (p : Int → Bool) : (nextL x i).any p = (nextR x i).any p := by
  rw [Bool.eq_iff_iff, List.any_eq_true, List.any_eq_true]
  constructor
  · rintro ⟨y, hy, h⟩; exact ⟨y, ((sorted_spec _).2 y).1 hy, h⟩
  · rintro ⟨y, hy, h⟩; exact ⟨y, ((sorted_spec _).2 y).2 hy, h⟩
theorem flowF_eq (code : List ApiInstr) : flowF code = if code.length = 0 then 3 else if 64 < code.length then 6 else if (List.range code.length).any (fun i => (nextR (code.getD i default) (i : Int)).any (outF code.length)) then 10 else 0 := by
  have h : (graphF code).any (fun l => l.any (outF code.length)) = (List.range code.length).any (fun i => (nextR (code.getD i default) (i : Int)).any (outF code.length)) := by
    unfold graphF
    rw [List.any_map]
    rw [Bool.eq_iff_iff, List.any_eq_true, List.any_eq_true]
    have key : ∀ i ∈ List.range code.length, ((fun l : List Int => l.any (outF code.length)) ∘ fun i : Nat => nextF code (i : Int)) i = (nextR (code.getD i default) (i : Int)).any (outF code.length) := by
      intro i hi
      have := List.mem_range.1 hi
      show (nextF code (i : Int)).any _ = _
      unfold nextF
      rw [if_neg (by omega), Int.toNat_natCast, nextL_any]
    constructor
    · rintro ⟨i, hi, hp⟩; exact ⟨i, hi, by rw [← key i hi]; exact hp⟩
    · rintro ⟨i, hi, hp⟩; exact ⟨i, hi, by rw [key i hi]; exact hp⟩
  unfold flowF
  rw [h]
/-! ### fixed calls -/
def kf0 : ApiFunc := ⟨1, [0, 2], 0, false, 0, 0, [], [⟨17, 1, 0, 0, 0⟩, ⟨20, 0, 1, 1, 0⟩, ⟨19, 0, 0, 0, 0⟩, ⟨24, 0, 0, 0, 0⟩], [⟨0, 0, false⟩, ⟨2, 0, false⟩]⟩
def kf1 : ApiFunc := ⟨1, [0, 3], 0, false, 0, 0, [], [⟨17, 1, 0, 0, 0⟩, ⟨20, 0, 1, 1, 0⟩, ⟨19, 0, 0, 0, 0⟩, ⟨24, 0, 0, 0, 0⟩], [⟨0, 0, false⟩, ⟨2, 0, false⟩]⟩
def kl0 : List ApiSymbol := [⟨⟨#[102]⟩, false, 1, 1, 0⟩]
theorem fun_kf0 : funF kf0 = 0 := by unfold funF codeF; rw [flowF_eq]; decide
theorem fun_kf1 : funF kf1 = 0 := by unfold funF codeF; rw [flowF_eq]; decide
theorem chk_kf0 : chkE kf0 kl0 = 0 ∧ chkI kf0 kl0 = -1 := by unfold chkE chkI; rw [fun_kf0]; decide
theorem chk_kf1 : chkE kf1 kl0 = 8 ∧ chkI kf1 kl0 = 0 := by unfold chkE chkI; rw [fun_kf1]; decide
theorem cls_kf0 : clsF kf0 kl0 1 = (1, true) := by decide
theorem sym_kf0 : symF kf0 2 = 0 ∧ symF kf0 1 = -1 := by decide
theorem ins_kf0 : instrF kf0 [] 2 = 11 := by decide
abbrev kCode : List Value := [.int .i64 17, .int .i64 1, .int .i64 0, .int .i64 0, .int .i64 0, .int .i64 20, .int .i64 0, .int .i64 1, .int .i64 1, .int .i64 0, .int .i64 19, .int .i64 0, .int .i64 0, .int .i64 0, .int .i64 0, .int .i64 24, .int .i64 0, .int .i64 0, .int .i64 0, .int .i64 0]
abbrev kRel : List Value := [.int .i64 0, .int .i64 0, .bool false, .int .i64 2, .int .i64 0, .bool false]
abbrev kFun (b1 b2 b3 : Nat) : List Value := [.int .i64 1, .slice (some ⟨b1, 0, none⟩) 2 2, .int .i64 0, .bool false, .int .i64 0, .int .i64 0, .slice none 0 0, .slice (some ⟨b2, 0, none⟩) 4 4, .slice (some ⟨b3, 0, none⟩) 2 2]
theorem C_two {w : World} {b : Nat} {x y : Int} (h : (blk b 3 [.int .i64 x, .int .i64 y]).q w) : (Kd.int .i64).C w (some ⟨b, 0, none⟩) [x, y] := C_blk (kd := Kd.int .i64) h (by simp) (cat_scalar.2 rfl)
theorem C_code {w : World} {b : Nat} (h : (blk b 53 kCode).q w) : kApiInstr.C w (some ⟨b, 0, none⟩) kf0.fCode :=
  C_blk h (by decide) ⟨_, _, rfl, kApiInstr_mk w ⟨17, 1, 0, 0, 0⟩, _, _, rfl, kApiInstr_mk w ⟨20, 0, 1, 1, 0⟩, _, _, rfl, kApiInstr_mk w ⟨19, 0, 0, 0, 0⟩, _, _, rfl, kApiInstr_mk w ⟨24, 0, 0, 0, 0⟩, rfl⟩
theorem C_rel {w : World} {b : Nat} (h : (blk b 106 kRel).q w) : kApiReloc.C w (some ⟨b, 0, none⟩) kf0.fRelocs :=
  C_blk h (by decide) ⟨_, _, rfl, kApiReloc_mk w ⟨0, 0, false⟩, _, _, rfl, kApiReloc_mk w ⟨2, 0, false⟩, rfl⟩
theorem K_kf0 {w : World} {b1 b2 b3 : Nat} (h1 : (blk b1 3 [.int .i64 0, .int .i64 2]).q w) (h2 : (blk b2 53 kCode).q w) (h3 : (blk b3 106 kRel).q w) : kApiFunc.K w kf0 (kFun b1 b2 b3) := kApiFunc_mk w kf0 (c0 := 2) (c1 := 0) (c2 := 4) (c3 := 2) (by decide) (C_two h1) (by decide) (Kd.C_nil _ _ _) (by decide) (C_code h2) (by decide) (C_rel h3)
theorem K_kf1 {w : World} {b1 b2 b3 : Nat} (h1 : (blk b1 3 [.int .i64 0, .int .i64 3]).q w) (h2 : (blk b2 53 kCode).q w) (h3 : (blk b3 106 kRel).q w) : kApiFunc.K w kf1 (kFun b1 b2 b3) := kApiFunc_mk w kf1 (c0 := 2) (c1 := 0) (c2 := 4) (c3 := 2) (by decide) (C_two h1) (by decide) (Kd.C_nil _ _ _) (by decide) (C_code h2) (by decide) (C_rel h3)
theorem C_kl0 {w : World} {b : Nat} (h : (blk b 73 [.string ⟨#[102]⟩, .bool false, .int .i64 1, .int .i64 1, .int .i64 0]).q w) : kApiSymbol.C w (some ⟨b, 0, none⟩) kl0 :=
  C_blk h (by decide) ⟨_, _, rfl, kApiSymbol_mk w ⟨⟨#[102]⟩, false, 1, 1, 0⟩, rfl⟩
set_option maxRecDepth 100000 in
theorem law_Calls {B : Base} {w : World} (hS : St B [] w) :
    CallsIn Fence.wide 0 Tryz.prog 47 #[] w (Ret B (fun _ : Nat × Nat × Nat => True) (fun z => .agg (kFun z.1 z.2.1 z.2.2).toArray) (fun z => [blk z.1 3 [.int .i64 0, .int .i64 2], blk z.2.1 53 kCode, blk z.2.2 106 kRel])) := by
  (refine enter Tryz.func47 rfl rfl hS ?_; simp only [List.zipIdx_cons, List.zipIdx_nil, List.map_cons, List.map_nil, Nat.reduceAdd, Nat.zero_add])
  refine wSeq ?_
  refine wRegion' ?_
  refine oAlloc rfl (by first | exact CellsOf.agg | exact CellsOf.one rfl) (fun b0 => ?_)
  refine oNil ?_
  refine thn_n ?_
  refine wSeq ?_
  refine wRegion' ?_
  refine oBuildSliceF (Parts.cons rfl (Parts.cons rfl Parts.nil)) rfl rfl rfl rfl rfl (Fulls.cons (by first | exact CellsOf.agg | exact CellsOf.one rfl) rfl (Fulls.cons (by first | exact CellsOf.agg | exact CellsOf.one rfl) rfl Fulls.nil (by repeat (first | exact AppL.nil | apply AppL.cons))) (by repeat (first | exact AppL.nil | apply AppL.cons))) (fun b1 => ?_)
  refine oBuild (Parts.cons rfl (Parts.cons rfl Parts.nil)) rfl rfl (Built.cons (off := 0) (s := 1) rfl (by first | exact CellsOf.agg | exact CellsOf.one rfl) rfl (by repeat (first | exact PutL.done | apply PutL.put | apply PutL.skip)) (Built.cons (off := 1) (s := 1) rfl (by first | exact CellsOf.agg | exact CellsOf.one rfl) rfl (by repeat (first | exact PutL.done | apply PutL.put | apply PutL.skip)) Built.nil)) ?_
  refine oBuild (Parts.cons rfl (Parts.cons rfl (Parts.cons rfl (Parts.cons rfl Parts.nil)))) rfl rfl (Built.cons (off := 0) (s := 1) rfl (by first | exact CellsOf.agg | exact CellsOf.one rfl) rfl (by repeat (first | exact PutL.done | apply PutL.put | apply PutL.skip)) (Built.cons (off := 1) (s := 1) rfl (by first | exact CellsOf.agg | exact CellsOf.one rfl) rfl (by repeat (first | exact PutL.done | apply PutL.put | apply PutL.skip)) (Built.cons (off := 2) (s := 1) rfl (by first | exact CellsOf.agg | exact CellsOf.one rfl) rfl (by repeat (first | exact PutL.done | apply PutL.put | apply PutL.skip)) (Built.cons (off := 3) (s := 1) rfl (by first | exact CellsOf.agg | exact CellsOf.one rfl) rfl (by repeat (first | exact PutL.done | apply PutL.put | apply PutL.skip)) Built.nil)))) ?_
  refine oBuild (Parts.cons rfl Parts.nil) rfl rfl (Built.cons (off := 0) (s := 1) rfl (by first | exact CellsOf.agg | exact CellsOf.one rfl) rfl (by repeat (first | exact PutL.done | apply PutL.put | apply PutL.skip)) Built.nil) ?_
  refine oBuild (Parts.cons rfl Parts.nil) rfl rfl (Built.cons (off := 0) (s := 1) rfl (by first | exact CellsOf.agg | exact CellsOf.one rfl) rfl (by repeat (first | exact PutL.done | apply PutL.put | apply PutL.skip)) Built.nil) ?_
  refine oBuildSliceF (Parts.cons rfl (Parts.cons rfl (Parts.cons rfl (Parts.cons rfl Parts.nil)))) rfl rfl rfl rfl rfl (Fulls.cons (by first | exact CellsOf.agg | exact CellsOf.one rfl) rfl (Fulls.cons (by first | exact CellsOf.agg | exact CellsOf.one rfl) rfl (Fulls.cons (by first | exact CellsOf.agg | exact CellsOf.one rfl) rfl (Fulls.cons (by first | exact CellsOf.agg | exact CellsOf.one rfl) rfl Fulls.nil (by repeat (first | exact AppL.nil | apply AppL.cons))) (by repeat (first | exact AppL.nil | apply AppL.cons))) (by repeat (first | exact AppL.nil | apply AppL.cons))) (by repeat (first | exact AppL.nil | apply AppL.cons))) (fun b6 => ?_)
  refine oBuild (Parts.cons rfl Parts.nil) rfl rfl (Built.cons (off := 0) (s := 1) rfl (by first | exact CellsOf.agg | exact CellsOf.one rfl) rfl (by repeat (first | exact PutL.done | apply PutL.put | apply PutL.skip)) Built.nil) ?_
  refine oBuild (Parts.cons rfl Parts.nil) rfl rfl (Built.cons (off := 0) (s := 1) rfl (by first | exact CellsOf.agg | exact CellsOf.one rfl) rfl (by repeat (first | exact PutL.done | apply PutL.put | apply PutL.skip)) Built.nil) ?_
  refine oBuildSliceF (Parts.cons rfl (Parts.cons rfl Parts.nil)) rfl rfl rfl rfl rfl (Fulls.cons (by first | exact CellsOf.agg | exact CellsOf.one rfl) rfl (Fulls.cons (by first | exact CellsOf.agg | exact CellsOf.one rfl) rfl Fulls.nil (by repeat (first | exact AppL.nil | apply AppL.cons))) (by repeat (first | exact AppL.nil | apply AppL.cons))) (fun b9 => ?_)
  refine oBuild (Parts.cons rfl (Parts.cons rfl (Parts.cons rfl (Parts.cons rfl Parts.nil)))) rfl rfl (Built.cons (off := 0) (s := 1) rfl (by first | exact CellsOf.agg | exact CellsOf.one rfl) rfl (by repeat (first | exact PutL.done | apply PutL.put | apply PutL.skip)) (Built.cons (off := 1) (s := 1) rfl (by first | exact CellsOf.agg | exact CellsOf.one rfl) rfl (by repeat (first | exact PutL.done | apply PutL.put | apply PutL.skip)) (Built.cons (off := 7) (s := 1) rfl (by first | exact CellsOf.agg | exact CellsOf.one rfl) rfl (by repeat (first | exact PutL.done | apply PutL.put | apply PutL.skip)) (Built.cons (off := 8) (s := 1) rfl (by first | exact CellsOf.agg | exact CellsOf.one rfl) rfl (by repeat (first | exact PutL.done | apply PutL.put | apply PutL.skip)) Built.nil)))) ?_
  refine oStA rfl rfl rfl rfl (by repeat (first | exact Pick.here | apply Pick.there)) (by rfl) ?_
  refine oNil ?_
  refine thn_n ?_
  refine wRet ?_
  refine fin_r ?_
  refine ⟨rfl, _, (ResL.cons (by first | exact ResR.cell rfl (by repeat (first | exact Pick.here | apply Pick.there)) rfl | exact ResR.agg rfl (by repeat (first | exact Pick.here | apply Pick.there)) rfl rfl) ResL.nil), ?_⟩
  exact ⟨(b1, b6, b9), trivial, rfl, (Leads.has (by repeat' (first | exact Has.nil | exact Pick.here | apply Has.cons | apply Pick.there)))⟩
set_option maxRecDepth 100000 in
set_option maxHeartbeats 1000000 in
theorem known17 {B : Base} {w : World} (hS : St B [] w) :
    CallsIn Fence.wide 0 Tryz.prog 24 #[] w (Ret B (fun _ : Unit => True) (fun _ => .bool true) (fun _ => [])) := by
  (refine enter Tryz.func24 rfl rfl hS ?_; simp only [List.zipIdx_cons, List.zipIdx_nil, List.map_cons, List.map_nil, Nat.reduceAdd, Nat.zero_add])
  refine wSeq ?_
  refine wRegion' ?_
  refine oAssign rfl ?_
  refine oNil ?_
  refine thn_n ?_
  refine wSeq ?_
  refine wRegion' ?_
  refine oBuild (Parts.cons rfl (Parts.cons rfl (Parts.cons rfl Parts.nil))) rfl rfl (Built.cons (off := 0) (s := 1) rfl (by first | exact CellsOf.agg | exact CellsOf.one rfl) rfl (by repeat (first | exact PutL.done | apply PutL.put | apply PutL.skip)) (Built.cons (off := 2) (s := 1) rfl (by first | exact CellsOf.agg | exact CellsOf.one rfl) rfl (by repeat (first | exact PutL.done | apply PutL.put | apply PutL.skip)) (Built.cons (off := 3) (s := 1) rfl (by first | exact CellsOf.agg | exact CellsOf.one rfl) rfl (by repeat (first | exact PutL.done | apply PutL.put | apply PutL.skip)) Built.nil))) ?_
  refine oBuildSlice1 rfl rfl rfl rfl rfl (by first | exact CellsOf.agg | exact CellsOf.one rfl) rfl (fun b11 => ?_)
  refine oAssign rfl ?_
  refine oNil ?_
  refine thn_n ?_
  refine wSeq ?_
  refine wRegion' ?_
  (refine oCall rfl (by kernel_rfl) (fun w hS => frame hS (by repeat' (first | exact Split.nil | exact Pick.here | apply Split.cons | apply Pick.there)) (fun B' hB hS' => law_Calls hS')) ?_; rintro ⟨x1, x2, x3⟩ -)
  try dsimp only
  refine oAlloc rfl (by first | exact CellsOf.agg | exact CellsOf.one rfl) (fun b2 => ?_)
  refine oStA rfl rfl rfl rfl (by repeat (first | exact Pick.here | apply Pick.there)) (by rfl) ?_
  refine oNil ?_
  refine thn_n ?_
  refine wSeq ?_
  refine wRegion' ?_
  refine oLdA rfl (by repeat (first | exact Pick.here | apply Pick.there)) rfl (by repeat (first | exact SubL.done | apply SubL.take | apply SubL.drop)) ?_
  refine oMove rfl ?_
  (refine oCall rfl (by kernel_rfl) (fun w hS => frame' hS .nil (fun B' hB hR hS' => verify_Check hS' kf0 (kFun x1 x2 x3) (K_kf0 (b1 := x1) (b2 := x2) (b3 := x3) (hR _ _ (by repeat (first | exact Pick.here | apply Pick.there))) (hR _ _ (by repeat (first | exact Pick.here | apply Pick.there))) (hR _ _ (by repeat (first | exact Pick.here | apply Pick.there)))) (by decide) (some ⟨b11, 0, none⟩) 1 kl0 (C_kl0 (hR _ _ (by repeat (first | exact Pick.here | apply Pick.there)))))) ?_; rintro ⟨⟩ -)
  rw [chk_kf0.1, chk_kf0.2]; try dsimp only
  refine oMove rfl ?_
  refine oExt rfl (by repeat (first | exact GetAt.here | apply GetAt.there)) ?_
  refine oExt rfl (by repeat (first | exact GetAt.here | apply GetAt.there)) ?_
  refine oAssign rfl ?_
  refine oAssign rfl ?_
  refine oNil ?_
  refine thn_n ?_
  refine wSeq ?_
  refine wRegion' ?_
  refine oLdA rfl (by repeat (first | exact Pick.here | apply Pick.there)) rfl (by repeat (first | exact SubL.done | apply SubL.take | apply SubL.drop)) ?_
  refine oMove rfl ?_
  (refine oCall rfl (by kernel_rfl) (fun w hS => frame' hS .nil (fun B' hB hR hS' => verify_Class hS' kf0 (kFun x1 x2 x3) (K_kf0 (b1 := x1) (b2 := x2) (b3 := x3) (hR _ _ (by repeat (first | exact Pick.here | apply Pick.there))) (hR _ _ (by repeat (first | exact Pick.here | apply Pick.there))) (hR _ _ (by repeat (first | exact Pick.here | apply Pick.there)))) (some ⟨b11, 0, none⟩) 1 kl0 (C_kl0 (hR _ _ (by repeat (first | exact Pick.here | apply Pick.there)))) 1)) ?_; rintro ⟨⟩ -)
  rw [cls_kf0]; try dsimp only
  refine oMove rfl ?_
  refine oExt rfl (by repeat (first | exact GetAt.here | apply GetAt.there)) ?_
  refine oExt rfl (by repeat (first | exact GetAt.here | apply GetAt.there)) ?_
  refine oAssign rfl ?_
  refine oAssign rfl ?_
  refine oNil ?_
  refine thn_n ?_
  refine wSeq ?_
  refine wRegion' ?_
  (refine oCall rfl (by kernel_rfl) (fun w hS => frame hS (by repeat' (first | exact Split.nil | exact Pick.here | apply Split.cons | apply Pick.there)) (fun B' hB hS' => law_Calls hS')) ?_; rintro ⟨y1, y2, y3⟩ -)
  try dsimp only
  refine oAlloc rfl (by first | exact CellsOf.agg | exact CellsOf.one rfl) (fun b7 => ?_)
  refine oStA rfl rfl rfl rfl (by repeat (first | exact Pick.here | apply Pick.there)) (by rfl) ?_
  refine oNil ?_
  refine thn_n ?_
  refine wSeq ?_
  refine wRegion' ?_
  refine oFld (n := 1) (m := 1) rfl rfl rfl ?_
  refine oLd rfl (by repeat (first | exact Pick.here | apply Pick.there)) rfl rfl ?_
  refine oIdxB (s := 1) (i := 1) (m := 1) rfl rfl rfl (by decide) rfl ?_
  refine oSt rfl rfl rfl rfl rfl (by repeat (first | exact Pick.here | apply Pick.there)) (by repeat (first | exact SetAt.here | apply SetAt.there)) ?_
  refine oNil ?_
  refine thn_n ?_
  refine wSeq ?_
  refine wRegion' ?_
  refine oLdA rfl (by repeat (first | exact Pick.here | apply Pick.there)) rfl (by repeat (first | exact SubL.done | apply SubL.take | apply SubL.drop)) ?_
  refine oMove rfl ?_
  (refine oCall rfl (by kernel_rfl) (fun w hS => frame' hS .nil (fun B' hB hR hS' => verify_Check hS' kf1 (kFun y1 y2 y3) (K_kf1 (b1 := y1) (b2 := y2) (b3 := y3) (hR _ _ (by repeat (first | exact Pick.here | apply Pick.there))) (hR _ _ (by repeat (first | exact Pick.here | apply Pick.there))) (hR _ _ (by repeat (first | exact Pick.here | apply Pick.there)))) (by decide) (some ⟨b11, 0, none⟩) 1 kl0 (C_kl0 (hR _ _ (by repeat (first | exact Pick.here | apply Pick.there)))))) ?_; rintro ⟨⟩ -)
  rw [chk_kf1.1, chk_kf1.2]; try dsimp only
  refine oMove rfl ?_
  refine oExt rfl (by repeat (first | exact GetAt.here | apply GetAt.there)) ?_
  refine oExt rfl (by repeat (first | exact GetAt.here | apply GetAt.there)) ?_
  refine oAssign rfl ?_
  refine oAssign rfl ?_
  refine oNil ?_
  refine thn_n ?_
  refine wSeq ?_
  refine wRegion' ?_
  refine oMove rfl ?_
  refine oEql rfl rfl ?_
  refine oMove rfl ?_
  first | refine oSplit (t := 37) rfl (fun h37 => ?_) (fun h37 => ?_) | refine oSplitB (t := 37) rfl (fun h37 => ?_) (fun h37 => ?_)
  ·
    refine oWant rfl rfl ?_
    refine oMove rfl ?_
    refine oWant rfl rfl ?_
    refine oEql rfl rfl ?_
    refine oPickT rfl rfl ?_
    refine oMove rfl ?_
    first | refine oSplit (t := 41) rfl (fun h41 => ?_) (fun h41 => ?_) | refine oSplitB (t := 41) rfl (fun h41 => ?_) (fun h41 => ?_)
    ·
      refine oWant rfl rfl ?_
      refine oMove rfl ?_
      refine oWant rfl rfl ?_
      refine oEql rfl rfl ?_
      refine oPickT rfl rfl ?_
      refine oMove rfl ?_
      first | refine oSplit (t := 45) rfl (fun h45 => ?_) (fun h45 => ?_) | refine oSplitB (t := 45) rfl (fun h45 => ?_) (fun h45 => ?_)
      ·
        refine oWant rfl rfl ?_
        refine oMove rfl ?_
        refine oPickT rfl rfl ?_
        refine oMove rfl ?_
        first | refine oSplit (t := 48) rfl (fun h48 => ?_) (fun h48 => ?_) | refine oSplitB (t := 48) rfl (fun h48 => ?_) (fun h48 => ?_)
        ·
          refine oWant rfl rfl ?_
          refine oMove rfl ?_
          refine oWant rfl rfl ?_
          refine oEql rfl rfl ?_
          refine oPickT rfl rfl ?_
          refine oMove rfl ?_
          first | refine oSplit (t := 52) rfl (fun h52 => ?_) (fun h52 => ?_) | refine oSplitB (t := 52) rfl (fun h52 => ?_) (fun h52 => ?_)
          ·
            refine oWant rfl rfl ?_
            refine oMove rfl ?_
            refine oWant rfl rfl ?_
            refine oEql rfl rfl ?_
            refine oPickT rfl rfl ?_
            refine oMove rfl ?_
            first | refine oSplit (t := 56) rfl (fun h56 => ?_) (fun h56 => ?_) | refine oSplitB (t := 56) rfl (fun h56 => ?_) (fun h56 => ?_)
            ·
              refine oWant rfl rfl ?_
              refine oLdA rfl (by repeat (first | exact Pick.here | apply Pick.there)) rfl (by repeat (first | exact SubL.done | apply SubL.take | apply SubL.drop)) ?_
              refine oWant rfl rfl ?_
              (refine oCall rfl (by kernel_rfl) (fun w hS => frame' hS .nil (fun B' hB hR hS' => verify_Sym hS' kf0 (kFun x1 x2 x3) (K_kf0 (b1 := x1) (b2 := x2) (b3 := x3) (hR _ _ (by repeat (first | exact Pick.here | apply Pick.there))) (hR _ _ (by repeat (first | exact Pick.here | apply Pick.there))) (hR _ _ (by repeat (first | exact Pick.here | apply Pick.there)))) 2)) ?_; rintro ⟨⟩ -)
              rw [sym_kf0.1]; try dsimp only
              refine oWant rfl rfl ?_
              refine oEql rfl rfl ?_
              refine oPickT rfl rfl ?_
              refine oMove rfl ?_
              first | refine oSplit (t := 61) rfl (fun h61 => ?_) (fun h61 => ?_) | refine oSplitB (t := 61) rfl (fun h61 => ?_) (fun h61 => ?_)
              ·
                refine oWant rfl rfl ?_
                refine oLdA rfl (by repeat (first | exact Pick.here | apply Pick.there)) rfl (by repeat (first | exact SubL.done | apply SubL.take | apply SubL.drop)) ?_
                refine oWant rfl rfl ?_
                (refine oCall rfl (by kernel_rfl) (fun w hS => frame' hS .nil (fun B' hB hR hS' => verify_Sym hS' kf0 (kFun x1 x2 x3) (K_kf0 (b1 := x1) (b2 := x2) (b3 := x3) (hR _ _ (by repeat (first | exact Pick.here | apply Pick.there))) (hR _ _ (by repeat (first | exact Pick.here | apply Pick.there))) (hR _ _ (by repeat (first | exact Pick.here | apply Pick.there)))) 1)) ?_; rintro ⟨⟩ -)
                rw [sym_kf0.2]; try dsimp only
                refine oWant rfl rfl ?_
                refine oEql rfl rfl ?_
                refine oPickT rfl rfl ?_
                refine oMove rfl ?_
                first | refine oSplit (t := 66) rfl (fun h66 => ?_) (fun h66 => ?_) | refine oSplitB (t := 66) rfl (fun h66 => ?_) (fun h66 => ?_)
                ·
                  refine oWant rfl rfl ?_
                  refine oLdA rfl (by repeat (first | exact Pick.here | apply Pick.there)) rfl (by repeat (first | exact SubL.done | apply SubL.take | apply SubL.drop)) ?_
                  refine oWant rfl rfl ?_
                  (refine oCall rfl (by kernel_rfl) (fun w hS => frame' hS .nil (fun B' hB hR hS' => verify_Instr hS' kf0 (kFun x1 x2 x3) (K_kf0 (b1 := x1) (b2 := x2) (b3 := x3) (hR _ _ (by repeat (first | exact Pick.here | apply Pick.there))) (hR _ _ (by repeat (first | exact Pick.here | apply Pick.there))) (hR _ _ (by repeat (first | exact Pick.here | apply Pick.there)))) none 0 [] (Kd.C_nil _ _ _) 2)) ?_; rintro ⟨⟩ -)
                  rw [ins_kf0]; try dsimp only
                  refine oWant rfl rfl ?_
                  refine oEql rfl rfl ?_
                  refine oPickT rfl rfl ?_
                  refine oAssign rfl ?_
                  refine oNil ?_
                  refine thn_n ?_
                  refine wRet ?_
                  refine fin_r ?_
                  refine ⟨rfl, _, (ResL.cons (ResR.tmp rfl) ResL.nil), ?_⟩
                  exact ⟨(), trivial, rfl, (Leads.has (by repeat' (first | exact Has.nil | exact Pick.here | apply Has.cons | apply Pick.there)))⟩
                ·
                  first | exact absurd rfl h66 | cases h66
              ·
                first | exact absurd rfl h61 | cases h61
            ·
              first | exact absurd rfl h56 | cases h56
          ·
            first | exact absurd rfl h52 | cases h52
        ·
          first | exact absurd rfl h48 | cases h48
      ·
        first | exact absurd rfl h45 | cases h45
    ·
      first | exact absurd rfl h41 | cases h41
  ·
    first | exact absurd rfl h37 | cases h37
set_option maxRecDepth 100000 in
theorem ref16_Few {B : Base} {w : World} (hS : St B [] w) (f : ApiFunc) (fc : List Value) (hf : kApiFunc.K B.e f fc) :
    CallsIn Fence.wide 0 Tryz.prog 22 #[.agg fc.toArray] w (Ret B (fun r : Bool => r = true → f.fRelocs.length ≤ 100) (fun r => .bool r) (fun _ => [])) := by
  obtain ⟨A0, c0, A1, c1, A2, c2, A3, c3, rfl, l0, g0, l1, g1, l2, g2, l3, g3⟩ := kApiFunc_open hf
  (refine enter Tryz.func22 rfl rfl hS ?_; simp only [List.zipIdx_cons, List.zipIdx_nil, List.map_cons, List.map_nil, Nat.reduceAdd, Nat.zero_add])
  refine wSeq ?_
  refine wRegion' ?_
  refine oBox rfl (by first | exact CellsOf.agg | exact CellsOf.one rfl) (fun b1 => ?_)
  refine oAssign rfl ?_
  refine oNil ?_
  refine thn_n ?_
  refine wSeq ?_
  refine wRegion' ?_
  refine oFld (n := 1) (m := 1) rfl rfl rfl ?_
  refine oLd rfl (by repeat (first | exact Pick.here | apply Pick.there)) rfl rfl ?_
  refine oLenS rfl rfl ?_
  refine oLeq rfl rfl ?_
  refine oMove rfl ?_
  first | refine oSplit (t := 7) rfl (fun h7 => ?_) (fun h7 => ?_) | refine oSplitB (t := 7) rfl (fun h7 => ?_) (fun h7 => ?_)
  ·
    refine oWant rfl rfl ?_
    refine oFld (n := 6) (m := 6) rfl rfl rfl ?_
    refine oWant rfl rfl ?_
    refine oLd rfl (by repeat (first | exact Pick.here | apply Pick.there)) rfl rfl ?_
    refine oWant rfl rfl ?_
    refine oLenS rfl rfl ?_
    refine oWant rfl rfl ?_
    refine oLeq rfl rfl ?_
    refine oPickT rfl rfl ?_
    refine oMove rfl ?_
    first | refine oSplit (t := 13) rfl (fun h13 => ?_) (fun h13 => ?_) | refine oSplitB (t := 13) rfl (fun h13 => ?_) (fun h13 => ?_)
    ·
      refine oWant rfl rfl ?_
      refine oFld (n := 7) (m := 7) rfl rfl rfl ?_
      refine oWant rfl rfl ?_
      refine oLd rfl (by repeat (first | exact Pick.here | apply Pick.there)) rfl rfl ?_
      refine oWant rfl rfl ?_
      refine oLenS rfl rfl ?_
      refine oWant rfl rfl ?_
      refine oLeq rfl rfl ?_
      refine oPickT rfl rfl ?_
      refine oMove rfl ?_
      first | refine oSplit (t := 19) rfl (fun h19 => ?_) (fun h19 => ?_) | refine oSplitB (t := 19) rfl (fun h19 => ?_) (fun h19 => ?_)
      ·
        refine oWant rfl rfl ?_
        refine oFld (n := 8) (m := 8) rfl rfl rfl ?_
        refine oWant rfl rfl ?_
        refine oLd rfl (by repeat (first | exact Pick.here | apply Pick.there)) rfl rfl ?_
        refine oWant rfl rfl ?_
        refine oLenS rfl rfl ?_
        refine oWant rfl rfl ?_
        refine oLeq rfl rfl ?_
        refine oPickT rfl rfl ?_
        refine oAssign rfl ?_
        refine oNil ?_
        refine thn_n ?_
        refine wRet ?_
        refine fin_r ?_
        refine ⟨rfl, _, (ResL.cons (ResR.tmp rfl) ResL.nil), ?_⟩
        exact ⟨_, (by intro h; first | (simp at h; done) | (have := of_decide_eq_true h; omega)), rfl, (Leads.has (by repeat' (first | exact Has.nil | exact Pick.here | apply Has.cons | apply Pick.there)))⟩
      ·
        refine oSkip rfl rfl rfl rfl ?_
        refine oSkip rfl rfl rfl rfl ?_
        refine oSkip rfl rfl rfl rfl ?_
        refine oSkip rfl rfl rfl rfl ?_
        refine oPickF rfl rfl ?_
        refine oAssign rfl ?_
        refine oNil ?_
        refine thn_n ?_
        refine wRet ?_
        refine fin_r ?_
        refine ⟨rfl, _, (ResL.cons (ResR.tmp rfl) ResL.nil), ?_⟩
        exact ⟨_, (by intro h; first | (simp at h; done) | (have := of_decide_eq_true h; omega)), rfl, (Leads.has (by repeat' (first | exact Has.nil | exact Pick.here | apply Has.cons | apply Pick.there)))⟩
    ·
      refine oSkip rfl rfl rfl rfl ?_
      refine oSkip rfl rfl rfl rfl ?_
      refine oSkip rfl rfl rfl rfl ?_
      refine oSkip rfl rfl rfl rfl ?_
      refine oPickF rfl rfl ?_
      refine oMove rfl ?_
      refine oSkip rfl rfl rfl rfl ?_
      refine oSkip rfl rfl rfl rfl ?_
      refine oSkip rfl rfl rfl rfl ?_
      refine oSkip rfl rfl rfl rfl ?_
      refine oPickF rfl rfl ?_
      refine oAssign rfl ?_
      refine oNil ?_
      refine thn_n ?_
      refine wRet ?_
      refine fin_r ?_
      refine ⟨rfl, _, (ResL.cons (ResR.tmp rfl) ResL.nil), ?_⟩
      exact ⟨_, (by intro h; first | (simp at h; done) | (have := of_decide_eq_true h; omega)), rfl, (Leads.has (by repeat' (first | exact Has.nil | exact Pick.here | apply Has.cons | apply Pick.there)))⟩
  ·
    refine oSkip rfl rfl rfl rfl ?_
    refine oSkip rfl rfl rfl rfl ?_
    refine oSkip rfl rfl rfl rfl ?_
    refine oSkip rfl rfl rfl rfl ?_
    refine oPickF rfl rfl ?_
    refine oMove rfl ?_
    refine oSkip rfl rfl rfl rfl ?_
    refine oSkip rfl rfl rfl rfl ?_
    refine oSkip rfl rfl rfl rfl ?_
    refine oSkip rfl rfl rfl rfl ?_
    refine oPickF rfl rfl ?_
    refine oMove rfl ?_
    refine oSkip rfl rfl rfl rfl ?_
    refine oSkip rfl rfl rfl rfl ?_
    refine oSkip rfl rfl rfl rfl ?_
    refine oSkip rfl rfl rfl rfl ?_
    refine oPickF rfl rfl ?_
    refine oAssign rfl ?_
    refine oNil ?_
    refine thn_n ?_
    refine wRet ?_
    refine fin_r ?_
    refine ⟨rfl, _, (ResL.cons (ResR.tmp rfl) ResL.nil), ?_⟩
    exact ⟨_, (by intro h; first | (simp at h; done) | (have := of_decide_eq_true h; omega)), rfl, (Leads.has (by repeat' (first | exact Has.nil | exact Pick.here | apply Has.cons | apply Pick.there)))⟩
set_option maxRecDepth 100000 in
theorem law_few {B : Base} {w : World} (hS : St B [] w) (A : Option Addr) (n cp : Nat) :
    CallsIn Fence.wide 0 Tryz.prog 23 #[.slice A n cp] w (Ret B (fun _ : Unit => True) (fun _ => .bool (decide ((n : Int) ≤ 60))) (fun _ => [])) := by
  (refine enter Tryz.func23 rfl rfl hS ?_; simp only [List.zipIdx_cons, List.zipIdx_nil, List.map_cons, List.map_nil, Nat.reduceAdd, Nat.zero_add])
  refine wSeq ?_
  refine wRegion' ?_
  refine oAssign rfl ?_
  refine oNil ?_
  refine thn_n ?_
  refine wSeq ?_
  refine wRegion' ?_
  refine oMove rfl ?_
  refine oLenS rfl rfl ?_
  refine oLeq rfl rfl ?_
  refine oAssign rfl ?_
  refine oNil ?_
  refine thn_n ?_
  refine wRet ?_
  refine fin_r ?_
  refine ⟨rfl, _, (ResL.cons (ResR.tmp rfl) ResL.nil), ?_⟩
  exact ⟨(), trivial, rfl, (Leads.has (by repeat' (first | exact Has.nil | exact Pick.here | apply Has.cons | apply Pick.there)))⟩
end Go.Proofs.YtcacohoanlljhaaGreatV
