import Derived.Test.YtogaiijhicfoaaaGreatWl
import Derived.Test.YtogaiijhicfoaaaGreatKib

/-
  The reference of binding: Few, Bind.
-/
namespace Go.Proofs.YtogaiijhicfoaaaGreatW
set_option linter.unusedVariables false
set_option linter.unusedSimpArgs false
open Go.RowKit Go.Proofs.YtogaiijhicfoaaaGreatK Go.Proofs.YtogaiijhicfoaaaGreatT Go.Proofs.YtogaiijhicfoaaaGreatL Go.Proofs.YtogaiijhicfoaaaGreatV Go.Proofs.YtogaiijhicfoaaaGreatG

set_option maxRecDepth 100000 in
set_option maxHeartbeats 1000000 in
theorem ref24_Few {B : Base} {w : World} (hS : St B [] w) (A : Option Addr) (cp : Nat) (l : List ApiObject) (hC : kApiObject.C B.e A l) :
    CallsIn Fence.wide 0 Tryz.prog 15 #[.slice A l.length cp] w (Ret B (fun r : Bool => r = true → FewO l) (fun r => .bool r) (fun _ => [])) := by
  have hl := hC.1
  (refine enter Tryz.func15 rfl rfl hS ?_; simp only [List.zipIdx_cons, List.zipIdx_nil, List.map_cons, List.map_nil, Nat.reduceAdd, Nat.zero_add])
  refine wSeq (wRegion' (oAssign rfl (oNil (thn_n (wSeq (wSeq (wRegion' (oAssign rfl (oNil (thn_n (wBlock ?_)))))))))))
  refine wLoop (ι := Nat) (fun i => [(0, .slice A l.length cp), (3, .int .i64 (i : Int))]) (fun i => []) (fun i => i ≤ l.length ∧ ∀ o ∈ l.take i, FewB o) (fun i => l.length - i) 0 ?_ cv Lh ?_
  ·
   exact ⟨Nat.zero_le _, by simp⟩
  rintro i ⟨hi, hs⟩
  try dsimp only
  refine wSeq (wSeq (wRegion' (oMove rfl (oMove rfl (oLenS rfl rfl (oLss rfl rfl (oNil (thn_n (wC (fun h7 => ?_) (fun h7 => ?_))))))))))
  ·
   obtain ⟨o, ho⟩ : ∃ o, l[i]? = some o := ⟨_, List.getElem?_eq_getElem (by omega)⟩
   obtain ⟨e1, cs1, hE⟩ := hC.elm ho
   obtain ⟨B0, d0, B1, d1, B2, d2, rfl, m0, q0, m1, q1, m2, q2⟩ := kApiObject_open hE.K
   refine wSkip (thn_n (wSeq (wBlock (wSeq (wRegion' (oMove rfl (oMove rfl (oIdxE rfl rfl (hE) (by omega) rfl rfl ?_))))))))
   have hc12 := (hE).cell
   first | refine oLdX rfl hc12 rfl rfl ?_ | refine oLdXA rfl hc12 rfl (by repeat constructor) ?_ | (refine oLdR1 rfl (by repeat constructor) (by omega) rfl (fun u13 hu13 => ?_))
   (refine oCall rfl (by kernel_rfl) (fun w hS => frame hS (by repeat' constructor) (fun B' hB hS' => ref19_Few hS' o _ (kApiObject_mk _ o m0 (Kd.C_grow hB q0) m1 (Kd.C_grow hB q1) m2 (Kd.C_grow hB q2)))) ?_; rintro r14 h14)
   first | refine oNot rfl ?_ | refine oNotB rfl ?_
   refine oNil (thn_n (wC (fun h15 => ?_) (fun h15 => ?_)))
   ·
    refine wSeq (wRegion' (oAssign rfl (oNil (thn_n (wRet (blk_r (thn_r (thn_r (blk_r (thn_r (fin_r ?_)))))))))))
    refine fi1 rfl ?_
    exact ⟨false, (by intro h; cases h), rfl, Lh⟩
   refine wSkip (blk_n (thn_n (wRegion' (oMove rfl (oSucc rfl rfl (by omega) ?_)))))
   refine oAssign rfl (oNil (thn_n ?_))
   exact ⟨rfl, i + 1, ⟨by omega, take_all hs ho (h14 (by simp_all))⟩, by omega, cv, Lh⟩
  refine wExit (thn_x (thn_x (blk_x (thn_n (wSeq (wRegion' (oMove rfl (oLenS rfl rfl (oLeq rfl rfl (oAssign rfl (oNil ?_)))))))))))
  refine thn_n (wRet (fin_r (fi1 rfl ?_)))
  obtain rfl : i = l.length := by omega
  rw [List.take_length] at hs
  exact ⟨_, (by intro h; have := of_decide_eq_true h; exact ⟨by omega, fun o ho => (hs o ho).syms, fun o ho => (hs o ho).funcs, fun o ho => (hs o ho).datas, fun o ho => (hs o ho).fun_, fun o ho => (hs o ho).data⟩), rfl, Lh⟩
set_option maxRecDepth 100000 in
set_option maxHeartbeats 2000000 in
theorem ref24_Bind {B : Base} {w : World} (hS : St B [] w) (A : Option Addr) (cp : Nat) (l : List ApiObject) (W0 : World) (hW : Grow W0 B.e) (hC0 : kApiObject.C W0 A l) (hv : ∀ o ∈ l, vApiObject o) (hsm : FewO l) (s : ByteArray) :
    CallsIn Fence.wide 0 Tryz.prog 17 #[.slice A l.length cp, .string s] w (Ret B (fun z : PZ => z.ok ∧ z.prog (bindP l s).fEntry = bindP l s) (fun z => .tuple #[.agg (z.cells (bindP l s).fEntry).toArray, .agg (rejL (bindR l s)).toArray]) (fun z => [row kFunT W0 49 (.slice z.Af z.ft.length z.cf) z.ft, bun (rws (Kd.int .i64) W0 3 (z.ft.map hdT) z.fr), row kDatT W0 98 (.slice z.Ad z.dt.length z.cd) z.dt, bun (rws (Kd.int .i64) W0 3 (z.dt.map hdT) z.dr)])) := by
  have hln := hsm.len
  have hC := Kd.C_grow hW hC0
  (refine enter Tryz.func17 rfl rfl hS ?_; simp only [List.zipIdx_cons, List.zipIdx_nil, List.map_cons, List.map_nil, Nat.reduceAdd, Nat.zero_add])
  refine wSeq (wRegion' (oAlloc rfl (by repeat constructor) (fun b4 => ?_)))
  refine oAlloc rfl (by repeat constructor) (fun b5 => ?_)
  refine oNil (thn_n (wSeq (wSeq (wRegion' (oMove rfl (oLenS rfl rfl (oEql rfl rfl (oMove rfl ?_))))))))
  first | refine oSplit (t := 17) rfl (fun h17 => ?_) (fun h17 => ?_) | refine oSplitB (t := 17) rfl (fun h17 => ?_) (fun h17 => ?_)
  ·
   refine oSkip rfl rfl rfl rfl (oSkip rfl rfl rfl rfl (oSkip rfl rfl rfl rfl (oPickT rfl rfl (oNil (thn_n ?_)))))
   first | refine wCondT rfl ?_ | refine wCondTd h21 rfl ?_ | refine wCondTb h21 rfl ?_
   refine wSeq (wRegion' (oBuild Parts.nil rfl rfl Built.nil (oBuild (Parts.cons rfl (Parts.cons rfl (Parts.cons rfl Parts.nil))) rfl rfl (Built.cons (off := 0) (s := 1) rfl (by repeat constructor) rfl (by repeat constructor) (Built.cons (off := 1) (s := 1) rfl (by repeat constructor) rfl (by repeat constructor) (Built.cons (off := 2) (s := 1) rfl (by repeat constructor) rfl (by repeat constructor) Built.nil))) ?_)))
   refine oStA rfl rfl rfl rfl (by repeat constructor) (by rfl) ?_
   refine oStA rfl rfl rfl rfl (by repeat constructor) (by rfl) ?_
   refine oNil (thn_n (wRet (thn_r (fin_r ?_))))
   refine ⟨rfl, _, (ResL.cons (by first | exact ResR.cell rfl (by repeat constructor) rfl | exact ResR.agg rfl (by repeat constructor) rfl rfl) (ResL.cons (by first | exact ResR.cell rfl (by repeat constructor) rfl | exact ResR.agg rfl (by repeat constructor) rfl rfl) ResL.nil)), ?_⟩
   have hR : bindR l s = (19, -1, -1) := by unfold bindR; rw [if_pos (by omega)]
   have hP : bindP l s = ⟨[], [], 0⟩ := by unfold bindP; rw [hR, if_neg (by first | decide | exact absurd rfl)]
   exact ⟨⟨none, 0, [], [], none, 0, [], []⟩, ⟨⟨rfl, rfl⟩, by rw [hP]; rfl⟩, by rw [hR, hP]; rfl, (Leads.nilrow.trans (bun_nil.trans (Leads.nilrow.trans (bun_nil.trans Lh))))⟩
  refine oWant rfl rfl (oMove rfl (oWant rfl rfl (oLenS rfl rfl (oWant rfl rfl (oGtr rfl rfl (oPickF rfl rfl (oNil (thn_n (wC (fun h21 => ?_) (fun h21 => ?_))))))))))
  ·
   refine wSeq (wRegion' (oBuild Parts.nil rfl rfl Built.nil (oBuild (Parts.cons rfl (Parts.cons rfl (Parts.cons rfl Parts.nil))) rfl rfl (Built.cons (off := 0) (s := 1) rfl (by repeat constructor) rfl (by repeat constructor) (Built.cons (off := 1) (s := 1) rfl (by repeat constructor) rfl (by repeat constructor) (Built.cons (off := 2) (s := 1) rfl (by repeat constructor) rfl (by repeat constructor) Built.nil))) ?_)))
   refine oStA rfl rfl rfl rfl (by repeat constructor) (by rfl) ?_
   refine oStA rfl rfl rfl rfl (by repeat constructor) (by rfl) ?_
   refine oNil (thn_n (wRet (thn_r (fin_r ?_))))
   refine ⟨rfl, _, (ResL.cons (by first | exact ResR.cell rfl (by repeat constructor) rfl | exact ResR.agg rfl (by repeat constructor) rfl rfl) (ResL.cons (by first | exact ResR.cell rfl (by repeat constructor) rfl | exact ResR.agg rfl (by repeat constructor) rfl rfl) ResL.nil)), ?_⟩
   have hR : bindR l s = (19, -1, -1) := by unfold bindR; rw [if_pos (by omega)]
   have hP : bindP l s = ⟨[], [], 0⟩ := by unfold bindP; rw [hR, if_neg (by first | decide | exact absurd rfl)]
   exact ⟨⟨none, 0, [], [], none, 0, [], []⟩, ⟨⟨rfl, rfl⟩, by rw [hP]; rfl⟩, by rw [hR, hP]; rfl, (Leads.nilrow.trans (bun_nil.trans (Leads.nilrow.trans (bun_nil.trans Lh))))⟩
  have hl0 : ¬ (l.length = 0 ∨ 6 < l.length) := by omega
  refine wSkip (thn_n (wSeq (wSeq (wRegion' (oAssign rfl (oNil (thn_n (wBlock (wLoop (ι := Nat) (fun i => [(0, .slice A l.length cp), (1, .string s), (4, .pointer (some ⟨b4, 0, none⟩)), (5, .pointer (some ⟨b5, 0, none⟩)), (6, .int .i64 (i : Int))]) (fun i => [blk b4 29 [.slice none 0 0, .slice none 0 0, .int .i64 0], blk b5 32 [.int .i64 0, .int .i64 0, .int .i64 0]]) (fun i => i ≤ l.length ∧ ∀ o ∈ l.take i, badB o = false) (fun i => l.length - i) 0 ?_ cv Lh ?_)))))))))
  ·
   exact ⟨Nat.zero_le _, by simp⟩
  rintro i ⟨hi, hs⟩
  try dsimp only
  refine wSeq (wSeq (wRegion' (oMove rfl (oMove rfl (oLenS rfl rfl (oLss rfl rfl (oNil (thn_n (wC (fun h27 => ?_) (fun h27 => ?_))))))))))
  ·
   obtain ⟨o, ho⟩ : ∃ o, l[i]? = some o := ⟨_, List.getElem?_eq_getElem (by omega)⟩
   obtain ⟨e1, cs1, hE⟩ := hC.elm ho
   obtain ⟨B0, d0, B1, d1, B2, d2, rfl, m0, q0, m1, q1, m2, q2⟩ := kApiObject_open hE.K
   have hg := hsm.one hv (List.mem_of_getElem? ho)
   refine wSkip (thn_n (wSeq (wBlock (wSeq (wRegion' (oMove rfl (oMove rfl (oIdxE rfl rfl (hE) (by omega) rfl rfl ?_))))))))
   have hc33 := (hE).cell
   first | refine oLdX rfl hc33 rfl rfl ?_ | refine oLdXA rfl hc33 rfl (by repeat constructor) ?_ | (refine oLdR1 rfl (by repeat constructor) (by omega) rfl (fun u34 hu34 => ?_))
   (refine oCall rfl (by kernel_rfl) (fun w hS => frame hS (by repeat' constructor) (fun B' hB hS' => ref19_Check hS' o _ (kApiObject_mk _ o m0 (Kd.C_grow hB q0) m1 (Kd.C_grow hB q1) m2 (Kd.C_grow hB q2)) hg)) ?_; rintro ⟨⟩ -)
   refine oMove rfl (oExt rfl (by repeat constructor) ?_)
   refine oExt rfl (by repeat constructor) ?_
   refine oAssign rfl (oAssign rfl (oNil (thn_n (wSeq (wRegion' (oMove rfl (oNeq rfl rfl (oNil (thn_n (wC (fun h39 => ?_) (fun h39 => ?_)))))))))))
   ·
    refine wSeq (wRegion' (oBuild Parts.nil rfl rfl Built.nil (oMove rfl (oMove rfl (oMove rfl (oBuild (Parts.cons rfl (Parts.cons rfl (Parts.cons rfl Parts.nil))) rfl rfl (Built.cons (off := 0) (s := 1) rfl (by repeat constructor) rfl (by repeat constructor) (Built.cons (off := 1) (s := 1) rfl (by repeat constructor) rfl (by repeat constructor) (Built.cons (off := 2) (s := 1) rfl (by repeat constructor) rfl (by repeat constructor) Built.nil))) ?_))))))
    refine oStA rfl rfl rfl rfl (by repeat constructor) (by rfl) ?_
    refine oStA rfl rfl rfl rfl (by repeat constructor) (by rfl) ?_
    refine oNil (thn_n (wRet (blk_r (thn_r (thn_r (blk_r (thn_r (fin_r ?_))))))))
    refine ⟨rfl, _, (ResL.cons (by first | exact ResR.cell rfl (by repeat constructor) rfl | exact ResR.agg rfl (by repeat constructor) rfl rfl) (ResL.cons (by first | exact ResR.cell rfl (by repeat constructor) rfl | exact ResR.agg rfl (by repeat constructor) rfl rfl) ResL.nil)), ?_⟩
    have hR : bindR l s = (objE o, (i : Int), objI o) := by have hbi := idxI_stop hs ho (show badB o = true from decide_eq_true h39); unfold bindR; rw [if_neg hl0, hbi, if_pos (by omega), Int.toNat_natCast, objAt_eq ho]
    have hP : bindP l s = ⟨[], [], 0⟩ := by unfold bindP; rw [hR, if_neg (by first | decide | exact h39)]
    exact ⟨⟨none, 0, [], [], none, 0, [], []⟩, ⟨⟨rfl, rfl⟩, by rw [hP]; rfl⟩, by rw [hR, hP]; rfl, (Leads.nilrow.trans (bun_nil.trans (Leads.nilrow.trans (bun_nil.trans Lh))))⟩
   refine wSkip (blk_n (thn_n (wRegion' (oMove rfl (oSucc rfl rfl (by omega) ?_)))))
   refine oAssign rfl (oNil (thn_n ?_))
   exact ⟨rfl, i + 1, ⟨by omega, take_not hs ho (decide_eq_false h39)⟩, by omega, cv, Lh⟩
  obtain rfl : i = l.length := by omega
  rw [List.take_length] at hs
  have hb : ¬ 0 ≤ idxI badB l := by rw [idxI_none hs]; decide
  refine wExit (thn_x (thn_x (blk_x (thn_n (wSeq (wSeq (wRegion' (oMove rfl ?_))))))))
  (refine oCall rfl (by kernel_rfl) (fun w hS => frame hS (by repeat' constructor) (fun B' hB hS' => ref23_Check hS' A cp l (Kd.C_grow hB hC) hsm)) ?_; rintro ⟨⟩ -)
  refine oAlloc rfl (by repeat constructor) (fun b9 => ?_)
  refine oStA rfl rfl rfl rfl (by repeat constructor) (by rfl) ?_
  refine oNil (thn_n (wSeq (wRegion' (oFld (n := 0) (m := 0) rfl rfl rfl (oLd rfl (by repeat constructor) rfl rfl ?_)))))
  refine oNeq rfl rfl (oNil (thn_n (wC (fun h49 => ?_) (fun h49 => ?_))))
  ·
   refine wSeq (wDrawN rfl rfl (anMk (i := 0) (rs := [1]) (by kernel_rfl) ?_))
   refine AllN.cons rfl ?_ ?_
   ·
    refine oBuild Parts.nil rfl rfl Built.nil (oStepEnd (anMk (i := 1) (rs := [2]) (by kernel_rfl) ?_))
    refine AllN.cons rfl ?_ ?_
    ·
     refine oLdA rfl (by repeat constructor) rfl (by repeat constructor) ?_
     refine oStepEnd (anMk (i := 2) (rs := []) (by kernel_rfl) ?_)
     refine AllN.cons rfl ?_ ?_
     ·
      refine oStA rfl rfl rfl rfl (by repeat constructor) (by rfl) ?_
      refine oStepEnd (anMk (i := 3) (rs := []) (by kernel_rfl) ?_)
      refine AllN.cons rfl ?_ ?_
      ·
       refine oStA rfl rfl rfl rfl (by repeat constructor) (by rfl) ?_
       refine oStepEnd (anNil (by kernel_rfl) ?_)
       refine thn_n (wRet (thn_r (fin_r ?_)))
       refine ⟨rfl, _, (ResL.cons (by first | exact ResR.cell rfl (by repeat constructor) rfl | exact ResR.agg rfl (by repeat constructor) rfl rfl) (ResL.cons (by first | exact ResR.cell rfl (by repeat constructor) rfl | exact ResR.agg rfl (by repeat constructor) rfl rfl) ResL.nil)), ?_⟩
       have hR : bindR l s = chk23 l := by unfold bindR; rw [if_neg hl0, if_neg hb, if_pos h49]
       have hP : bindP l s = ⟨[], [], 0⟩ := by unfold bindP; rw [hR, if_neg (by first | decide | exact h49)]
       exact ⟨⟨none, 0, [], [], none, 0, [], []⟩, ⟨⟨rfl, rfl⟩, by rw [hP]; rfl⟩, by rw [hR, hP]; rfl, (Leads.nilrow.trans (bun_nil.trans (Leads.nilrow.trans (bun_nil.trans Lh))))⟩
      exact AllN.nil
     exact AllN.nil
    refine AllN.cons rfl ?_ ?_
    ·
     refine oStA rfl rfl rfl rfl (by repeat constructor) (by rfl) ?_
     refine oStepEnd (anMk (i := 1) (rs := []) (by kernel_rfl) ?_)
     refine AllN.cons rfl ?_ ?_
     ·
      refine oLdA rfl (by repeat constructor) rfl (by repeat constructor) ?_
      refine oStepEnd (anMk (i := 3) (rs := []) (by kernel_rfl) ?_)
      refine AllN.cons rfl ?_ ?_
      ·
       refine oStA rfl rfl rfl rfl (by repeat constructor) (by rfl) ?_
       refine oStepEnd (anNil (by kernel_rfl) ?_)
       refine thn_n (wRet (thn_r (fin_r ?_)))
       refine ⟨rfl, _, (ResL.cons (by first | exact ResR.cell rfl (by repeat constructor) rfl | exact ResR.agg rfl (by repeat constructor) rfl rfl) (ResL.cons (by first | exact ResR.cell rfl (by repeat constructor) rfl | exact ResR.agg rfl (by repeat constructor) rfl rfl) ResL.nil)), ?_⟩
       have hR : bindR l s = chk23 l := by unfold bindR; rw [if_neg hl0, if_neg hb, if_pos h49]
       have hP : bindP l s = ⟨[], [], 0⟩ := by unfold bindP; rw [hR, if_neg (by first | decide | exact h49)]
       exact ⟨⟨none, 0, [], [], none, 0, [], []⟩, ⟨⟨rfl, rfl⟩, by rw [hP]; rfl⟩, by rw [hR, hP]; rfl, (Leads.nilrow.trans (bun_nil.trans (Leads.nilrow.trans (bun_nil.trans Lh))))⟩
      exact AllN.nil
     exact AllN.nil
    exact AllN.nil
   refine AllN.cons rfl ?_ ?_
   ·
    refine oLdA rfl (by repeat constructor) rfl (by repeat constructor) ?_
    refine oStepEnd (anMk (i := 0) (rs := []) (by kernel_rfl) ?_)
    refine AllN.cons rfl ?_ ?_
    ·
     refine oBuild Parts.nil rfl rfl Built.nil (oStepEnd (anMk (i := 2) (rs := []) (by kernel_rfl) ?_))
     refine AllN.cons rfl ?_ ?_
     ·
      refine oStA rfl rfl rfl rfl (by repeat constructor) (by rfl) ?_
      refine oStepEnd (anMk (i := 3) (rs := []) (by kernel_rfl) ?_)
      refine AllN.cons rfl ?_ ?_
      ·
       refine oStA rfl rfl rfl rfl (by repeat constructor) (by rfl) ?_
       refine oStepEnd (anNil (by kernel_rfl) ?_)
       refine thn_n (wRet (thn_r (fin_r ?_)))
       refine ⟨rfl, _, (ResL.cons (by first | exact ResR.cell rfl (by repeat constructor) rfl | exact ResR.agg rfl (by repeat constructor) rfl rfl) (ResL.cons (by first | exact ResR.cell rfl (by repeat constructor) rfl | exact ResR.agg rfl (by repeat constructor) rfl rfl) ResL.nil)), ?_⟩
       have hR : bindR l s = chk23 l := by unfold bindR; rw [if_neg hl0, if_neg hb, if_pos h49]
       have hP : bindP l s = ⟨[], [], 0⟩ := by unfold bindP; rw [hR, if_neg (by first | decide | exact h49)]
       exact ⟨⟨none, 0, [], [], none, 0, [], []⟩, ⟨⟨rfl, rfl⟩, by rw [hP]; rfl⟩, by rw [hR, hP]; rfl, (Leads.nilrow.trans (bun_nil.trans (Leads.nilrow.trans (bun_nil.trans Lh))))⟩
      exact AllN.nil
     exact AllN.nil
    exact AllN.nil
   exact AllN.nil
  have hok : OkL l := ⟨hsm, fun o ho => Classical.not_not.1 (of_decide_eq_false (hs o ho)), Classical.not_not.1 h49⟩
  refine wSkip (thn_n (wSeq (wRegion' (oMove rfl (oMove rfl ?_)))))
  (refine oCall rfl (by kernel_rfl) (fun w hS => frame hS (by repeat' constructor) (fun B' hB hS' => ref23_Find hS' A cp l (Kd.C_grow hB hC) hsm s)) ?_; rintro ⟨⟩ -)
  refine oMove rfl (oExt rfl (by repeat constructor) ?_)
  refine oExt rfl (by repeat constructor) ?_
  refine oExt rfl (by repeat constructor) ?_
  refine oAssign rfl (oAssign rfl (oAssign rfl (oNil (thn_n (wSeq (wSeq (wRegion' (oMove rfl ?_))))))))
  first | refine oNot rfl ?_ | refine oNotB rfl ?_
  refine oMove rfl ?_
  first | refine oSplit (t := 61) rfl (fun h61 => ?_) (fun h61 => ?_) | refine oSplitB (t := 61) rfl (fun h61 => ?_) (fun h61 => ?_)
  ·
   refine oSkip rfl rfl rfl rfl (oSkip rfl rfl rfl rfl (oSkip rfl rfl rfl rfl (oSkip rfl rfl rfl rfl (oSkip rfl rfl rfl rfl (oSkip rfl rfl rfl rfl (oSkip rfl rfl rfl rfl (oSkip rfl rfl rfl rfl (oSkip rfl rfl rfl rfl (oSkip rfl rfl rfl rfl (oPickT rfl rfl (oMove rfl ?_)))))))))))
   refine oSkip rfl rfl rfl rfl (oSkip rfl rfl rfl rfl (oSkip rfl rfl rfl rfl (oSkip rfl rfl rfl rfl (oSkip rfl rfl rfl rfl (oSkip rfl rfl rfl rfl (oSkip rfl rfl rfl rfl (oSkip rfl rfl rfl rfl (oSkip rfl rfl rfl rfl (oSkip rfl rfl rfl rfl (oPickT rfl rfl (oNil ?_)))))))))))
   refine thn_n ?_
   first | refine wCondT rfl ?_ | refine wCondTd h84 rfl ?_ | refine wCondTb h84 rfl ?_
   refine wSeq (wRegion' (oBuild Parts.nil rfl rfl Built.nil (oBuild (Parts.cons rfl (Parts.cons rfl (Parts.cons rfl Parts.nil))) rfl rfl (Built.cons (off := 0) (s := 1) rfl (by repeat constructor) rfl (by repeat constructor) (Built.cons (off := 1) (s := 1) rfl (by repeat constructor) rfl (by repeat constructor) (Built.cons (off := 2) (s := 1) rfl (by repeat constructor) rfl (by repeat constructor) Built.nil))) ?_)))
   refine oStA rfl rfl rfl rfl (by repeat constructor) (by rfl) ?_
   refine oStA rfl rfl rfl rfl (by repeat constructor) (by rfl) ?_
   refine oNil (thn_n (wRet (thn_r (fin_r ?_))))
   refine ⟨rfl, _, (ResL.cons (by first | exact ResR.cell rfl (by repeat constructor) rfl | exact ResR.agg rfl (by repeat constructor) rfl rfl) (ResL.cons (by first | exact ResR.cell rfl (by repeat constructor) rfl | exact ResR.agg rfl (by repeat constructor) rfl rfl) ResL.nil)), ?_⟩
   have hR : bindR l s = (15, -1, -1) := by unfold bindR; rw [if_neg hl0, if_neg hb, if_neg h49, if_pos (.inl (by simpa using h61))]
   have hP : bindP l s = ⟨[], [], 0⟩ := by unfold bindP; rw [hR, if_neg (by first | decide | exact absurd rfl)]
   exact ⟨⟨none, 0, [], [], none, 0, [], []⟩, ⟨⟨rfl, rfl⟩, by rw [hP]; rfl⟩, by rw [hR, hP]; rfl, (Leads.nilrow.trans (bun_nil.trans (Leads.nilrow.trans (bun_nil.trans Lh))))⟩
  obtain ⟨i, k, o, x, hfe, ho, hx, hgx⟩ := fnd_some (show (fnd l s).2.2 = true by simpa using h61)
  have hso := symOf_eq ho hx
  have hil := (List.getElem?_eq_some_iff.1 ho).1
  have hkl := (List.getElem?_eq_some_iff.1 hx).1
  obtain ⟨e3, cs3, hE3⟩ := hC.elm ho
  obtain ⟨C0, f0, C1, f1, C2, f2, rfl, n0, r0, n1, r1, n2, r2⟩ := kApiObject_open hE3.K
  obtain ⟨e4, cs4, hE4⟩ := r0.elm hx
  obtain rfl := kApiSymbol_open hE4.K
  rw [hfe]
  dsimp only
  refine oWant rfl rfl (oMove rfl (oWant rfl rfl (oMove rfl (oWant rfl rfl (oIdxE rfl rfl (hE3) (by omega) rfl rfl ?_)))))
  have hc64 := (hE3).cell
  refine oWant rfl rfl ?_
  first | refine oFldX (n := 0) (m := 0) rfl rfl rfl ?_ | refine oFldR (n := 0) (m := 0) rfl rfl rfl ?_ | refine oFldD (n := 0) (m := 0) rfl rfl rfl ?_
  refine oWant rfl rfl ?_
  first | refine oLdX rfl hc64 rfl rfl ?_ | refine oLdXA rfl hc64 rfl (by repeat constructor) ?_ | (refine oLdR1 rfl (by repeat constructor) (by omega) rfl (fun u66 hu66 => ?_))
  refine oWant rfl rfl (oMove rfl (oWant rfl rfl (oIdxE rfl rfl (hE4) (by omega) rfl rfl ?_)))
  have hc68 := (hE4).cell
  refine oWant rfl rfl ?_
  first | refine oFldX (n := 2) (m := 2) rfl rfl rfl ?_ | refine oFldR (n := 2) (m := 2) rfl rfl rfl ?_ | refine oFldD (n := 2) (m := 2) rfl rfl rfl ?_
  refine oWant rfl rfl ?_
  first | refine oLdX rfl hc68 rfl rfl ?_ | refine oLdXA rfl hc68 rfl (by repeat constructor) ?_ | (refine oLdR1 rfl (by repeat constructor) (by omega) rfl (fun u70 hu70 => ?_))
  refine oWant rfl rfl (oNeq rfl rfl (oPickF rfl rfl (oMove rfl ?_)))
  first | refine oSplit (t := 73) rfl (fun h73 => ?_) (fun h73 => ?_) | refine oSplitB (t := 73) rfl (fun h73 => ?_) (fun h73 => ?_)
  ·
   refine oSkip rfl rfl rfl rfl (oSkip rfl rfl rfl rfl (oSkip rfl rfl rfl rfl (oSkip rfl rfl rfl rfl (oSkip rfl rfl rfl rfl (oSkip rfl rfl rfl rfl (oSkip rfl rfl rfl rfl (oSkip rfl rfl rfl rfl (oSkip rfl rfl rfl rfl (oSkip rfl rfl rfl rfl (oPickT rfl rfl (oNil ?_)))))))))))
   refine thn_n ?_
   first | refine wCondT rfl ?_ | refine wCondTd h84 rfl ?_ | refine wCondTb h84 rfl ?_
   refine wSeq (wRegion' (oBuild Parts.nil rfl rfl Built.nil (oBuild (Parts.cons rfl (Parts.cons rfl (Parts.cons rfl Parts.nil))) rfl rfl (Built.cons (off := 0) (s := 1) rfl (by repeat constructor) rfl (by repeat constructor) (Built.cons (off := 1) (s := 1) rfl (by repeat constructor) rfl (by repeat constructor) (Built.cons (off := 2) (s := 1) rfl (by repeat constructor) rfl (by repeat constructor) Built.nil))) ?_)))
   refine oStA rfl rfl rfl rfl (by repeat constructor) (by rfl) ?_
   refine oStA rfl rfl rfl rfl (by repeat constructor) (by rfl) ?_
   refine oNil (thn_n (wRet (thn_r (fin_r ?_))))
   refine ⟨rfl, _, (ResL.cons (by first | exact ResR.cell rfl (by repeat constructor) rfl | exact ResR.agg rfl (by repeat constructor) rfl rfl) (ResL.cons (by first | exact ResR.cell rfl (by repeat constructor) rfl | exact ResR.agg rfl (by repeat constructor) rfl rfl) ResL.nil)), ?_⟩
   have hR : bindR l s = (15, -1, -1) := by unfold bindR; rw [if_neg hl0, if_neg hb, if_neg h49, hfe]; dsimp only; rw [hso, if_pos (by omega)]
   have hP : bindP l s = ⟨[], [], 0⟩ := by unfold bindP; rw [hR, if_neg (by first | decide | exact absurd rfl)]
   exact ⟨⟨none, 0, [], [], none, 0, [], []⟩, ⟨⟨rfl, rfl⟩, by rw [hP]; rfl⟩, by rw [hR, hP]; rfl, (Leads.nilrow.trans (bun_nil.trans (Leads.nilrow.trans (bun_nil.trans Lh))))⟩
  refine oWant rfl rfl (oMove rfl (oWant rfl rfl (oMove rfl (oWant rfl rfl (oIdxE rfl rfl (hE3) (by omega) rfl rfl ?_)))))
  have hc76 := (hE3).cell
  refine oWant rfl rfl ?_
  first | refine oFldX (n := 0) (m := 0) rfl rfl rfl ?_ | refine oFldR (n := 0) (m := 0) rfl rfl rfl ?_ | refine oFldD (n := 0) (m := 0) rfl rfl rfl ?_
  refine oWant rfl rfl ?_
  first | refine oLdX rfl hc76 rfl rfl ?_ | refine oLdXA rfl hc76 rfl (by repeat constructor) ?_ | (refine oLdR1 rfl (by repeat constructor) (by omega) rfl (fun u78 hu78 => ?_))
  refine oWant rfl rfl (oMove rfl (oWant rfl rfl (oIdxE rfl rfl (hE4) (by omega) rfl rfl ?_)))
  have hc80 := (hE4).cell
  refine oWant rfl rfl ?_
  first | refine oFldX (n := 3) (m := 3) rfl rfl rfl ?_ | refine oFldR (n := 3) (m := 3) rfl rfl rfl ?_ | refine oFldD (n := 3) (m := 3) rfl rfl rfl ?_
  refine oWant rfl rfl ?_
  first | refine oLdX rfl hc80 rfl rfl ?_ | refine oLdXA rfl hc80 rfl (by repeat constructor) ?_ | (refine oLdR1 rfl (by repeat constructor) (by omega) rfl (fun u82 hu82 => ?_))
  refine oWant rfl rfl (oGtr rfl rfl (oPickF rfl rfl (oNil (thn_n (wC (fun h84 => ?_) (fun h84 => ?_))))))
  ·
   refine wSeq (wRegion' (oBuild Parts.nil rfl rfl Built.nil (oBuild (Parts.cons rfl (Parts.cons rfl (Parts.cons rfl Parts.nil))) rfl rfl (Built.cons (off := 0) (s := 1) rfl (by repeat constructor) rfl (by repeat constructor) (Built.cons (off := 1) (s := 1) rfl (by repeat constructor) rfl (by repeat constructor) (Built.cons (off := 2) (s := 1) rfl (by repeat constructor) rfl (by repeat constructor) Built.nil))) ?_)))
   refine oStA rfl rfl rfl rfl (by repeat constructor) (by rfl) ?_
   refine oStA rfl rfl rfl rfl (by repeat constructor) (by rfl) ?_
   refine oNil (thn_n (wRet (thn_r (fin_r ?_))))
   refine ⟨rfl, _, (ResL.cons (by first | exact ResR.cell rfl (by repeat constructor) rfl | exact ResR.agg rfl (by repeat constructor) rfl rfl) (ResL.cons (by first | exact ResR.cell rfl (by repeat constructor) rfl | exact ResR.agg rfl (by repeat constructor) rfl rfl) ResL.nil)), ?_⟩
   have hR : bindR l s = (15, -1, -1) := by unfold bindR; rw [if_neg hl0, if_neg hb, if_neg h49, hfe]; dsimp only; rw [hso, if_pos (by omega)]
   have hP : bindP l s = ⟨[], [], 0⟩ := by unfold bindP; rw [hR, if_neg (by first | decide | exact absurd rfl)]
   exact ⟨⟨none, 0, [], [], none, 0, [], []⟩, ⟨⟨rfl, rfl⟩, by rw [hP]; rfl⟩, by rw [hR, hP]; rfl, (Leads.nilrow.trans (bun_nil.trans (Leads.nilrow.trans (bun_nil.trans Lh))))⟩
  have hR : bindR l s = (0, 0, 0) := by unfold bindR; rw [if_neg hl0, if_neg hb, if_neg h49, hfe]; dsimp only; rw [hso, if_neg (by simp; omega)]
  refine wSkip (thn_n (wSeq (wRegion' (oMove rfl ?_))))
  (refine oCall rfl (by kernel_rfl) (fun w hS => frame hS (by repeat' constructor) (fun B' hB hS' => ref24_program hS' A cp l W0 (hW.trans hB) hC0 hv hok)) ?_; rintro z ⟨hz, hzf, hzd⟩)
  refine oAlloc rfl (by repeat constructor) (fun b13 => ?_)
  refine oStA rfl rfl rfl rfl (by repeat constructor) (by rfl) ?_
  refine oNil (thn_n (wSeq (wRegion' (oMove rfl (oMove rfl (oMove rfl ?_))))))
  (refine oCall rfl (by kernel_rfl) (fun w hS => frame hS (by repeat' constructor) (fun B' hB hS' => ref24_number hS' A cp l (Kd.C_grow hB hC) hsm i k (hok.bnd ho hkl))) ?_; rintro ⟨⟩ -)
  refine oFld (n := 2) (m := 2) rfl rfl rfl (oSt rfl rfl rfl rfl rfl (by repeat constructor) (by repeat constructor) ?_)
  refine oNil (thn_n (wSeq (wRegion' (oLdA rfl (by repeat constructor) rfl (by repeat constructor) ?_))))
  refine oBuild Parts.nil rfl rfl Built.nil (oStA rfl rfl rfl rfl (by repeat constructor) (by rfl) ?_)
  refine oStA rfl rfl rfl rfl (by repeat constructor) (by rfl) ?_
  refine oNil (thn_n (wRet (fin_r ?_)))
  refine ⟨rfl, _, (ResL.cons (by first | exact ResR.cell rfl (by repeat constructor) rfl | exact ResR.agg rfl (by repeat constructor) rfl rfl) (ResL.cons (by first | exact ResR.cell rfl (by repeat constructor) rfl | exact ResR.agg rfl (by repeat constructor) rfl rfl) ResL.nil)), ?_⟩
  have hP : bindP l s = ⟨funsTo l l.length, datsTo l l.length, numberF l i k⟩ := by unfold bindP; rw [hR, if_pos rfl, hfe]
  exact ⟨z, ⟨hz, by rw [hP]; unfold PZ.prog; rw [hzf, hzd]⟩, by rw [hR, hP]; rfl, Lh⟩
end Go.Proofs.YtogaiijhicfoaaaGreatW
