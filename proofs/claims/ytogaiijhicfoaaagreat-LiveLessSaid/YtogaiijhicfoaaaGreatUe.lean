import Derived.Test.YtogaiijhicfoaaaGreatUd
import Derived.Test.YtogaiijhicfoaaaGreatWm

/-
  Of the statements on calls: what is small, what is spoilt.
-/
namespace Go.Proofs.YtogaiijhicfoaaaGreatU
set_option linter.unusedVariables false
set_option linter.unusedSimpArgs false
open Go.RowKit Go.Proofs.YtogaiijhicfoaaaGreatK Go.Proofs.YtogaiijhicfoaaaGreatT Go.Proofs.YtogaiijhicfoaaaGreatL Go.Proofs.YtogaiijhicfoaaaGreatV Go.Proofs.YtogaiijhicfoaaaGreatG Go.Proofs.YtogaiijhicfoaaaGreatW

abbrev fewFun (f : ApiFun) : Prop := f.fF.fCode.length ≤ 80 ∧ f.fRefs.length ≤ 80 ∧ f.fF.fKinds.length ≤ 80 ∧ f.fF.fRelocs.length ≤ 80 ∧ f.fF.fLines.length ≤ 80
abbrev fewDat (d : ApiDat) : Prop := d.fD.fWords.length ≤ 80 ∧ d.fRefs.length ≤ 80 ∧ d.fD.fRelocs.length ≤ 80
set_option maxRecDepth 100000 in
set_option maxHeartbeats 1000000 in
theorem ref25_Few {B : Base} {w : World} (hS : St B [] w) (p : ApiProgram) (pc : List Value) (hp : kApiProgram.K B.e p pc) :
    CallsIn Fence.wide 0 Tryz.prog 19 #[.agg pc.toArray] w (Ret B (fun r : Bool => r = true → SmallP p) (fun r => .bool r) (fun _ => [])) := by
  obtain ⟨A0, c0, A1, c1, rfl, l0, g0, l1, g1⟩ := kApiProgram_open hp
  have hl0 := g0.1
  have hl1 := g1.1
  (refine enter Tryz.func19 rfl rfl hS ?_; simp only [List.zipIdx_cons, List.zipIdx_nil, List.map_cons, List.map_nil, Nat.reduceAdd, Nat.zero_add])
  refine wSeq (wRegion' (oBox rfl (by repeat constructor) (fun b1 => ?_)))
  refine oAssign rfl (oNil (thn_n (wSeq (wSeq (wRegion' (oAssign rfl (oNil (thn_n (wBlock (wLoop (ι := Nat) (fun i => [(1, .pointer (some ⟨b1, 0, none⟩)), (3, .int .i64 (i : Int))]) (fun i => [blk b1 29 [.slice A0 p.fFuns.length c0, .slice A1 p.fDats.length c1, .int .i64 p.fEntry]]) (fun i => i ≤ p.fFuns.length ∧ ∀ f ∈ p.fFuns.take i, fewFun f) (fun i => p.fFuns.length - i) 0 ?_ cv Lh ?_))))))))))
  ·
   exact ⟨Nat.zero_le _, by simp⟩
  rintro i ⟨hi, hs⟩
  try dsimp only
  refine wSeq (wSeq (wRegion' (oMove rfl (oFld (n := 0) (m := 0) rfl rfl rfl (oLd rfl (by repeat constructor) rfl rfl ?_)))))
  refine oLenS rfl rfl (oLss rfl rfl (oNil (thn_n (wC (fun h9 => ?_) (fun h9 => ?_)))))
  ·
   obtain ⟨f, hf⟩ : ∃ f, p.fFuns[i]? = some f := ⟨_, List.getElem?_eq_getElem (by omega)⟩
   obtain ⟨ef, csf, hEf⟩ := g0.elm hf
   obtain ⟨D0, d0, D1, d1, D2, d2, D3, d3, D4, d4, rfl, m0, q0, m1, q1, m2, q2, m3, q3, m4, q4⟩ := kApiFun_open hEf.K
   refine wSkip (thn_n (wSeq (wBlock (wSeq (wRegion' (oFld (n := 0) (m := 0) rfl rfl rfl (oLd rfl (by repeat constructor) rfl rfl ?_)))))))
   refine oMove rfl (oIdxE rfl rfl (hEf) (by omega) rfl rfl ?_)
   have hc15 := (hEf).cell
   first | refine oFldX (n := 3) (m := 3) rfl rfl rfl ?_ | refine oFldR (n := 3) (m := 3) rfl rfl rfl ?_ | refine oFldD (n := 3) (m := 3) rfl rfl rfl ?_
   first | refine oFldX (n := 7) (m := 10) rfl rfl rfl ?_ | refine oFldR (n := 7) (m := 10) rfl rfl rfl ?_ | refine oFldD (n := 7) (m := 10) rfl rfl rfl ?_
   first | refine oLdX rfl hc15 rfl rfl ?_ | refine oLdXA rfl hc15 rfl (by repeat constructor) ?_ | (refine oLdR1 rfl (by repeat constructor) (by omega) rfl (fun u18 hu18 => ?_))
   refine oLenS rfl rfl (oGtr rfl rfl (oMove rfl ?_))
   first | refine oSplit (t := 21) rfl (fun h21 => ?_) (fun h21 => ?_) | refine oSplitB (t := 21) rfl (fun h21 => ?_) (fun h21 => ?_)
   ·
    refine oSkip rfl rfl rfl rfl (oSkip rfl rfl rfl rfl (oSkip rfl rfl rfl rfl (oSkip rfl rfl rfl rfl (oSkip rfl rfl rfl rfl (oSkip rfl rfl rfl rfl (oSkip rfl rfl rfl rfl (oSkip rfl rfl rfl rfl (oPickT rfl rfl (oMove rfl (oSkip rfl rfl rfl rfl (oSkip rfl rfl rfl rfl ?_)))))))))))
    refine oSkip rfl rfl rfl rfl (oSkip rfl rfl rfl rfl (oSkip rfl rfl rfl rfl (oSkip rfl rfl rfl rfl (oSkip rfl rfl rfl rfl (oSkip rfl rfl rfl rfl (oSkip rfl rfl rfl rfl (oPickT rfl rfl (oMove rfl (oSkip rfl rfl rfl rfl (oSkip rfl rfl rfl rfl (oSkip rfl rfl rfl rfl ?_)))))))))))
    refine oSkip rfl rfl rfl rfl (oSkip rfl rfl rfl rfl (oSkip rfl rfl rfl rfl (oSkip rfl rfl rfl rfl (oSkip rfl rfl rfl rfl (oSkip rfl rfl rfl rfl (oPickT rfl rfl (oMove rfl (oSkip rfl rfl rfl rfl (oSkip rfl rfl rfl rfl (oSkip rfl rfl rfl rfl (oSkip rfl rfl rfl rfl ?_)))))))))))
    refine oSkip rfl rfl rfl rfl (oSkip rfl rfl rfl rfl (oSkip rfl rfl rfl rfl (oSkip rfl rfl rfl rfl (oSkip rfl rfl rfl rfl (oPickT rfl rfl (oNil (thn_n ?_)))))))
    first | refine wCondT rfl ?_ | refine wCondTd h63 rfl ?_ | refine wCondTb h63 rfl ?_
    refine wSeq (wRegion' (oAssign rfl (oNil (thn_n (wRet (blk_r (thn_r (thn_r (blk_r (thn_r (fin_r ?_)))))))))))
    refine fi1 rfl ?_
    exact ⟨false, (by intro h; cases h), rfl, Lh⟩
   refine oWant rfl rfl (oFld (n := 0) (m := 0) rfl rfl rfl (oWant rfl rfl (oLd rfl (by repeat constructor) rfl rfl ?_)))
   refine oWant rfl rfl (oMove rfl (oWant rfl rfl (oIdxE rfl rfl (hEf) (by omega) rfl rfl ?_)))
   have hc25 := (hEf).cell
   refine oWant rfl rfl ?_
   first | refine oFldX (n := 12) (m := 12) rfl rfl rfl ?_ | refine oFldR (n := 12) (m := 12) rfl rfl rfl ?_ | refine oFldD (n := 12) (m := 12) rfl rfl rfl ?_
   refine oWant rfl rfl ?_
   first | refine oLdX rfl hc25 rfl rfl ?_ | refine oLdXA rfl hc25 rfl (by repeat constructor) ?_ | (refine oLdR1 rfl (by repeat constructor) (by omega) rfl (fun u27 hu27 => ?_))
   refine oWant rfl rfl (oLenS rfl rfl (oWant rfl rfl (oGtr rfl rfl (oPickF rfl rfl (oMove rfl ?_)))))
   first | refine oSplit (t := 31) rfl (fun h31 => ?_) (fun h31 => ?_) | refine oSplitB (t := 31) rfl (fun h31 => ?_) (fun h31 => ?_)
   ·
    refine oSkip rfl rfl rfl rfl (oSkip rfl rfl rfl rfl (oSkip rfl rfl rfl rfl (oSkip rfl rfl rfl rfl (oSkip rfl rfl rfl rfl (oSkip rfl rfl rfl rfl (oSkip rfl rfl rfl rfl (oSkip rfl rfl rfl rfl (oSkip rfl rfl rfl rfl (oPickT rfl rfl (oMove rfl (oSkip rfl rfl rfl rfl ?_)))))))))))
    refine oSkip rfl rfl rfl rfl (oSkip rfl rfl rfl rfl (oSkip rfl rfl rfl rfl (oSkip rfl rfl rfl rfl (oSkip rfl rfl rfl rfl (oSkip rfl rfl rfl rfl (oSkip rfl rfl rfl rfl (oSkip rfl rfl rfl rfl (oPickT rfl rfl (oMove rfl (oSkip rfl rfl rfl rfl (oSkip rfl rfl rfl rfl ?_)))))))))))
    refine oSkip rfl rfl rfl rfl (oSkip rfl rfl rfl rfl (oSkip rfl rfl rfl rfl (oSkip rfl rfl rfl rfl (oSkip rfl rfl rfl rfl (oSkip rfl rfl rfl rfl (oSkip rfl rfl rfl rfl (oPickT rfl rfl (oNil (thn_n ?_)))))))))
    first | refine wCondT rfl ?_ | refine wCondTd h63 rfl ?_ | refine wCondTb h63 rfl ?_
    refine wSeq (wRegion' (oAssign rfl (oNil (thn_n (wRet (blk_r (thn_r (thn_r (blk_r (thn_r (fin_r ?_)))))))))))
    refine fi1 rfl ?_
    exact ⟨false, (by intro h; cases h), rfl, Lh⟩
   refine oWant rfl rfl (oFld (n := 0) (m := 0) rfl rfl rfl (oWant rfl rfl (oLd rfl (by repeat constructor) rfl rfl ?_)))
   refine oWant rfl rfl (oMove rfl (oWant rfl rfl (oIdxE rfl rfl (hEf) (by omega) rfl rfl ?_)))
   have hc35 := (hEf).cell
   refine oWant rfl rfl ?_
   first | refine oFldX (n := 3) (m := 3) rfl rfl rfl ?_ | refine oFldR (n := 3) (m := 3) rfl rfl rfl ?_ | refine oFldD (n := 3) (m := 3) rfl rfl rfl ?_
   refine oWant rfl rfl ?_
   first | refine oFldX (n := 1) (m := 4) rfl rfl rfl ?_ | refine oFldR (n := 1) (m := 4) rfl rfl rfl ?_ | refine oFldD (n := 1) (m := 4) rfl rfl rfl ?_
   refine oWant rfl rfl ?_
   first | refine oLdX rfl hc35 rfl rfl ?_ | refine oLdXA rfl hc35 rfl (by repeat constructor) ?_ | (refine oLdR1 rfl (by repeat constructor) (by omega) rfl (fun u38 hu38 => ?_))
   refine oWant rfl rfl (oLenS rfl rfl (oWant rfl rfl (oGtr rfl rfl (oPickF rfl rfl (oMove rfl ?_)))))
   first | refine oSplit (t := 42) rfl (fun h42 => ?_) (fun h42 => ?_) | refine oSplitB (t := 42) rfl (fun h42 => ?_) (fun h42 => ?_)
   ·
    refine oSkip rfl rfl rfl rfl (oSkip rfl rfl rfl rfl (oSkip rfl rfl rfl rfl (oSkip rfl rfl rfl rfl (oSkip rfl rfl rfl rfl (oSkip rfl rfl rfl rfl (oSkip rfl rfl rfl rfl (oSkip rfl rfl rfl rfl (oSkip rfl rfl rfl rfl (oPickT rfl rfl (oMove rfl (oSkip rfl rfl rfl rfl ?_)))))))))))
    refine oSkip rfl rfl rfl rfl (oSkip rfl rfl rfl rfl (oSkip rfl rfl rfl rfl (oSkip rfl rfl rfl rfl (oSkip rfl rfl rfl rfl (oSkip rfl rfl rfl rfl (oSkip rfl rfl rfl rfl (oSkip rfl rfl rfl rfl (oPickT rfl rfl (oNil (thn_n ?_))))))))))
    first | refine wCondT rfl ?_ | refine wCondTd h63 rfl ?_ | refine wCondTb h63 rfl ?_
    refine wSeq (wRegion' (oAssign rfl (oNil (thn_n (wRet (blk_r (thn_r (thn_r (blk_r (thn_r (fin_r ?_)))))))))))
    refine fi1 rfl ?_
    exact ⟨false, (by intro h; cases h), rfl, Lh⟩
   refine oWant rfl rfl (oFld (n := 0) (m := 0) rfl rfl rfl (oWant rfl rfl (oLd rfl (by repeat constructor) rfl rfl ?_)))
   refine oWant rfl rfl (oMove rfl (oWant rfl rfl (oIdxE rfl rfl (hEf) (by omega) rfl rfl ?_)))
   have hc46 := (hEf).cell
   refine oWant rfl rfl ?_
   first | refine oFldX (n := 3) (m := 3) rfl rfl rfl ?_ | refine oFldR (n := 3) (m := 3) rfl rfl rfl ?_ | refine oFldD (n := 3) (m := 3) rfl rfl rfl ?_
   refine oWant rfl rfl ?_
   first | refine oFldX (n := 8) (m := 11) rfl rfl rfl ?_ | refine oFldR (n := 8) (m := 11) rfl rfl rfl ?_ | refine oFldD (n := 8) (m := 11) rfl rfl rfl ?_
   refine oWant rfl rfl ?_
   first | refine oLdX rfl hc46 rfl rfl ?_ | refine oLdXA rfl hc46 rfl (by repeat constructor) ?_ | (refine oLdR1 rfl (by repeat constructor) (by omega) rfl (fun u49 hu49 => ?_))
   refine oWant rfl rfl (oLenS rfl rfl (oWant rfl rfl (oGtr rfl rfl (oPickF rfl rfl (oMove rfl ?_)))))
   first | refine oSplit (t := 53) rfl (fun h53 => ?_) (fun h53 => ?_) | refine oSplitB (t := 53) rfl (fun h53 => ?_) (fun h53 => ?_)
   ·
    refine oSkip rfl rfl rfl rfl (oSkip rfl rfl rfl rfl (oSkip rfl rfl rfl rfl (oSkip rfl rfl rfl rfl (oSkip rfl rfl rfl rfl (oSkip rfl rfl rfl rfl (oSkip rfl rfl rfl rfl (oSkip rfl rfl rfl rfl (oSkip rfl rfl rfl rfl (oPickT rfl rfl (oNil (thn_n ?_)))))))))))
    first | refine wCondT rfl ?_ | refine wCondTd h63 rfl ?_ | refine wCondTb h63 rfl ?_
    refine wSeq (wRegion' (oAssign rfl (oNil (thn_n (wRet (blk_r (thn_r (thn_r (blk_r (thn_r (fin_r ?_)))))))))))
    refine fi1 rfl ?_
    exact ⟨false, (by intro h; cases h), rfl, Lh⟩
   refine oWant rfl rfl (oFld (n := 0) (m := 0) rfl rfl rfl (oWant rfl rfl (oLd rfl (by repeat constructor) rfl rfl ?_)))
   refine oWant rfl rfl (oMove rfl (oWant rfl rfl (oIdxE rfl rfl (hEf) (by omega) rfl rfl ?_)))
   have hc57 := (hEf).cell
   refine oWant rfl rfl ?_
   first | refine oFldX (n := 3) (m := 3) rfl rfl rfl ?_ | refine oFldR (n := 3) (m := 3) rfl rfl rfl ?_ | refine oFldD (n := 3) (m := 3) rfl rfl rfl ?_
   refine oWant rfl rfl ?_
   first | refine oFldX (n := 6) (m := 9) rfl rfl rfl ?_ | refine oFldR (n := 6) (m := 9) rfl rfl rfl ?_ | refine oFldD (n := 6) (m := 9) rfl rfl rfl ?_
   refine oWant rfl rfl ?_
   first | refine oLdX rfl hc57 rfl rfl ?_ | refine oLdXA rfl hc57 rfl (by repeat constructor) ?_ | (refine oLdR1 rfl (by repeat constructor) (by omega) rfl (fun u60 hu60 => ?_))
   refine oWant rfl rfl (oLenS rfl rfl (oWant rfl rfl (oGtr rfl rfl (oPickF rfl rfl (oNil (thn_n (wC (fun h63 => ?_) (fun h63 => ?_))))))))
   ·
    refine wSeq (wRegion' (oAssign rfl (oNil (thn_n (wRet (blk_r (thn_r (thn_r (blk_r (thn_r (fin_r ?_)))))))))))
    refine fi1 rfl ?_
    exact ⟨false, (by intro h; cases h), rfl, Lh⟩
   refine wSkip (blk_n (thn_n (wRegion' (oMove rfl (oSucc rfl rfl (by omega) ?_)))))
   refine oAssign rfl (oNil (thn_n ?_))
   exact ⟨rfl, i + 1, ⟨by omega, take_all (P := fewFun) hs hf ⟨by omega, by omega, by omega, by omega, by omega⟩⟩, by omega, cv, Lh⟩
  obtain rfl : i = p.fFuns.length := by omega
  rw [List.take_length] at hs
  have hsF := hs
  refine wExit (thn_x (thn_x (blk_x (thn_n (wSeq (wSeq (wRegion' (oAssign rfl (oNil (thn_n (wBlock ?_)))))))))))
  refine wLoop (ι := Nat) (fun i => [(1, .pointer (some ⟨b1, 0, none⟩)), (4, .int .i64 (i : Int))]) (fun i => [blk b1 29 [.slice A0 p.fFuns.length c0, .slice A1 p.fDats.length c1, .int .i64 p.fEntry]]) (fun i => i ≤ p.fDats.length ∧ ∀ f ∈ p.fDats.take i, fewDat f) (fun i => p.fDats.length - i) 0 ?_ cv Lh ?_
  ·
   exact ⟨Nat.zero_le _, by simp⟩
  rintro i ⟨hi, hs⟩
  try dsimp only
  refine wSeq (wSeq (wRegion' (oMove rfl (oFld (n := 1) (m := 1) rfl rfl rfl (oLd rfl (by repeat constructor) rfl rfl ?_)))))
  refine oLenS rfl rfl (oLss rfl rfl (oNil (thn_n (wC (fun h68 => ?_) (fun h68 => ?_)))))
  ·
   obtain ⟨d, hd⟩ : ∃ d, p.fDats[i]? = some d := ⟨_, List.getElem?_eq_getElem (by omega)⟩
   obtain ⟨e2, cs2, hE2⟩ := g1.elm hd
   obtain ⟨G0, k0, G1, k1, G2, k2, rfl, n0, r0, n1, r1, n2, r2⟩ := kApiDat_open hE2.K
   refine wSkip (thn_n (wSeq (wBlock (wSeq (wRegion' (oFld (n := 1) (m := 1) rfl rfl rfl (oLd rfl (by repeat constructor) rfl rfl ?_)))))))
   refine oMove rfl (oIdxE rfl rfl (hE2) (by omega) rfl rfl ?_)
   have hc74 := (hE2).cell
   first | refine oFldX (n := 3) (m := 3) rfl rfl rfl ?_ | refine oFldR (n := 3) (m := 3) rfl rfl rfl ?_ | refine oFldD (n := 3) (m := 3) rfl rfl rfl ?_
   first | refine oFldX (n := 1) (m := 4) rfl rfl rfl ?_ | refine oFldR (n := 1) (m := 4) rfl rfl rfl ?_ | refine oFldD (n := 1) (m := 4) rfl rfl rfl ?_
   first | refine oLdX rfl hc74 rfl rfl ?_ | refine oLdXA rfl hc74 rfl (by repeat constructor) ?_ | (refine oLdR1 rfl (by repeat constructor) (by omega) rfl (fun u77 hu77 => ?_))
   refine oLenS rfl rfl (oGtr rfl rfl (oMove rfl ?_))
   first | refine oSplit (t := 80) rfl (fun h80 => ?_) (fun h80 => ?_) | refine oSplitB (t := 80) rfl (fun h80 => ?_) (fun h80 => ?_)
   ·
    refine oSkip rfl rfl rfl rfl (oSkip rfl rfl rfl rfl (oSkip rfl rfl rfl rfl (oSkip rfl rfl rfl rfl (oSkip rfl rfl rfl rfl (oSkip rfl rfl rfl rfl (oSkip rfl rfl rfl rfl (oSkip rfl rfl rfl rfl (oPickT rfl rfl (oMove rfl (oSkip rfl rfl rfl rfl (oSkip rfl rfl rfl rfl ?_)))))))))))
    refine oSkip rfl rfl rfl rfl (oSkip rfl rfl rfl rfl (oSkip rfl rfl rfl rfl (oSkip rfl rfl rfl rfl (oSkip rfl rfl rfl rfl (oSkip rfl rfl rfl rfl (oSkip rfl rfl rfl rfl (oPickT rfl rfl (oNil (thn_n ?_)))))))))
    first | refine wCondT rfl ?_ | refine wCondTd h100 rfl ?_ | refine wCondTb h100 rfl ?_
    refine wSeq (wRegion' (oAssign rfl (oNil (thn_n (wRet (blk_r (thn_r (thn_r (blk_r (thn_r (fin_r ?_)))))))))))
    refine fi1 rfl ?_
    exact ⟨false, (by intro h; cases h), rfl, Lh⟩
   refine oWant rfl rfl (oFld (n := 1) (m := 1) rfl rfl rfl (oWant rfl rfl (oLd rfl (by repeat constructor) rfl rfl ?_)))
   refine oWant rfl rfl (oMove rfl (oWant rfl rfl (oIdxE rfl rfl (hE2) (by omega) rfl rfl ?_)))
   have hc84 := (hE2).cell
   refine oWant rfl rfl ?_
   first | refine oFldX (n := 6) (m := 6) rfl rfl rfl ?_ | refine oFldR (n := 6) (m := 6) rfl rfl rfl ?_ | refine oFldD (n := 6) (m := 6) rfl rfl rfl ?_
   refine oWant rfl rfl ?_
   first | refine oLdX rfl hc84 rfl rfl ?_ | refine oLdXA rfl hc84 rfl (by repeat constructor) ?_ | (refine oLdR1 rfl (by repeat constructor) (by omega) rfl (fun u86 hu86 => ?_))
   refine oWant rfl rfl (oLenS rfl rfl (oWant rfl rfl (oGtr rfl rfl (oPickF rfl rfl (oMove rfl ?_)))))
   first | refine oSplit (t := 90) rfl (fun h90 => ?_) (fun h90 => ?_) | refine oSplitB (t := 90) rfl (fun h90 => ?_) (fun h90 => ?_)
   ·
    refine oSkip rfl rfl rfl rfl (oSkip rfl rfl rfl rfl (oSkip rfl rfl rfl rfl (oSkip rfl rfl rfl rfl (oSkip rfl rfl rfl rfl (oSkip rfl rfl rfl rfl (oSkip rfl rfl rfl rfl (oSkip rfl rfl rfl rfl (oSkip rfl rfl rfl rfl (oPickT rfl rfl (oNil (thn_n ?_)))))))))))
    first | refine wCondT rfl ?_ | refine wCondTd h100 rfl ?_ | refine wCondTb h100 rfl ?_
    refine wSeq (wRegion' (oAssign rfl (oNil (thn_n (wRet (blk_r (thn_r (thn_r (blk_r (thn_r (fin_r ?_)))))))))))
    refine fi1 rfl ?_
    exact ⟨false, (by intro h; cases h), rfl, Lh⟩
   refine oWant rfl rfl (oFld (n := 1) (m := 1) rfl rfl rfl (oWant rfl rfl (oLd rfl (by repeat constructor) rfl rfl ?_)))
   refine oWant rfl rfl (oMove rfl (oWant rfl rfl (oIdxE rfl rfl (hE2) (by omega) rfl rfl ?_)))
   have hc94 := (hE2).cell
   refine oWant rfl rfl ?_
   first | refine oFldX (n := 3) (m := 3) rfl rfl rfl ?_ | refine oFldR (n := 3) (m := 3) rfl rfl rfl ?_ | refine oFldD (n := 3) (m := 3) rfl rfl rfl ?_
   refine oWant rfl rfl ?_
   first | refine oFldX (n := 2) (m := 5) rfl rfl rfl ?_ | refine oFldR (n := 2) (m := 5) rfl rfl rfl ?_ | refine oFldD (n := 2) (m := 5) rfl rfl rfl ?_
   refine oWant rfl rfl ?_
   first | refine oLdX rfl hc94 rfl rfl ?_ | refine oLdXA rfl hc94 rfl (by repeat constructor) ?_ | (refine oLdR1 rfl (by repeat constructor) (by omega) rfl (fun u97 hu97 => ?_))
   refine oWant rfl rfl (oLenS rfl rfl (oWant rfl rfl (oGtr rfl rfl (oPickF rfl rfl (oNil (thn_n (wC (fun h100 => ?_) (fun h100 => ?_))))))))
   ·
    refine wSeq (wRegion' (oAssign rfl (oNil (thn_n (wRet (blk_r (thn_r (thn_r (blk_r (thn_r (fin_r ?_)))))))))))
    refine fi1 rfl ?_
    exact ⟨false, (by intro h; cases h), rfl, Lh⟩
   refine wSkip (blk_n (thn_n (wRegion' (oMove rfl (oSucc rfl rfl (by omega) ?_)))))
   refine oAssign rfl (oNil (thn_n ?_))
   exact ⟨rfl, i + 1, ⟨by omega, take_all (P := fewDat) hs hd ⟨by omega, by omega, by omega⟩⟩, by omega, cv, Lh⟩
  obtain rfl : i = p.fDats.length := by omega
  rw [List.take_length] at hs
  refine wExit (thn_x (thn_x (blk_x (thn_n (wSeq (wRegion' (oFld (n := 0) (m := 0) rfl rfl rfl (oLd rfl (by repeat constructor) rfl rfl ?_))))))))
  refine oLenS rfl rfl (oLeq rfl rfl (oMove rfl ?_))
  first | refine oSplit (t := 105) rfl (fun h105 => ?_) (fun h105 => ?_) | refine oSplitB (t := 105) rfl (fun h105 => ?_) (fun h105 => ?_)
  ·
   refine oWant rfl rfl (oFld (n := 1) (m := 1) rfl rfl rfl (oWant rfl rfl (oLd rfl (by repeat constructor) rfl rfl ?_)))
   refine oWant rfl rfl (oLenS rfl rfl (oWant rfl rfl (oLeq rfl rfl (oPickT rfl rfl (oAssign rfl (oNil (thn_n (wRet (fin_r (fi1 rfl ?_))))))))))
   exact ⟨_, (by intro h; first | (simp at h; done) | (have := of_decide_eq_true h; exact ⟨by omega, by omega, hsF, hs⟩)), rfl, Lh⟩
  refine oSkip rfl rfl rfl rfl (oSkip rfl rfl rfl rfl (oSkip rfl rfl rfl rfl (oSkip rfl rfl rfl rfl (oPickF rfl rfl (oAssign rfl (oNil (thn_n (wRet (fin_r (fi1 rfl ?_))))))))))
  exact ⟨_, (by intro h; first | (simp at h; done) | (have := of_decide_eq_true h; exact ⟨by omega, by omega, hsF, hs⟩)), rfl, Lh⟩
theorem kFunT_hdr {W : World} {t : FunT} {cs : List Value} (h : kFunT.K W t cs) : cs[12]? = some (hV (hdT t)) := by
  obtain ⟨c1, d1, rfl, a1, c2, d2, rfl, a2, c3, d3, rfl, a3, c4, d4, rfl, a4, a5⟩ := h
  have h4 := kApiFunc.K_len a4
  rw [show c1 = [Value.int .i64 t.1] from a1, show c2 = [Value.int .i64 t.2.1] from a2, show c3 = [Value.string t.2.2.1] from a3, show d4 = [hV (hdT t)] from a5]
  simp only [List.cons_append, List.nil_append, List.getElem?_cons_succ]
  rw [List.getElem?_append_right (by rw [h4]; exact Nat.le_refl _), h4]; rfl
theorem set_same {α : Type} {l : List α} {i : Nat} {u : α} (h : l[i]? = some u) : l.set i u = l := by
  obtain ⟨hi, rfl⟩ := List.getElem?_eq_some_iff.1 h
  simp
end Go.Proofs.YtogaiijhicfoaaaGreatU
