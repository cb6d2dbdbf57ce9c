import Derived.Test.YtogaiijhicfoaaaGreatUd
import Derived.Test.YtogaiijhicfoaaaGreatWm

/-
  Of the statements on calls: what is small, what is spoilt.
-/
namespace Go.Proofs.YtogaiijhicfoaaaGreatU
set_option linter.unusedVariables false
set_option linter.unusedSimpArgs false
open Go.RowKit Go.Proofs.YtogaiijhicfoaaaGreatK Go.Proofs.YtogaiijhicfoaaaGreatT Go.Proofs.YtogaiijhicfoaaaGreatL Go.Proofs.YtogaiijhicfoaaaGreatV Go.Proofs.YtogaiijhicfoaaaGreatG Go.Proofs.YtogaiijhicfoaaaGreatW

abbrev fewFun (f : ApiFun) : Prop := f.fF.fCode.length ≤ 80 ∧ f.fRefs.length ≤ 80 ∧ f.fF.fKinds.length ≤ 80 ∧ f.fF.fRelocs.length ≤ 80 ∧ f.fF.fLines.length ≤ 80
abbrev fewDat (d : ApiDat) : Prop := d.fD.fWords.length ≤ 80 ∧ d.fRefs.length ≤ 80 ∧ d.fD.fRelocs.length ≤ 80
set_option maxRecDepth 100000 in
set_option maxHeartbeats 1000000 in
theorem ref25_Few {B : Base} {w : World} (hS : St B [] w) (p : ApiProgram) (pc : List Value) (hp : kApiProgram.K B.e p pc) :
    CallsIn Fence.wide 0 Tryz.prog 19 #[.agg pc.toArray] w (Ret B (fun r : Bool => r = true → SmallP p) (fun r => .bool r) (fun _ => [])) := by
  obtain ⟨A0, c0, A1, c1, rfl, l0, g0, l1, g1⟩ := kApiProgram_open hp
  have hl0 := g0.1
  have hl1 := g1.1
  (refine enter Tryz.func19 rfl rfl hS ?_; simp only [List.zipIdx_cons, List.zipIdx_nil, List.map_cons, List.map_nil, Nat.reduceAdd, Nat.zero_add])
  refine wSeq (wRegion' (oBox rfl (by repeat constructor) (fun b1 => ?_)))
  refine oAssign rfl (oNil (thn_n (wSeq (wSeq (wRegion' (oAssign rfl (oNil (thn_n (wBlock (wLoop (ι := Nat) (fun i => [(1, .pointer (some ⟨b1, 0, none⟩)), (3, .int .i64 (i : Int))]) (fun i => [blk b1 29 [.slice A0 p.fFuns.length c0, .slice A1 p.fDats.length c1, .int .i64 p.fEntry]]) (fun i => i ≤ p.fFuns.length ∧ ∀ f ∈ p.fFuns.take i, fewFun f) (fun i => p.fFuns.length - i) 0 ?_ cv Lh ?_))))))))))
  ·
   exact ⟨Nat.zero_le _, by simp⟩
  rintro i ⟨hi, hs⟩
  try dsimp only
  refine wSeq (wSeq (wRegion' (oMove rfl (oFld (n := 0) (m := 0) rfl rfl rfl (oLd rfl (by repeat constructor) rfl rfl ?_)))))
  refine oLenS rfl rfl (oLss rfl rfl (oNil (thn_n (wC (fun h9 => ?_) (fun h9 => ?_)))))
  ·
   obtain ⟨f, hf⟩ : ∃ f, p.fFuns[i]? = some f := ⟨_, List.getElem?_eq_getElem (by omega)⟩
   obtain ⟨ef, csf, hEf⟩ := g0.elm hf
   obtain ⟨D0, d0, D1, d1, D2, d2, D3, d3, D4, d4, rfl, m0, q0, m1, q1, m2, q2, m3, q3, m4, q4⟩ := kApiFun_open hEf.K
   refine wSkip (thn_n (wSeq (wBlock (wSeq (wRegion' (oFld (n := 0) (m := 0) rfl rfl rfl (oLd rfl (by repeat constructor) rfl rfl ?_)))))))
   refine oMove rfl (oIdxE rfl rfl (hEf) (by omega) rfl rfl ?_)
   have hc15 := (hEf).cell
   first | refine oFldX (n := 3) (m := 3) rfl rfl rfl ?_ | refine oFldR (n := 3) (m := 3) rfl rfl rfl ?_ | refine oFldD (n := 3) (m := 3) rfl rfl rfl ?_
   first | refine oFldX (n := 7) (m := 10) rfl rfl rfl ?_ | refine oFldR (n := 7) (m := 10) rfl rfl rfl ?_ | refine oFldD (n := 7) (m := 10) rfl rfl rfl ?_
   first | refine oLdX rfl hc15 rfl rfl ?_ | refine oLdXA rfl hc15 rfl (by repeat constructor) ?_ | (refine oLdR1 rfl (by repeat constructor) (by omega) rfl (fun u18 hu18 => ?_))
   refine oLenS rfl rfl (oGtr rfl rfl (oMove rfl ?_))
   first | refine oSplit (t := 21) rfl (fun h21 => ?_) (fun h21 => ?_) | refine oSplitB (t := 21) rfl (fun h21 => ?_) (fun h21 => ?_)
   ·
    refine oSkip rfl rfl rfl rfl (oSkip rfl rfl rfl rfl (oSkip rfl rfl rfl rfl (oSkip rfl rfl rfl rfl (oSkip rfl rfl rfl rfl (oSkip rfl rfl rfl rfl (oSkip rfl rfl rfl rfl (oSkip rfl rfl rfl rfl (oPickT rfl rfl (oMove rfl (oSkip rfl rfl rfl rfl (oSkip rfl rfl rfl rfl ?_)))))))))))
    refine oSkip rfl rfl rfl rfl (oSkip rfl rfl rfl rfl (oSkip rfl rfl rfl rfl (oSkip rfl rfl rfl rfl (oSkip rfl rfl rfl rfl (oSkip rfl rfl rfl rfl (oSkip rfl rfl rfl rfl (oPickT rfl rfl (oMove rfl (oSkip rfl rfl rfl rfl (oSkip rfl rfl rfl rfl (oSkip rfl rfl rfl rfl ?_)))))))))))
    refine oSkip rfl rfl rfl rfl (oSkip rfl rfl rfl rfl (oSkip rfl rfl rfl rfl (oSkip rfl rfl rfl rfl (oSkip rfl rfl rfl rfl (oSkip rfl rfl rfl rfl (oPickT rfl rfl (oMove rfl (oSkip rfl rfl rfl rfl (oSkip rfl rfl rfl rfl (oSkip rfl rfl rfl rfl (oSkip rfl rfl rfl rfl ?_)))))))))))
    refine oSkip rfl rfl rfl rfl (oSkip rfl rfl rfl rfl (oSkip rfl rfl rfl rfl (oSkip rfl rfl rfl rfl (oSkip rfl rfl rfl rfl (oPickT rfl rfl (oNil (thn_n ?_)))))))
    first | refine wCondT rfl ?_ | refine wCondTd h63 rfl ?_ | refine wCondTb h63 rfl ?_
    refine wSeq (wRegion' (oAssign rfl (oNil (thn_n (wRet (blk_r (thn_r (thn_r (blk_r (thn_r (fin_r ?_)))))))))))
    refine fi1 rfl ?_
    exact ⟨false, (by intro h; cases h), rfl, Lh⟩
   refine oWant rfl rfl (oFld (n := 0) (m := 0) rfl rfl rfl (oWant rfl rfl (oLd rfl (by repeat constructor) rfl rfl ?_)))
   refine oWant rfl rfl (oMove rfl (oWant rfl rfl (oIdxE rfl rfl (hEf) (by omega) rfl rfl ?_)))
   have hc25 := (hEf).cell
   refine oWant rfl rfl ?_
   first | refine oFldX (n := 12) (m := 12) rfl rfl rfl ?_ | refine oFldR (n := 12) (m := 12) rfl rfl rfl ?_ | refine oFldD (n := 12) (m := 12) rfl rfl rfl ?_
   refine oWant rfl rfl ?_
   first | refine oLdX rfl hc25 rfl rfl ?_ | refine oLdXA rfl hc25 rfl (by repeat constructor) ?_ | (refine oLdR1 rfl (by repeat constructor) (by omega) rfl (fun u27 hu27 => ?_))
   refine oWant rfl rfl (oLenS rfl rfl (oWant rfl rfl (oGtr rfl rfl (oPickF rfl rfl (oMove rfl ?_)))))
   first | refine oSplit (t := 31) rfl (fun h31 => ?_) (fun h31 => ?_) | refine oSplitB (t := 31) rfl (fun h31 => ?_) (fun h31 => ?_)
   ·
    refine oSkip rfl rfl rfl rfl (oSkip rfl rfl rfl rfl (oSkip rfl rfl rfl rfl (oSkip rfl rfl rfl rfl (oSkip rfl rfl rfl rfl (oSkip rfl rfl rfl rfl (oSkip rfl rfl rfl rfl (oSkip rfl rfl rfl rfl (oSkip rfl rfl rfl rfl (oPickT rfl rfl (oMove rfl (oSkip rfl rfl rfl rfl ?_)))))))))))
    refine oSkip rfl rfl rfl rfl (oSkip rfl rfl rfl rfl (oSkip rfl rfl rfl rfl (oSkip rfl rfl rfl rfl (oSkip rfl rfl rfl rfl (oSkip rfl rfl rfl rfl (oSkip rfl rfl rfl rfl (oSkip rfl rfl rfl rfl (oPickT rfl rfl (oMove rfl (oSkip rfl rfl rfl rfl (oSkip rfl rfl rfl rfl ?_)))))))))))
    refine oSkip rfl rfl rfl rfl (oSkip rfl rfl rfl rfl (oSkip rfl rfl rfl rfl (oSkip rfl rfl rfl rfl (oSkip rfl rfl rfl rfl (oSkip rfl rfl rfl rfl (oSkip rfl rfl rfl rfl (oPickT rfl rfl (oNil (thn_n ?_)))))))))
    first | refine wCondT rfl ?_ | refine wCondTd h63 rfl ?_ | refine wCondTb h63 rfl ?_
    refine wSeq (wRegion' (oAssign rfl (oNil (thn_n (wRet (blk_r (thn_r (thn_r (blk_r (thn_r (fin_r ?_)))))))))))
    refine fi1 rfl ?_
    exact ⟨false, (by intro h; cases h), rfl, Lh⟩
   refine oWant rfl rfl (oFld (n := 0) (m := 0) rfl rfl rfl (oWant rfl rfl (oLd rfl (by repeat constructor) rfl rfl ?_)))
   refine oWant rfl rfl (oMove rfl (oWant rfl rfl (oIdxE rfl rfl (hEf) (by omega) rfl rfl ?_)))
   have hc35 := (hEf).cell
   refine oWant rfl rfl ?_
   first | refine oFldX (n := 3) (m := 3) rfl rfl rfl ?_ | refine oFldR (n := 3) (m := 3) rfl rfl rfl ?_ | refine oFldD (n := 3) (m := 3) rfl rfl rfl ?_
   refine oWant rfl rfl ?_
   first | refine oFldX (n := 1) (m := 4) rfl rfl rfl ?_ | refine oFldR (n := 1) (m := 4) rfl rfl rfl ?_ | refine oFldD (n := 1) (m := 4) rfl rfl rfl ?_
   refine oWant rfl rfl ?_
   first | refine oLdX rfl hc35 rfl rfl ?_ | refine oLdXA rfl hc35 rfl (by repeat constructor) ?_ | (refine oLdR1 rfl (by repeat constructor) (by omega) rfl (fun u38 hu38 => ?_))
   refine oWant rfl rfl (oLenS rfl rfl (oWant rfl rfl (oGtr rfl rfl (oPickF rfl rfl (oMove rfl ?_)))))
   first | refine oSplit (t := 42) rfl (fun h42 => ?_) (fun h42 => ?_) | refine oSplitB (t := 42) rfl (fun h42 => ?_) (fun h42 => ?_)
   ·
    refine oSkip rfl rfl rfl rfl (oSkip rfl rfl rfl rfl (oSkip rfl rfl rfl rfl (oSkip rfl rfl rfl rfl (oSkip rfl rfl rfl rfl (oSkip rfl rfl rfl rfl (oSkip rfl rfl rfl rfl (oSkip rfl rfl rfl rfl (oSkip rfl rfl rfl rfl (oPickT rfl rfl (oMove rfl (oSkip rfl rfl rfl rfl ?_)))))))))))
    refine oSkip rfl rfl rfl rfl (oSkip rfl rfl rfl rfl (oSkip rfl rfl rfl rfl (oSkip rfl rfl rfl rfl (oSkip rfl rfl rfl rfl (oSkip rfl rfl rfl rfl (oSkip rfl rfl rfl rfl (oSkip rfl rfl rfl rfl (oPickT rfl rfl (oNil (thn_n ?_))))))))))
    first | refine wCondT rfl ?_ | refine wCondTd h63 rfl ?_ | refine wCondTb h63 rfl ?_
    refine wSeq (wRegion' (oAssign rfl (oNil (thn_n (wRet (blk_r (thn_r (thn_r (blk_r (thn_r (fin_r ?_)))))))))))
    refine fi1 rfl ?_
    exact ⟨false, (by intro h; cases h), rfl, Lh⟩
   refine oWant rfl rfl (oFld (n := 0) (m := 0) rfl rfl rfl (oWant rfl rfl (oLd rfl (by repeat constructor) rfl rfl ?_)))
   refine oWant rfl rfl (oMove rfl (oWant rfl rfl (oIdxE rfl rfl (hEf) (by omega) rfl rfl ?_)))
   have hc46 := (hEf).cell
   refine oWant rfl rfl ?_
   first | refine oFldX (n := 3) (m := 3) rfl rfl rfl ?_ | refine oFldR (n := 3) (m := 3) rfl rfl rfl ?_ | refine oFldD (n := 3) (m := 3) rfl rfl rfl ?_
   refine oWant rfl rfl ?_
   first | refine oFldX (n := 8) (m := 11) rfl rfl rfl ?_ | refine oFldR (n := 8) (m := 11) rfl rfl rfl ?_ | refine oFldD (n := 8) (m := 11) rfl rfl rfl ?_
   refine oWant rfl rfl ?_
   first | refine oLdX rfl hc46 rfl rfl ?_ | refine oLdXA rfl hc46 rfl (by repeat constructor) ?_ | (refine oLdR1 rfl (by repeat constructor) (by omega) rfl (fun u49 hu49 => ?_))
   refine oWant rfl rfl (oLenS rfl rfl (oWant rfl rfl (oGtr rfl rfl (oPickF rfl rfl (oMove rfl ?_)))))
   first | refine oSplit (t := 53) rfl (fun h53 => ?_) (fun h53 => ?_) | refine oSplitB (t := 53) rfl (fun h53 => ?_) (fun h53 => ?_)
   ·
    refine oSkip rfl rfl rfl rfl (oSkip rfl rfl rfl rfl (oSkip rfl rfl rfl rfl (oSkip rfl rfl rfl rfl (oSkip rfl rfl rfl rfl (oSkip rfl rfl rfl rfl (oSkip rfl rfl rfl rfl (oSkip rfl rfl rfl rfl (oSkip rfl rfl rfl rfl (oPickT rfl rfl (oNil (thn_n ?_)))))))))))
    first | refine wCondT rfl ?_ | refine wCondTd h63 rfl ?_ | refine wCondTb h63 rfl ?_
    refine wSeq (wRegion' (oAssign rfl (oNil (thn_n (wRet (blk_r (thn_r (thn_r (blk_r (thn_r (fin_r ?_)))))))))))
    refine fi1 rfl ?_
    exact ⟨false, (by intro h; cases h), rfl, Lh⟩
   refine oWant rfl rfl (oFld (n := 0) (m := 0) rfl rfl rfl (oWant rfl rfl (oLd rfl (by repeat constructor) rfl rfl ?_)))
   refine oWant rfl rfl (oMove rfl (oWant rfl rfl (oIdxE rfl rfl (hEf) (by omega) rfl rfl ?_)))
   have hc57 := (hEf).cell
   refine oWant rfl rfl ?_
   first | refine oFldX (n := 3) (m := 3) rfl rfl rfl ?_ | refine oFldR (n := 3) (m := 3) rfl rfl rfl ?_ | refine oFldD (n := 3) (m := 3) rfl rfl rfl ?_
   refine oWant rfl rfl ?_
   first | refine oFldX (n := 6) (m := 9) rfl rfl rfl ?_ | refine oFldR (n := 6) (m := 9) rfl rfl rfl ?_ | refine oFldD (n := 6) (m := 9) rfl rfl rfl ?_
   refine oWant rfl rfl ?_
   first | refine oLdX rfl hc57 rfl rfl ?_ | refine oLdXA rfl hc57 rfl (by repeat constructor) ?_ | (refine oLdR1 rfl (by repeat constructor) (by omega) rfl (fun u60 hu60 => ?_))
   refine oWant rfl rfl (oLenS rfl rfl (oWant rfl rfl (oGtr rfl rfl (oPickF rfl rfl (oNil (thn_n (wC (fun h63 => ?_) (fun h63 => ?_))))))))
   ·
    refine wSeq (wRegion' (oAssign rfl (oNil (thn_n (wRet (blk_r (thn_r (thn_r (blk_r (thn_r (fin_r ?_)))))))))))
    refine fi1 rfl ?_
    exact ⟨false, (by intro h; cases h), rfl, Lh⟩
   refine wSkip (blk_n (thn_n (wRegion' (oMove rfl (oSucc rfl rfl (by omega) ?_)))))
   refine oAssign rfl (oNil (thn_n ?_))
   exact ⟨rfl, i + 1, ⟨by omega, take_all (P := fewFun) hs hf ⟨by omega, by omega, by omega, by omega, by omega⟩⟩, by omega, cv, Lh⟩
  obtain rfl : i = p.fFuns.length := by omega
  rw [List.take_length] at hs
  have hsF := hs
  refine wExit (thn_x (thn_x (blk_x (thn_n (wSeq (wSeq (wRegion' (oAssign rfl (oNil (thn_n (wBlock ?_)))))))))))
  refine wLoop (ι := Nat) (fun i => [(1, .pointer (some ⟨b1, 0, none⟩)), (4, .int .i64 (i : Int))]) (fun i => [blk b1 29 [.slice A0 p.fFuns.length c0, .slice A1 p.fDats.length c1, .int .i64 p.fEntry]]) (fun i => i ≤ p.fDats.length ∧ ∀ f ∈ p.fDats.take i, fewDat f) (fun i => p.fDats.length - i) 0 ?_ cv Lh ?_
  ·
   exact ⟨Nat.zero_le _, by simp⟩
  rintro i ⟨hi, hs⟩
  try dsimp only
  refine wSeq (wSeq (wRegion' (oMove rfl (oFld (n := 1) (m := 1) rfl rfl rfl (oLd rfl (by repeat constructor) rfl rfl ?_)))))
  refine oLenS rfl rfl (oLss rfl rfl (oNil (thn_n (wC (fun h68 => ?_) (fun h68 => ?_)))))
  ·
   obtain ⟨d, hd⟩ : ∃ d, p.fDats[i]? = some d := ⟨_, List.getElem?_eq_getElem (by omega)⟩
   obtain ⟨e2, cs2, hE2⟩ := g1.elm hd
   obtain ⟨G0, k0, G1, k1, G2, k2, rfl, n0, r0, n1, r1, n2, r2⟩ := kApiDat_open hE2.K
   refine wSkip (thn_n (wSeq (wBlock (wSeq (wRegion' (oFld (n := 1) (m := 1) rfl rfl rfl (oLd rfl (by repeat constructor) rfl rfl ?_)))))))
   refine oMove rfl (oIdxE rfl rfl (hE2) (by omega) rfl rfl ?_)
   have hc74 := (hE2).cell
   first | refine oFldX (n := 3) (m := 3) rfl rfl rfl ?_ | refine oFldR (n := 3) (m := 3) rfl rfl rfl ?_ | refine oFldD (n := 3) (m := 3) rfl rfl rfl ?_
   first | refine oFldX (n := 1) (m := 4) rfl rfl rfl ?_ | refine oFldR (n := 1) (m := 4) rfl rfl rfl ?_ | refine oFldD (n := 1) (m := 4) rfl rfl rfl ?_
   first | refine oLdX rfl hc74 rfl rfl ?_ | refine oLdXA rfl hc74 rfl (by repeat constructor) ?_ | (refine oLdR1 rfl (by repeat constructor) (by omega) rfl (fun u77 hu77 => ?_))
   refine oLenS rfl rfl (oGtr rfl rfl (oMove rfl ?_))
   first | refine oSplit (t := 80) rfl (fun h80 => ?_) (fun h80 => ?_) | refine oSplitB (t := 80) rfl (fun h80 => ?_) (fun h80 => ?_)
   ·
    refine oSkip rfl rfl rfl rfl (oSkip rfl rfl rfl rfl (oSkip rfl rfl rfl rfl (oSkip rfl rfl rfl rfl (oSkip rfl rfl rfl rfl (oSkip rfl rfl rfl rfl (oSkip rfl rfl rfl rfl (oSkip rfl rfl rfl rfl (oPickT rfl rfl (oMove rfl (oSkip rfl rfl rfl rfl (oSkip rfl rfl rfl rfl ?_)))))))))))
    refine oSkip rfl rfl rfl rfl (oSkip rfl rfl rfl rfl (oSkip rfl rfl rfl rfl (oSkip rfl rfl rfl rfl (oSkip rfl rfl rfl rfl (oSkip rfl rfl rfl rfl (oSkip rfl rfl rfl rfl (oPickT rfl rfl (oNil (thn_n ?_)))))))))
    first | refine wCondT rfl ?_ | refine wCondTd h100 rfl ?_ | refine wCondTb h100 rfl ?_
    refine wSeq (wRegion' (oAssign rfl (oNil (thn_n (wRet (blk_r (thn_r (thn_r (blk_r (thn_r (fin_r ?_)))))))))))
    refine fi1 rfl ?_
    exact ⟨false, (by intro h; cases h), rfl, Lh⟩
   refine oWant rfl rfl (oFld (n := 1) (m := 1) rfl rfl rfl (oWant rfl rfl (oLd rfl (by repeat constructor) rfl rfl ?_)))
   refine oWant rfl rfl (oMove rfl (oWant rfl rfl (oIdxE rfl rfl (hE2) (by omega) rfl rfl ?_)))
   have hc84 := (hE2).cell
   refine oWant rfl rfl ?_
   first | refine oFldX (n := 6) (m := 6) rfl rfl rfl ?_ | refine oFldR (n := 6) (m := 6) rfl rfl rfl ?_ | refine oFldD (n := 6) (m := 6) rfl rfl rfl ?_
   refine oWant rfl rfl ?_
   first | refine oLdX rfl hc84 rfl rfl ?_ | refine oLdXA rfl hc84 rfl (by repeat constructor) ?_ | (refine oLdR1 rfl (by repeat constructor) (by omega) rfl (fun u86 hu86 => ?_))
   refine oWant rfl rfl (oLenS rfl rfl (oWant rfl rfl (oGtr rfl rfl (oPickF rfl rfl (oMove rfl ?_)))))
   first | refine oSplit (t := 90) rfl (fun h90 => ?_) (fun h90 => ?_) | refine oSplitB (t := 90) rfl (fun h90 => ?_) (fun h90 => ?_)
   ·
    refine oSkip rfl rfl rfl rfl (oSkip rfl rfl rfl rfl (oSkip rfl rfl rfl rfl (oSkip rfl rfl rfl rfl (oSkip rfl rfl rfl rfl (oSkip rfl rfl rfl rfl (oSkip rfl rfl rfl rfl (oSkip rfl rfl rfl rfl (oSkip rfl rfl rfl rfl (oPickT rfl rfl (oNil (thn_n ?_)))))))))))
    first | refine wCondT rfl ?_ | refine wCondTd h100 rfl ?_ | refine wCondTb h100 rfl ?_
    refine wSeq (wRegion' (oAssign rfl (oNil (thn_n (wRet (blk_r (thn_r (thn_r (blk_r (thn_r (fin_r ?_)))))))))))
    refine fi1 rfl ?_
    exact ⟨false, (by intro h; cases h), rfl, Lh⟩
   refine oWant rfl rfl (oFld (n := 1) (m := 1) rfl rfl rfl (oWant rfl rfl (oLd rfl (by repeat constructor) rfl rfl ?_)))
   refine oWant rfl rfl (oMove rfl (oWant rfl rfl (oIdxE rfl rfl (hE2) (by omega) rfl rfl ?_)))
   have hc94 := (hE2).cell
   refine oWant rfl rfl ?_
   first | refine oFldX (n := 3) (m := 3) rfl rfl rfl ?_ | refine oFldR (n := 3) (m := 3) rfl rfl rfl ?_ | refine oFldD (n := 3) (m := 3) rfl rfl rfl ?_
   refine oWant rfl rfl ?_
   first | refine oFldX (n := 2) (m := 5) rfl rfl rfl ?_ | refine oFldR (n := 2) (m := 5) rfl rfl rfl ?_ | refine oFldD (n := 2) (m := 5) rfl rfl rfl ?_
   refine oWant rfl rfl ?_
   first | refine oLdX rfl hc94 rfl rfl ?_ | refine oLdXA rfl hc94 rfl (by repeat constructor) ?_ | (refine oLdR1 rfl (by repeat constructor) (by omega) rfl (fun u97 hu97 => ?_))
   refine oWant rfl rfl (oLenS rfl rfl (oWant rfl rfl (oGtr rfl rfl (oPickF rfl rfl (oNil (thn_n (wC (fun h100 => ?_) (fun h100 => ?_))))))))
   ·
    refine wSeq (wRegion' (oAssign rfl (oNil (thn_n (wRet (blk_r (thn_r (thn_r (blk_r (thn_r (fin_r ?_)))))))))))
    refine fi1 rfl ?_
    exact ⟨false, (by intro h; cases h), rfl, Lh⟩
   refine wSkip (blk_n (thn_n (wRegion' (oMove rfl (oSucc rfl rfl (by omega) ?_)))))
   refine oAssign rfl (oNil (thn_n ?_))
   exact ⟨rfl, i + 1, ⟨by omega, take_all (P := fewDat) hs hd ⟨by omega, by omega, by omega⟩⟩, by omega, cv, Lh⟩
  obtain rfl : i = p.fDats.length := by omega
  rw [List.take_length] at hs
  refine wExit (thn_x (thn_x (blk_x (thn_n (wSeq (wRegion' (oFld (n := 0) (m := 0) rfl rfl rfl (oLd rfl (by repeat constructor) rfl rfl ?_))))))))
  refine oLenS rfl rfl (oLeq rfl rfl (oMove rfl ?_))
  first | refine oSplit (t := 105) rfl (fun h105 => ?_) (fun h105 => ?_) | refine oSplitB (t := 105) rfl (fun h105 => ?_) (fun h105 => ?_)
  ·
   refine oWant rfl rfl (oFld (n := 1) (m := 1) rfl rfl rfl (oWant rfl rfl (oLd rfl (by repeat constructor) rfl rfl ?_)))
   refine oWant rfl rfl (oLenS rfl rfl (oWant rfl rfl (oLeq rfl rfl (oPickT rfl rfl (oAssign rfl (oNil (thn_n (wRet (fin_r (fi1 rfl ?_))))))))))
   exact ⟨_, (by intro h; first | (simp at h; done) | (have := of_decide_eq_true h; exact ⟨by omega, by omega, hsF, hs⟩)), rfl, Lh⟩
  refine oSkip rfl rfl rfl rfl (oSkip rfl rfl rfl rfl (oSkip rfl rfl rfl rfl (oSkip rfl rfl rfl rfl (oPickF rfl rfl (oAssign rfl (oNil (thn_n (wRet (fin_r (fi1 rfl ?_))))))))))
  exact ⟨_, (by intro h; first | (simp at h; done) | (have := of_decide_eq_true h; exact ⟨by omega, by omega, hsF, hs⟩)), rfl, Lh⟩
theorem kFunT_hdr {W : World} {t : FunT} {cs : List Value} (h : kFunT.K W t cs) : cs[12]? = some (hV (hdT t)) := by
  obtain ⟨c1, d1, rfl, a1, c2, d2, rfl, a2, c3, d3, rfl, a3, c4, d4, rfl, a4, a5⟩ := h
  have h4 := kApiFunc.K_len a4
  rw [show c1 = [Value.int .i64 t.1] from a1, show c2 = [Value.int .i64 t.2.1] from a2, show c3 = [Value.string t.2.2.1] from a3, show d4 = [hV (hdT t)] from a5]
  simp only [List.cons_append, List.nil_append, List.getElem?_cons_succ]
  rw [List.getElem?_append_right (by rw [h4]; exact Nat.le_refl _), h4]; rfl
theorem kDatT_hdr {W : World} {t : DatT} {cs : List Value} (h : kDatT.K W t cs) : cs[6]? = some (hV (hdT t)) := by
  obtain ⟨c1, d1, rfl, a1, c2, d2, rfl, a2, c3, d3, rfl, a3, c4, d4, rfl, a4, a5⟩ := h
  have h4 := kApiData.K_len a4
  rw [show c1 = [Value.int .i64 t.1] from a1, show c2 = [Value.int .i64 t.2.1] from a2, show c3 = [Value.string t.2.2.1] from a3, show d4 = [hV (hdT t)] from a5]
  simp only [List.cons_append, List.nil_append, List.getElem?_cons_succ]
  rw [List.getElem?_append_right (by rw [h4]; exact Nat.le_refl _), h4]; rfl
theorem set_same {α : Type} {l : List α} {i : Nat} {u : α} (h : l[i]? = some u) : l.set i u = l := by
  obtain ⟨hi, rfl⟩ := List.getElem?_eq_some_iff.1 h
  simp
set_option maxRecDepth 100000 in
set_option maxHeartbeats 4000000 in
theorem law_Spoil {B : Base} {w : World} (Af : Option Addr) (cf : Nat) (ft : List FunT) (fr : List (List Int)) (Ad : Option Addr) (cd : Nat) (dt : List DatT) (dr : List (List Int)) (W0 : World) (hS : St B [row kFunT W0 49 (.slice Af ft.length cf) ft, bun (rws (Kd.int .i64) W0 3 (ft.map hdT) fr), row kDatT W0 98 (.slice Ad dt.length cd) dt, bun (rws (Kd.int .i64) W0 3 (dt.map hdT) dr)] w) (hzf : ft.length = fr.length) (hzd : dt.length = dr.length) (e x y n : Int) (is : Bool) :
    CallsIn Fence.wide 0 Tryz.prog 18 #[.agg #[.slice Af ft.length cf, .slice Ad dt.length cd, .int .i64 e], .agg #[.int .i64 x, .int .i64 y], .int .i64 n, .bool is] w (Ret B (fun y : PZ × Int => y.1.ok) (fun y => .agg (y.1.cells y.2).toArray) (fun y => [row kFunT W0 49 (.slice y.1.Af y.1.ft.length y.1.cf) y.1.ft, bun (rws (Kd.int .i64) W0 3 (y.1.ft.map hdT) y.1.fr), row kDatT W0 98 (.slice y.1.Ad y.1.dt.length y.1.cd) y.1.dt, bun (rws (Kd.int .i64) W0 3 (y.1.dt.map hdT) y.1.dr)])) := by
  (refine enter Tryz.func18 rfl rfl hS ?_; simp only [List.zipIdx_cons, List.zipIdx_nil, List.map_cons, List.map_nil, Nat.reduceAdd, Nat.zero_add])
  refine wSeq (wRegion' (oBox rfl (by repeat constructor) (fun b4 => ?_)))
  refine oBox rfl (by repeat constructor) (fun b5 => ?_)
  refine oAlloc rfl (by repeat constructor) (fun b8 => ?_)
  refine oNil (thn_n (wSeq (wSeq (wRegion' (oMove rfl ?_)))))
  first | refine oNot rfl ?_ | refine oNotB rfl ?_
  refine oNil (thn_n (wC (fun h10 => ?_) (fun h10 => ?_)))
  ·
   refine wSeq (wRegion' (oLdA rfl (by repeat constructor) rfl (by repeat constructor) ?_))
   refine oStA rfl rfl rfl rfl (by repeat constructor) (by rfl) ?_
   refine oNil (thn_n (wRet (thn_r (fin_r ?_))))
   refine ⟨rfl, _, (ResL.cons (by first | exact ResR.cell rfl (by repeat constructor) rfl | exact ResR.agg rfl (by repeat constructor) rfl rfl) ResL.nil), ?_⟩
   exact ⟨(⟨Af, cf, ft, fr, Ad, cd, dt, dr⟩, e), ⟨hzf, hzd⟩, rfl, Lh⟩
  refine wSkip (thn_n (wSeq (wCut (ι := Bool × Option Addr × Option Addr) (fun q => [(2, .int .i64 n), (4, .pointer (some ⟨b4, 0, none⟩)), (5, .pointer (some ⟨b5, 0, none⟩)), (8, .pointer (some ⟨b8, 0, none⟩)), (40, .bool q.1)]) (fun q => [blk b4 29 [.slice q.2.1 ft.length cf, .slice q.2.2 dt.length cd, .int .i64 e], blk b5 23 [.int .i64 x, .int .i64 y], blk b8 29 [.slice none 0 0, .slice none 0 0, .int .i64 0], row kFunT W0 49 (.slice q.2.1 ft.length cf) ft, bun (rws (Kd.int .i64) W0 3 (ft.map hdT) fr), row kDatT W0 98 (.slice q.2.2 dt.length cd) dt, bun (rws (Kd.int .i64) W0 3 (dt.map hdT) dr)]) (fun q => q.1 = true → ∃ i k : Nat, x = (i : Int) ∧ y = (k : Int) ∧ ∃ t, ft[i]? = some t ∧ k < (hdT t).2.1) ?_ ?_)))
  ·
   refine wDraw2 rfl rfl [] [0, 1, 2, 3, 4, 5, 6, 7, 8, 9, 10, 11, 12, 13, 14, 15, 16, 17, 18, 19, 20, 21, 22, 23, 24, 25, 26, 27] 28 (by kernel_rfl) rfl rfl rfl (fun w0 => ?_)
   refine oIdxA (i := 0) (m := 0) rfl rfl rfl rfl (by decide) rfl ?_
   refine oLd rfl (by repeat constructor) rfl rfl ?_
   refine oGeq rfl rfl (oMove rfl ?_)
   first | refine oSplit (t := 15) rfl (fun h15 => ?_) (fun h15 => ?_) | refine oSplitB (t := 15) rfl (fun h15 => ?_) (fun h15 => ?_)
   ·
    obtain ⟨i, rfl⟩ := Int.eq_ofNat_of_zero_le (show 0 ≤ x from h15)
    refine oWant rfl rfl (oIdxA (i := 0) (m := 0) rfl rfl rfl rfl (by decide) rfl ?_)
    refine oWant rfl rfl (oLd rfl (by repeat constructor) rfl rfl ?_)
    refine oWant rfl rfl (oFld (n := 0) (m := 0) rfl rfl rfl (oWant rfl rfl (oLd rfl (by repeat constructor) rfl rfl ?_)))
    refine oWant rfl rfl (oLenS rfl rfl (oWant rfl rfl (oLss rfl rfl (oPickT rfl rfl (oMove rfl ?_)))))
    first | refine oSplit (t := 23) rfl (fun h23 => ?_) (fun h23 => ?_) | refine oSplitB (t := 23) rfl (fun h23 => ?_) (fun h23 => ?_)
    ·
     refine oWant rfl rfl (oIdxA (i := 1) (m := 1) rfl rfl rfl rfl (by decide) rfl ?_)
     refine oWant rfl rfl (oLd rfl (by repeat constructor) rfl rfl ?_)
     refine oWant rfl rfl (oGeq rfl rfl (oPickT rfl rfl (oMove rfl ?_)))
     first | refine oSplit (t := 28) rfl (fun h28 => ?_) (fun h28 => ?_) | refine oSplitB (t := 28) rfl (fun h28 => ?_) (fun h28 => ?_)
     ·
      obtain ⟨k, rfl⟩ := Int.eq_ofNat_of_zero_le (show 0 ≤ y by first | exact h28 | simpa using h28)
      have hif : i < ft.length := by first | omega | (have := of_decide_eq_true h23; omega)
      refine oWant rfl rfl (oIdxA (i := 1) (m := 1) rfl rfl rfl rfl (by decide) rfl ?_)
      refine oWant rfl rfl (oLd rfl (by repeat constructor) rfl rfl ?_)
      refine oWant rfl rfl (oFld (n := 0) (m := 0) rfl rfl rfl (oWant rfl rfl (oLd rfl (by repeat constructor) rfl rfl ?_)))
      refine oWant rfl rfl (oIdxA (i := 0) (m := 0) rfl rfl rfl rfl (by decide) rfl ?_)
      refine oWant rfl rfl (oLd rfl (by repeat constructor) rfl rfl ?_)
      refine oWant rfl rfl (oIdxR rfl rfl (by repeat constructor) (by omega) rfl rfl (fun g35 hg35 => ?_))
      first | subst hg35 | (injection hg35 with hg35; injection hg35 with hg35; subst hg35)
      refine oWant rfl rfl ?_
      first | refine oFldX (n := 12) (m := 12) rfl rfl rfl ?_ | refine oFldR (n := 12) (m := 12) rfl rfl rfl ?_ | refine oFldD (n := 12) (m := 12) rfl rfl rfl ?_
      refine oWant rfl rfl (oLdR (kd := kFunT) rfl (by repeat constructor) (by omega) rfl rfl (fun u37 cs37 hu37 hk37 => ⟨_, kFunT_hdr hk37, ?_⟩))
      refine oWant rfl rfl (oLenS rfl rfl (oWant rfl rfl (oLss rfl rfl (oHead (oPickT rfl rfl (oNilT (thn_n ?_)))))))
      refine ⟨rfl, (_, _, _), ?_, cv, Lh⟩; intro hq; first | (cases hq; done) | (exact ⟨i, k, rfl, rfl, u37, hu37, by have := of_decide_eq_true hq; omega⟩)
     refine oSkip rfl rfl rfl rfl (oSkip rfl rfl rfl rfl (oSkip rfl rfl rfl rfl (oSkip rfl rfl rfl rfl (oSkip rfl rfl rfl rfl (oSkip rfl rfl rfl rfl (oSkip rfl rfl rfl rfl (oSkip rfl rfl rfl rfl (oSkip rfl rfl rfl rfl (oSkip rfl rfl rfl rfl (oSkip rfl rfl rfl rfl (oHead ?_)))))))))))
     refine oPickF rfl rfl (oNilT (thn_n ?_))
     refine ⟨rfl, (_, _, _), ?_, cv, Lh⟩; intro hq; first | (cases hq; done) | (exact ⟨i, k, rfl, rfl, u37, hu37, by have := of_decide_eq_true hq; omega⟩)
    refine oSkip rfl rfl rfl rfl (oSkip rfl rfl rfl rfl (oSkip rfl rfl rfl rfl (oPickF rfl rfl (oMove rfl (oSkip rfl rfl rfl rfl (oSkip rfl rfl rfl rfl (oSkip rfl rfl rfl rfl (oSkip rfl rfl rfl rfl (oSkip rfl rfl rfl rfl (oSkip rfl rfl rfl rfl (oSkip rfl rfl rfl rfl ?_)))))))))))
    refine oSkip rfl rfl rfl rfl (oSkip rfl rfl rfl rfl (oSkip rfl rfl rfl rfl (oSkip rfl rfl rfl rfl (oHead (oPickF rfl rfl (oNilT (thn_n ?_)))))))
    refine ⟨rfl, (_, _, _), ?_, cv, Lh⟩; intro hq; first | (cases hq; done) | (exact ⟨i, k, rfl, rfl, u37, hu37, by have := of_decide_eq_true hq; omega⟩)
   refine oSkip rfl rfl rfl rfl (oSkip rfl rfl rfl rfl (oSkip rfl rfl rfl rfl (oSkip rfl rfl rfl rfl (oSkip rfl rfl rfl rfl (oSkip rfl rfl rfl rfl (oPickF rfl rfl (oMove rfl (oSkip rfl rfl rfl rfl (oSkip rfl rfl rfl rfl (oSkip rfl rfl rfl rfl (oPickF rfl rfl ?_)))))))))))
   refine oMove rfl (oSkip rfl rfl rfl rfl (oSkip rfl rfl rfl rfl (oSkip rfl rfl rfl rfl (oSkip rfl rfl rfl rfl (oSkip rfl rfl rfl rfl (oSkip rfl rfl rfl rfl (oSkip rfl rfl rfl rfl (oSkip rfl rfl rfl rfl (oSkip rfl rfl rfl rfl (oSkip rfl rfl rfl rfl (oSkip rfl rfl rfl rfl ?_)))))))))))
   refine oHead (oPickF rfl rfl (oNilT (thn_n ?_)))
   refine ⟨rfl, (_, _, _), ?_, cv, Lh⟩; intro hq; first | (cases hq; done) | (exact ⟨i, k, rfl, rfl, u37, hu37, by have := of_decide_eq_true hq; omega⟩)
  rintro ⟨q, Bf, Bd⟩ hq
  try dsimp only
  refine wC (fun h40 => ?_) (fun h40 => ?_)
  ·
   obtain ⟨i, k, rfl, rfl, t, ht, hkt⟩ := hq h40
   have hil := (List.getElem?_eq_some_iff.1 ht).1
   refine wDraw2 rfl rfl [9] [0, 1, 2, 3, 4, 5, 6, 7, 8, 10] 11 (by kernel_rfl) rfl rfl rfl (fun w0 => ?_)
   refine oFld (n := 0) (m := 0) rfl rfl rfl (oLd rfl (by repeat constructor) rfl rfl ?_)
   refine oIdxA (i := 0) (m := 0) rfl rfl rfl rfl (by decide) rfl ?_
   refine oLd rfl (by repeat constructor) rfl rfl ?_
   refine oIdxR rfl rfl (by repeat constructor) (by omega) rfl rfl (fun g45 hg45 => ?_)
   first | subst hg45 | (injection hg45 with hg45; injection hg45 with hg45; subst hg45)
   first | refine oFldX (n := 12) (m := 12) rfl rfl rfl ?_ | refine oFldR (n := 12) (m := 12) rfl rfl rfl ?_ | refine oFldD (n := 12) (m := 12) rfl rfl rfl ?_
   refine oLdR (kd := kFunT) rfl (by repeat constructor) (by omega) rfl rfl (fun u47 cs47 hu47 hk47 => ⟨_, kFunT_hdr hk47, ?_⟩)
   obtain rfl : u47 = t := Option.some.inj (hu47.symm.trans ht)
   obtain ⟨v0, v1, v2, v3, B3, n3, c3⟩ := u47
   obtain ⟨r, hr⟩ : ∃ r, fr[i]? = some r := ⟨_, List.getElem?_eq_getElem (by omega)⟩
   refine oFocus (kd := Kd.int .i64) (W := W0) (ei := 3) (hs := ft.map hdT) (xss := fr) (i := i) (u := (B3, n3, c3)) (xs := r) (by repeat constructor) (by rw [List.getElem?_map, hu47]; rfl) hr ?_
   refine oRoom (kd := Kd.int .i64) (W0 := W0) (e := 3) (A := B3) (n := n3) (cp := c3) (xs := r) (by repeat constructor) (fun hrn hrc => ?_)
   refine oIdxA (i := 1) (m := 1) rfl rfl rfl rfl (by decide) rfl ?_
   refine oLd rfl (by repeat constructor) rfl rfl ?_
   refine oIdxR rfl rfl (by repeat constructor) (show k < n3 from hkt) rfl rfl (fun g51 hg51 => ?_)
   first | subst hg51 | (injection hg51 with hg51; injection hg51 with hg51; subst hg51)
   refine oHead ?_
   refine oStR (enc := Value.int .i64) n rfl rfl rfl rfl (by repeat constructor) (by show k < _; rw [← hrn]; exact hkt) ?_
   refine oBack (kd := Kd.int .i64) (W := W0) (ei := 3) (hs := ft.map hdT) (xss := fr) (i := i) (u := (some ⟨g51, 0, none⟩, n3, c3)) (xs := r.set k n) (by repeat constructor) (by repeat constructor) (by rw [List.length_map]; exact hil) (by rw [List.length_map]; exact hzf) ?_
   rw [set_same (l := ft.map hdT) (u := (some ⟨g51, 0, none⟩, n3, c3)) (by rw [List.getElem?_map, hu47]; rfl)]
   refine oNilT (thn_n (wSeq (wRegion' (oLdA rfl (by repeat constructor) rfl (by repeat constructor) ?_))))
   refine oStA rfl rfl rfl rfl (by repeat constructor) (by rfl) ?_
   refine oNil (thn_n (wRet (fin_r ?_)))
   refine ⟨rfl, _, (ResL.cons (by first | exact ResR.cell rfl (by repeat constructor) rfl | exact ResR.agg rfl (by repeat constructor) rfl rfl) ResL.nil), ?_⟩
   exact ⟨(⟨some ⟨g45, 0, none⟩, cf, ft, fr.set i (r.set k n), Bd, cd, dt, dr⟩, e), ⟨by show _ = (fr.set _ _).length; rw [List.length_set]; exact hzf, hzd⟩, rfl, Lh⟩
  refine wCut (ι := Bool × Option Addr × Option Addr) (fun q => [(2, .int .i64 n), (4, .pointer (some ⟨b4, 0, none⟩)), (5, .pointer (some ⟨b5, 0, none⟩)), (8, .pointer (some ⟨b8, 0, none⟩)), (80, .bool q.1)]) (fun q => [blk b4 29 [.slice q.2.1 ft.length cf, .slice q.2.2 dt.length cd, .int .i64 e], blk b5 23 [.int .i64 x, .int .i64 y], blk b8 29 [.slice none 0 0, .slice none 0 0, .int .i64 0], row kFunT W0 49 (.slice q.2.1 ft.length cf) ft, bun (rws (Kd.int .i64) W0 3 (ft.map hdT) fr), row kDatT W0 98 (.slice q.2.2 dt.length cd) dt, bun (rws (Kd.int .i64) W0 3 (dt.map hdT) dr)]) (fun q => q.1 = true → ∃ i k : Nat, x = (i : Int) ∧ y = (k : Int) ∧ ∃ t, dt[i]? = some t ∧ k < (hdT t).2.1) ?_ ?_
  ·
   refine wDraw2 rfl rfl [] [0, 1, 2, 3, 4, 5, 6, 7, 8, 9, 10, 11, 12, 13, 14, 15, 16, 17, 18, 19, 20, 21, 22, 23, 24, 25, 26, 27] 28 (by kernel_rfl) rfl rfl rfl (fun w0 => ?_)
   refine oIdxA (i := 0) (m := 0) rfl rfl rfl rfl (by decide) rfl ?_
   refine oLd rfl (by repeat constructor) rfl rfl ?_
   refine oGeq rfl rfl (oMove rfl ?_)
   first | refine oSplit (t := 55) rfl (fun h55 => ?_) (fun h55 => ?_) | refine oSplitB (t := 55) rfl (fun h55 => ?_) (fun h55 => ?_)
   ·
    obtain ⟨i, rfl⟩ := Int.eq_ofNat_of_zero_le (show 0 ≤ x from h55)
    refine oWant rfl rfl (oIdxA (i := 0) (m := 0) rfl rfl rfl rfl (by decide) rfl ?_)
    refine oWant rfl rfl (oLd rfl (by repeat constructor) rfl rfl ?_)
    refine oWant rfl rfl (oFld (n := 1) (m := 1) rfl rfl rfl (oWant rfl rfl (oLd rfl (by repeat constructor) rfl rfl ?_)))
    refine oWant rfl rfl (oLenS rfl rfl (oWant rfl rfl (oLss rfl rfl (oPickT rfl rfl (oMove rfl ?_)))))
    first | refine oSplit (t := 63) rfl (fun h63 => ?_) (fun h63 => ?_) | refine oSplitB (t := 63) rfl (fun h63 => ?_) (fun h63 => ?_)
    ·
     refine oWant rfl rfl (oIdxA (i := 1) (m := 1) rfl rfl rfl rfl (by decide) rfl ?_)
     refine oWant rfl rfl (oLd rfl (by repeat constructor) rfl rfl ?_)
     refine oWant rfl rfl (oGeq rfl rfl (oPickT rfl rfl (oMove rfl ?_)))
     first | refine oSplit (t := 68) rfl (fun h68 => ?_) (fun h68 => ?_) | refine oSplitB (t := 68) rfl (fun h68 => ?_) (fun h68 => ?_)
     ·
      obtain ⟨k, rfl⟩ := Int.eq_ofNat_of_zero_le (show 0 ≤ y by first | exact h68 | simpa using h68)
      have hif : i < dt.length := by first | omega | (have := of_decide_eq_true h63; omega)
      refine oWant rfl rfl (oIdxA (i := 1) (m := 1) rfl rfl rfl rfl (by decide) rfl ?_)
      refine oWant rfl rfl (oLd rfl (by repeat constructor) rfl rfl ?_)
      refine oWant rfl rfl (oFld (n := 1) (m := 1) rfl rfl rfl (oWant rfl rfl (oLd rfl (by repeat constructor) rfl rfl ?_)))
      refine oWant rfl rfl (oIdxA (i := 0) (m := 0) rfl rfl rfl rfl (by decide) rfl ?_)
      refine oWant rfl rfl (oLd rfl (by repeat constructor) rfl rfl ?_)
      refine oWant rfl rfl (oIdxR rfl rfl (by repeat constructor) (by omega) rfl rfl (fun g75 hg75 => ?_))
      first | subst hg75 | (injection hg75 with hg75; injection hg75 with hg75; subst hg75)
      refine oWant rfl rfl ?_
      first | refine oFldX (n := 6) (m := 6) rfl rfl rfl ?_ | refine oFldR (n := 6) (m := 6) rfl rfl rfl ?_ | refine oFldD (n := 6) (m := 6) rfl rfl rfl ?_
      refine oWant rfl rfl (oLdR (kd := kDatT) rfl (by repeat constructor) (by omega) rfl rfl (fun u77 cs77 hu77 hk77 => ⟨_, kDatT_hdr hk77, ?_⟩))
      refine oWant rfl rfl (oLenS rfl rfl (oWant rfl rfl (oLss rfl rfl (oHead (oPickT rfl rfl (oNilT (thn_n ?_)))))))
      refine ⟨rfl, (_, _, _), ?_, cv, Lh⟩; intro hq; first | (cases hq; done) | (exact ⟨i, k, rfl, rfl, u77, hu77, by have := of_decide_eq_true hq; omega⟩)
     refine oSkip rfl rfl rfl rfl (oSkip rfl rfl rfl rfl (oSkip rfl rfl rfl rfl (oSkip rfl rfl rfl rfl (oSkip rfl rfl rfl rfl (oSkip rfl rfl rfl rfl (oSkip rfl rfl rfl rfl (oSkip rfl rfl rfl rfl (oSkip rfl rfl rfl rfl (oSkip rfl rfl rfl rfl (oSkip rfl rfl rfl rfl (oHead ?_)))))))))))
     refine oPickF rfl rfl (oNilT (thn_n ?_))
     refine ⟨rfl, (_, _, _), ?_, cv, Lh⟩; intro hq; first | (cases hq; done) | (exact ⟨i, k, rfl, rfl, u77, hu77, by have := of_decide_eq_true hq; omega⟩)
    refine oSkip rfl rfl rfl rfl (oSkip rfl rfl rfl rfl (oSkip rfl rfl rfl rfl (oPickF rfl rfl (oMove rfl (oSkip rfl rfl rfl rfl (oSkip rfl rfl rfl rfl (oSkip rfl rfl rfl rfl (oSkip rfl rfl rfl rfl (oSkip rfl rfl rfl rfl (oSkip rfl rfl rfl rfl (oSkip rfl rfl rfl rfl ?_)))))))))))
    refine oSkip rfl rfl rfl rfl (oSkip rfl rfl rfl rfl (oSkip rfl rfl rfl rfl (oSkip rfl rfl rfl rfl (oHead (oPickF rfl rfl (oNilT (thn_n ?_)))))))
    refine ⟨rfl, (_, _, _), ?_, cv, Lh⟩; intro hq; first | (cases hq; done) | (exact ⟨i, k, rfl, rfl, u77, hu77, by have := of_decide_eq_true hq; omega⟩)
   refine oSkip rfl rfl rfl rfl (oSkip rfl rfl rfl rfl (oSkip rfl rfl rfl rfl (oSkip rfl rfl rfl rfl (oSkip rfl rfl rfl rfl (oSkip rfl rfl rfl rfl (oPickF rfl rfl (oMove rfl (oSkip rfl rfl rfl rfl (oSkip rfl rfl rfl rfl (oSkip rfl rfl rfl rfl (oPickF rfl rfl ?_)))))))))))
   refine oMove rfl (oSkip rfl rfl rfl rfl (oSkip rfl rfl rfl rfl (oSkip rfl rfl rfl rfl (oSkip rfl rfl rfl rfl (oSkip rfl rfl rfl rfl (oSkip rfl rfl rfl rfl (oSkip rfl rfl rfl rfl (oSkip rfl rfl rfl rfl (oSkip rfl rfl rfl rfl (oSkip rfl rfl rfl rfl (oSkip rfl rfl rfl rfl ?_)))))))))))
   refine oHead (oPickF rfl rfl (oNilT (thn_n ?_)))
   refine ⟨rfl, (_, _, _), ?_, cv, Lh⟩; intro hq; first | (cases hq; done) | (exact ⟨i, k, rfl, rfl, u77, hu77, by have := of_decide_eq_true hq; omega⟩)
  rintro ⟨q2, Cf, Cd⟩ hq2
  try dsimp only
  refine wC (fun h80 => ?_) (fun h80 => ?_)
  ·
   obtain ⟨i, k, rfl, rfl, t, ht, hkt⟩ := hq2 h80
   have hil := (List.getElem?_eq_some_iff.1 ht).1
   refine wDraw2 rfl rfl [9] [0, 1, 2, 3, 4, 5, 6, 7, 8, 10] 11 (by kernel_rfl) rfl rfl rfl (fun w0 => ?_)
   refine oFld (n := 1) (m := 1) rfl rfl rfl (oLd rfl (by repeat constructor) rfl rfl ?_)
   refine oIdxA (i := 0) (m := 0) rfl rfl rfl rfl (by decide) rfl ?_
   refine oLd rfl (by repeat constructor) rfl rfl ?_
   refine oIdxR rfl rfl (by repeat constructor) (by omega) rfl rfl (fun g85 hg85 => ?_)
   first | subst hg85 | (injection hg85 with hg85; injection hg85 with hg85; subst hg85)
   first | refine oFldX (n := 6) (m := 6) rfl rfl rfl ?_ | refine oFldR (n := 6) (m := 6) rfl rfl rfl ?_ | refine oFldD (n := 6) (m := 6) rfl rfl rfl ?_
   refine oLdR (kd := kDatT) rfl (by repeat constructor) (by omega) rfl rfl (fun u87 cs87 hu87 hk87 => ⟨_, kDatT_hdr hk87, ?_⟩)
   obtain rfl : u87 = t := Option.some.inj (hu87.symm.trans ht)
   obtain ⟨v0, v1, v2, v3, B3, n3, c3⟩ := u87
   obtain ⟨r, hr⟩ : ∃ r, dr[i]? = some r := ⟨_, List.getElem?_eq_getElem (by omega)⟩
   refine oFocus (kd := Kd.int .i64) (W := W0) (ei := 3) (hs := dt.map hdT) (xss := dr) (i := i) (u := (B3, n3, c3)) (xs := r) (by repeat constructor) (by rw [List.getElem?_map, hu87]; rfl) hr ?_
   refine oRoom (kd := Kd.int .i64) (W0 := W0) (e := 3) (A := B3) (n := n3) (cp := c3) (xs := r) (by repeat constructor) (fun hrn hrc => ?_)
   refine oIdxA (i := 1) (m := 1) rfl rfl rfl rfl (by decide) rfl ?_
   refine oLd rfl (by repeat constructor) rfl rfl ?_
   refine oIdxR rfl rfl (by repeat constructor) (show k < n3 from hkt) rfl rfl (fun g91 hg91 => ?_)
   first | subst hg91 | (injection hg91 with hg91; injection hg91 with hg91; subst hg91)
   refine oHead ?_
   refine oStR (enc := Value.int .i64) n rfl rfl rfl rfl (by repeat constructor) (by show k < _; rw [← hrn]; exact hkt) ?_
   refine oBack (kd := Kd.int .i64) (W := W0) (ei := 3) (hs := dt.map hdT) (xss := dr) (i := i) (u := (some ⟨g91, 0, none⟩, n3, c3)) (xs := r.set k n) (by repeat constructor) (by repeat constructor) (by rw [List.length_map]; exact hil) (by rw [List.length_map]; exact hzd) ?_
   rw [set_same (l := dt.map hdT) (u := (some ⟨g91, 0, none⟩, n3, c3)) (by rw [List.getElem?_map, hu87]; rfl)]
   refine oNilT (thn_n (wSeq (wRegion' (oLdA rfl (by repeat constructor) rfl (by repeat constructor) ?_))))
   refine oStA rfl rfl rfl rfl (by repeat constructor) (by rfl) ?_
   refine oNil (thn_n (wRet (fin_r ?_)))
   refine ⟨rfl, _, (ResL.cons (by first | exact ResR.cell rfl (by repeat constructor) rfl | exact ResR.agg rfl (by repeat constructor) rfl rfl) ResL.nil), ?_⟩
   exact ⟨(⟨Cf, cf, ft, fr, some ⟨g85, 0, none⟩, cd, dt, dr.set i (r.set k n)⟩, e), ⟨hzf, by show _ = (dr.set _ _).length; rw [List.length_set]; exact hzd⟩, rfl, Lh⟩
  refine wRegion' (oMove rfl (oFld (n := 2) (m := 2) rfl rfl rfl (oSt rfl rfl rfl rfl rfl (by repeat constructor) (by repeat constructor) ?_)))
  refine oNil (thn_n (wSeq (wRegion' (oLdA rfl (by repeat constructor) rfl (by repeat constructor) ?_))))
  refine oStA rfl rfl rfl rfl (by repeat constructor) (by rfl) ?_
  refine oNil (thn_n (wRet (fin_r ?_)))
  refine ⟨rfl, _, (ResL.cons (by first | exact ResR.cell rfl (by repeat constructor) rfl | exact ResR.agg rfl (by repeat constructor) rfl rfl) ResL.nil), ?_⟩
  exact ⟨(⟨Cf, cf, ft, fr, Cd, cd, dt, dr⟩, n), ⟨hzf, hzd⟩, rfl, Lh⟩
end Go.Proofs.YtogaiijhicfoaaaGreatU
