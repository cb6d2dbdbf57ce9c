import Derived.Test.YtogaiijhicfoaaaGreatUc
import Derived.Test.YtogaiijhicfoaaaGreatVk

/-
  To what functions refer: the reference.
-/
namespace Go.Proofs.YtogaiijhicfoaaaGreatU
set_option linter.unusedVariables false
set_option linter.unusedSimpArgs false
open Go.RowKit Go.Proofs.YtogaiijhicfoaaaGreatK Go.Proofs.YtogaiijhicfoaaaGreatT Go.Proofs.YtogaiijhicfoaaaGreatL Go.Proofs.YtogaiijhicfoaaaGreatV Go.Proofs.YtogaiijhicfoaaaGreatG

theorem ris_succ {l : List Int} {i : Nat} : ris l (i + 1) = ris l i ++ (if (i : Int) ∈ l then [(i : Int)] else []) := by
  unfold ris
  rw [List.range_succ, List.filter_append, List.map_append]
  congr 1
  show List.map _ (List.filter _ [i]) = _
  by_cases h : (i : Int) ∈ l
  · rw [if_pos h]; simp [h]
  · rw [if_neg h]; simp [h]
set_option maxRecDepth 100000 in
set_option maxHeartbeats 600000 in
theorem ref25_Rising {B : Base} {w : World} (hS : St B [] w) (l : List Int) (A : Option Addr) (cp : Nat) (hC : (Kd.int .i64).C B.e A l) (m : Nat) (hm : m ≤ 1000000) (W0 : World) :
    CallsIn Fence.wide 0 Tryz.prog 139 #[.slice A l.length cp, .int .i64 (m : Int)] w (Ret B (fun _ : Option Addr × Nat => True) (fun z => .slice z.1 (ris l m).length z.2) (fun z => [row (Kd.int .i64) W0 3 (.slice z.1 (ris l m).length z.2) (ris l m)])) := by
  (refine enter Tryz.func139 rfl rfl hS ?_; simp only [List.zipIdx_cons, List.zipIdx_nil, List.map_cons, List.map_nil, Nat.reduceAdd, Nat.zero_add])
  refine wSeq (wRegion' (oAssign rfl (oNil (thn_n (wSeq (wRegion' (oAssign rfl (oNil (thn_n (wSeq (wSeq ?_)))))))))))
  refine wRegion' (oAssign rfl (oNil (thn_n (wBlock (wLoop (ι := Nat × Option Addr × Nat) (fun z => [(0, .slice A l.length cp), (1, .int .i64 (m : Int)), (5, .slice z.2.1 (ris l z.1).length z.2.2), (6, .int .i64 (z.1 : Int))]) (fun z => [row (Kd.int .i64) W0 3 (.slice z.2.1 (ris l z.1).length z.2.2) (ris l z.1)]) (fun z => z.1 ≤ m) (fun z => m - z.1) (0, none, 0) ?_ cv (Leads.nilrow.trans Lh) ?_)))))
  ·
   exact Nat.zero_le _
  rintro ⟨i, A5, c5⟩ hi
  dsimp only at hi
  have hle := ris_len l i
  have hrs := ris_succ (l := l) (i := i)
  try dsimp only
  refine wSeq (wSeq (wRegion' (oMove rfl (oMove rfl (oLss rfl rfl (oNil (thn_n (wC (fun h9 => ?_) (fun h9 => ?_)))))))))
  ·
   refine wSkip (thn_n (wSeq (wBlock (wSeq (wRegion' (oMove rfl (oMove rfl ?_)))))))
   (refine oCall rfl (by kernel_rfl) (fun w hS => frame hS (by repeat' constructor) (fun B' hB hS' => in_any hS' A cp l (Kd.C_grow hB hC) (i : Int))) ?_; rintro ⟨⟩ -)
   refine oNil (thn_n (wC (fun h14 => ?_) (fun h14 => ?_)))
   ·
    refine wRegion' (oMove rfl (oMove rfl (oBuildSlice1 rfl rfl rfl rfl rfl (by repeat constructor) rfl (fun b17 => ?_))))
    refine oApp1 (i : Int) rfl rfl rfl rfl (by repeat constructor) (by repeat constructor) rfl (by omega) rfl (fun g18 cp18 => ?_)
    rw [if_pos (by simpa using h14)] at hrs
    rw [show (ris l i).length + 1 = (ris l (i + 1)).length by rw [hrs, List.length_append]; rfl, ← hrs]
    refine oAssign rfl (oNil (blk_n (thn_n (wRegion' (oMove rfl (oSucc rfl rfl (by omega) ?_))))))
    refine oAssign rfl (oNil (thn_n ?_))
    exact ⟨rfl, (i + 1, some ⟨g18, 0, none⟩, cp18), by show i + 1 ≤ _; omega, by show m - (i + 1) < m - i; omega, cv, Lh⟩
   refine wSkip (blk_n (thn_n (wRegion' (oMove rfl (oSucc rfl rfl (by omega) ?_)))))
   refine oAssign rfl (oNil (thn_n ?_))
   exact ⟨rfl, (i + 1, A5, c5), by show i + 1 ≤ _; omega, by show m - (i + 1) < m - i; omega, by dsimp only; rw [hrs, if_neg (by simpa using h14), List.append_nil]; exact cv, by dsimp only; rw [hrs, if_neg (by simpa using h14), List.append_nil]; exact Lh⟩
  obtain rfl : i = m := by omega
  refine wExit (thn_x (thn_x (blk_x (thn_n (wSeq (wRegion' (oMove rfl (oAssign rfl (oNil (thn_n (wRet ?_)))))))))))
  refine fin_r (fi1 rfl ?_)
  exact ⟨(A5, c5), trivial, rfl, Lh⟩
set_option maxRecDepth 100000 in
set_option maxHeartbeats 1000000 in
theorem ref25_refs {B : Base} {w : World} (hS : St B [] w) (f : ApiFun) (fc : List Value) (hf : kApiFun.K B.e f fc) (hl : f.fRefs.length ≤ 1000) (needs : List Int) (A : Option Addr) (cp : Nat) (hC : (Kd.int .i64).C B.e A needs) (W0 : World) :
    CallsIn Fence.wide 0 Tryz.prog 140 #[.agg fc.toArray, .slice A needs.length cp] w (Ret B (fun _ : Option Addr × Nat => True) (fun z => .slice z.1 (refsC f needs).length z.2) (fun z => [row (Kd.int .i64) W0 3 (.slice z.1 (refsC f needs).length z.2) (refsC f needs)])) := by
  obtain ⟨D0, d0, D1, d1, D2, d2, D3, d3, D4, d4, rfl, m0, q0, m1, q1, m2, q2, m3, q3, m4, q4⟩ := kApiFun_open hf
  have hcl := q2.1
  (refine enter Tryz.func140 rfl rfl hS ?_; simp only [List.zipIdx_cons, List.zipIdx_nil, List.map_cons, List.map_nil, Nat.reduceAdd, Nat.zero_add])
  refine wSeq (wRegion' (oBox rfl (by repeat constructor) (fun b2 => ?_)))
  refine oAssign rfl (oNil (thn_n (wSeq (wRegion' (oAssign rfl (oNil (thn_n (wSeq (wSeq (wRegion' (oAssign rfl ?_)))))))))))
  refine oNil (thn_n (wBlock (wLoop (ι := Nat × Option Addr × Nat) (fun z => [(1, .slice A needs.length cp), (2, .pointer (some ⟨b2, 0, none⟩)), (5, .slice z.2.1 (refsTo f needs z.1).length z.2.2), (6, .int .i64 (z.1 : Int))]) (fun z => [blk b2 49 [.int .i64 f.fFile, .int .i64 f.fItem, .string f.fName, .int .i64 f.fF.fClass, .slice D0 f.fF.fKinds.length d0, .int .i64 f.fF.fPad, .bool f.fF.fNosplit, .int .i64 f.fF.fFrom, .int .i64 f.fF.fTo, .slice D1 f.fF.fLines.length d1, .slice D2 f.fF.fCode.length d2, .slice D3 f.fF.fRelocs.length d3, .slice D4 f.fRefs.length d4], row (Kd.int .i64) W0 3 (.slice z.2.1 (refsTo f needs z.1).length z.2.2) (refsTo f needs z.1)]) (fun z => z.1 ≤ f.fF.fCode.length) (fun z => f.fF.fCode.length - z.1) (0, none, 0) ?_ cv (Leads.nilrow.trans Lh) ?_)))
  ·
   exact Nat.zero_le _
  rintro ⟨i, A5, c5⟩ hi
  dsimp only at hi
  have hle := refsTo_len f needs i
  try dsimp only
  refine wSeq (wSeq (wRegion' (oMove rfl (oFld (n := 3) (m := 3) rfl rfl rfl (oFld (n := 7) (m := 10) rfl rfl rfl (oLd rfl (by repeat constructor) rfl rfl ?_))))))
  refine oLenS rfl rfl (oLss rfl rfl (oMove rfl ?_))
  first | refine oSplit (t := 13) rfl (fun h13 => ?_) (fun h13 => ?_) | refine oSplitB (t := 13) rfl (fun h13 => ?_) (fun h13 => ?_)
  ·
   refine oWant rfl rfl (oMove rfl (oWant rfl rfl (oFld (n := 12) (m := 12) rfl rfl rfl (oWant rfl rfl (oLd rfl (by repeat constructor) rfl rfl ?_)))))
   refine oWant rfl rfl (oLenS rfl rfl (oWant rfl rfl (oLss rfl rfl (oPickT rfl rfl (oNil (thn_n (wC (fun h19 => ?_) (fun h19 => ?_))))))))
   ·
    obtain ⟨x, hx⟩ : ∃ x, f.fF.fCode[i]? = some x := ⟨_, List.getElem?_eq_getElem (by omega)⟩
    obtain ⟨e1, cs1, hE⟩ := q2.elm hx
    obtain rfl := kApiInstr_open hE.K
    obtain ⟨r, hr⟩ : ∃ r, f.fRefs[i]? = some r := ⟨_, List.getElem?_eq_getElem (by omega)⟩
    obtain ⟨e2, cs2, hE2⟩ := q4.elm hr
    obtain rfl := (show cs2 = [Value.int .i64 r] from hE2.K)
    have hrs := refsTo_succ (needs := needs) hx hr
    refine wSkip (thn_n (wSeq (wBlock (wSeq (wRegion' (oMove rfl (oFld (n := 3) (m := 3) rfl rfl rfl (oFld (n := 7) (m := 10) rfl rfl rfl (oLd rfl (by repeat constructor) rfl rfl ?_)))))))))
    refine oMove rfl (oIdxE rfl rfl (hE) (by omega) rfl rfl ?_)
    have hc27 := (hE).cell
    first | refine oFldX (n := 0) (m := 0) rfl rfl rfl ?_ | refine oFldR (n := 0) (m := 0) rfl rfl rfl ?_ | refine oFldD (n := 0) (m := 0) rfl rfl rfl ?_
    first | refine oLdX rfl hc27 rfl rfl ?_ | refine oLdXA rfl hc27 rfl (by repeat constructor) ?_ | (refine oLdR1 rfl (by repeat constructor) (by omega) rfl (fun u29 hu29 => ?_))
    (refine oCall rfl (by kernel_rfl) (fun w hS => frame hS (by repeat' constructor) (fun B' hB hS' => ref7_Need hS' x.fOp)) ?_; rintro ⟨⟩ -)
    (refine oCall rfl (by kernel_rfl) (fun w hS => frame hS (by repeat' constructor) (fun B' hB hS' => in_any hS' A cp needs (Kd.C_grow hB hC) (needF x.fOp))) ?_; rintro ⟨⟩ -)
    refine oNil (thn_n (wC (fun h31 => ?_) (fun h31 => ?_)))
    ·
     refine wRegion' (oMove rfl (oFld (n := 12) (m := 12) rfl rfl rfl (oLd rfl (by repeat constructor) rfl rfl ?_)))
     refine oMove rfl (oIdxE rfl rfl (hE2) (by omega) rfl rfl ?_)
     have hc36 := (hE2).cell
     first | refine oLdX rfl hc36 rfl rfl ?_ | refine oLdXA rfl hc36 rfl (by repeat constructor) ?_ | (refine oLdR1 rfl (by repeat constructor) (by omega) rfl (fun u37 hu37 => ?_))
     refine oBuildSlice1 rfl rfl rfl rfl rfl (by repeat constructor) rfl (fun b38 => ?_)
     refine oApp1 r rfl rfl rfl rfl (by repeat constructor) (by repeat constructor) rfl (by omega) rfl (fun g39 cp39 => ?_)
     rw [if_pos (by simpa using h31)] at hrs
     rw [show (refsTo f needs i).length + 1 = (refsTo f needs (i + 1)).length by rw [hrs, List.length_append]; rfl, ← hrs]
     refine oAssign rfl (oNil (blk_n (thn_n (wRegion' (oMove rfl (oSucc rfl rfl (by omega) ?_))))))
     refine oAssign rfl (oNil (thn_n ?_))
     exact ⟨rfl, (i + 1, some ⟨g39, 0, none⟩, cp39), by show i + 1 ≤ _; omega, by show f.fF.fCode.length - (i + 1) < f.fF.fCode.length - i; omega, cv, Lh⟩
    refine wSkip (blk_n (thn_n (wRegion' (oMove rfl (oSucc rfl rfl (by omega) ?_)))))
    refine oAssign rfl (oNil (thn_n ?_))
    exact ⟨rfl, (i + 1, A5, c5), by show i + 1 ≤ _; omega, by show f.fF.fCode.length - (i + 1) < f.fF.fCode.length - i; omega, by dsimp only; rw [hrs, if_neg (by simpa using h31), List.append_nil]; exact cv, by dsimp only; rw [hrs, if_neg (by simpa using h31), List.append_nil]; exact Lh⟩
   refine wExit (thn_x (thn_x (blk_x (thn_n (wSeq (wRegion' (oMove rfl (oAssign rfl (oNil (thn_n (wRet ?_)))))))))))
   refine fin_r (fi1 rfl ?_)
   have ha := refsTo_all (f := f) (needs := needs) (i := i) (by omega)
   exact ⟨(A5, c5), trivial, by dsimp only; rw [← ha]; rfl, by dsimp only; rw [← ha]; exact Lh⟩
  refine oSkip rfl rfl rfl rfl (oSkip rfl rfl rfl rfl (oSkip rfl rfl rfl rfl (oSkip rfl rfl rfl rfl (oSkip rfl rfl rfl rfl (oPickF rfl rfl (oNil (thn_n ?_)))))))
  first | refine wCondF rfl ?_ | refine wCondFd h19 rfl ?_ | refine wCondFb h19 rfl ?_
  refine wExit (thn_x (thn_x (blk_x (thn_n (wSeq (wRegion' (oMove rfl (oAssign rfl (oNil (thn_n (wRet ?_)))))))))))
  refine fin_r (fi1 rfl ?_)
  have ha := refsTo_all (f := f) (needs := needs) (i := i) (by omega)
  exact ⟨(A5, c5), trivial, by dsimp only; rw [← ha]; rfl, by dsimp only; rw [← ha]; exact Lh⟩
set_option maxRecDepth 100000 in
set_option maxHeartbeats 1000000 in
theorem ref25_Direct {B : Base} {w : World} (hS : St B [] w) (p : ApiProgram) (pc : List Value) (hp : kApiProgram.K B.e p pc) (hsm : SmallP p) (i : Nat) (f : ApiFun) (hfi : p.fFuns[i]? = some f) (W0 : World) :
    CallsIn Fence.wide 0 Tryz.prog 77 #[.agg pc.toArray, .int .i64 (i : Int)] w (Ret B (fun _ : Option Addr × Nat => True) (fun z => .slice z.1 (directF p f).length z.2) (fun z => [row (Kd.int .i64) W0 3 (.slice z.1 (directF p f).length z.2) (directF p f)])) := by
  obtain ⟨A0, c0, A1, c1, rfl, l0, g0, l1, g1⟩ := kApiProgram_open hp
  have hfm := List.mem_of_getElem? hfi
  have hil := (List.getElem?_eq_some_iff.1 hfi).1
  have hfs := hsm.fn f hfm
  have hpf := hsm.funs
  have hpd := hsm.dats
  obtain ⟨ef, csf, hEf⟩ := g0.elm hfi
  obtain ⟨D0, d0, D1, d1, D2, d2, D3, d3, D4, d4, rfl, m0, q0, m1, q1, m2, q2, m3, q3, m4, q4⟩ := kApiFun_open hEf.K
  have hrl := refsC_len f [1, 5]
  (refine enter Tryz.func77 rfl rfl hS ?_; simp only [List.zipIdx_cons, List.zipIdx_nil, List.map_cons, List.map_nil, Nat.reduceAdd, Nat.zero_add])
  refine wSeq (wRegion' (oBox rfl (by repeat constructor) (fun b2 => ?_)))
  refine oAssign rfl (oNil (thn_n (wSeq (wDrawG rfl [0, 1, 2, 3, 4, 7, 8, 9] [(5, [0, 1, 2, 3, 4, 7, 8, 9], []), (6, [7, 8, 9], []), (10, [], [])] [11] 24 (by kernel_rfl) rfl rfl (fun w0 => ?_)))))
  refine oFld (n := 0) (m := 0) rfl rfl rfl (oLd rfl (by repeat constructor) rfl rfl ?_)
  refine oMove rfl (oIdxE rfl rfl (hEf) (by omega) rfl rfl ?_)
  have hc8 := (hEf).cell
  first | refine oLdX rfl hc8 rfl rfl ?_ | refine oLdXA rfl hc8 rfl (by repeat constructor) ?_ | (refine oLdR1 rfl (by repeat constructor) (by omega) rfl (fun u9 hu9 => ?_))
  refine oFld (n := 0) (m := 0) rfl rfl rfl (oLd rfl (by repeat constructor) rfl rfl ?_)
  refine oLenS rfl rfl (oLkSegG (oSegG rfl ?_))
  refine oBuildSliceF (Parts.cons rfl (Parts.cons rfl Parts.nil)) rfl rfl rfl rfl rfl (Fulls.cons (by repeat constructor) rfl (Fulls.cons (by repeat constructor) rfl Fulls.nil (by repeat (first | exact AppL.nil | apply AppL.cons))) (by repeat (first | exact AppL.nil | apply AppL.cons))) (fun b10 => ?_)
  refine oConv (blk_row (enc := Value.int .i64) (h1 := fun _ => rfl) (W := B.e) (xs := ([1, 5] : List Int)) (n := 2) (by repeat constructor) rfl rfl (by decide)) ?_
  refine oAgainG ?_ rfl (fun w0 => ?_)
  ·
   refine AgainG.cons rfl rfl rfl rfl (fun w0 => ?_) ?_
   ·
    refine oFld (n := 0) (m := 0) rfl rfl rfl ?_
    exact oLkHas rfl
   refine AgainG.cons rfl rfl rfl rfl (fun w0 => ?_) ?_
   ·
    refine oLd rfl (by repeat constructor) rfl rfl ?_
    exact oLkHas rfl
   refine AgainG.cons rfl rfl rfl rfl (fun w0 => ?_) ?_
   ·
    refine oMove rfl ?_
    exact oLkHas rfl
   refine AgainG.cons rfl rfl rfl rfl (fun w0 => ?_) ?_
   ·
    refine oIdxE rfl rfl (hEf) (by omega) rfl rfl ?_
    have hc8 := (hEf).cell
    exact oLkHas rfl
   refine AgainG.cons rfl rfl rfl rfl (fun w0 => ?_) ?_
   ·
    first | refine oLdX rfl hc8 rfl rfl ?_ | refine oLdXA rfl hc8 rfl (by repeat constructor) ?_ | (refine oLdR1 rfl (by repeat constructor) (by omega) rfl (fun u9 hu9 => ?_))
    exact oLkHas rfl
   refine AgainG.cons rfl rfl rfl rfl (fun w0 => ?_) ?_
   ·
    refine oFld (n := 0) (m := 0) rfl rfl rfl ?_
    exact oLkHas rfl
   refine AgainG.cons rfl rfl rfl rfl (fun w0 => ?_) ?_
   ·
    refine oLd rfl (by repeat constructor) rfl rfl ?_
    exact oLkHas rfl
   refine AgainG.cons rfl rfl rfl rfl (fun w0 => ?_) ?_
   ·
    refine oLenS rfl rfl ?_
    exact oLkHas rfl
   exact AgainG.nil
  refine oLkSegG (oSegG rfl ?_)
  (refine oCall rfl (by kernel_rfl) (fun w hS => frame' hS .nil (fun B' hB hR hS' => ref25_refs hS' f _ (kApiFun_mk _ f m0 (Kd.C_grow hB q0) m1 (Kd.C_grow hB q1) m2 (Kd.C_grow hB q2) m3 (Kd.C_grow hB q3) m4 (Kd.C_grow hB q4)) (by omega) [1, 5] (some ⟨b10, 0, none⟩) 2 (row_Cs (W := B.e) (e := 3) (n := 2) (cp := 2) (hR _ _ (by repeat constructor))) B.e)) ?_; rintro ⟨A7, c7⟩ -)
  refine oAgainG ?_ rfl (fun w0 => ?_)
  ·
   refine AgainG.cons rfl rfl rfl rfl (fun w0 => ?_) ?_
   ·
    refine oFld (n := 0) (m := 0) rfl rfl rfl ?_
    exact oLkHas rfl
   refine AgainG.cons rfl rfl rfl rfl (fun w0 => ?_) ?_
   ·
    refine oLd rfl (by repeat constructor) rfl rfl ?_
    exact oLkHas rfl
   refine AgainG.cons rfl rfl rfl rfl (fun w0 => ?_) ?_
   ·
    refine oLenS rfl rfl ?_
    exact oLkHas rfl
   exact AgainG.nil
  refine oLkSegG (oSegG rfl ?_)
  (refine oCall rfl (by kernel_rfl) (fun w hS => frame' hS .nil (fun B' hB hR hS' => ref25_Rising hS' (refsC f [1, 5]) A7 c7 (row_Cs (W := B.e) (e := 3) (n := (refsC f [1, 5]).length) (cp := c7) (hR _ _ (by repeat constructor))) p.fFuns.length (by omega) W0)) ?_; rintro ⟨A11, c11⟩ -)
  refine oAgainG ?_ rfl (fun w0 => ?_)
  ·
   exact AgainG.nil
  refine oTailG (oAssign rfl (oNil (thn_n (wRet (fin_r (fi1 rfl ?_))))))
  exact ⟨(A11, c11), trivial, rfl, Lh⟩
set_option maxRecDepth 100000 in
set_option maxHeartbeats 1000000 in
theorem ref25_Datas {B : Base} {w : World} (hS : St B [] w) (p : ApiProgram) (pc : List Value) (hp : kApiProgram.K B.e p pc) (hsm : SmallP p) (i : Nat) (f : ApiFun) (hfi : p.fFuns[i]? = some f) (W0 : World) :
    CallsIn Fence.wide 0 Tryz.prog 81 #[.agg pc.toArray, .int .i64 (i : Int)] w (Ret B (fun _ : Option Addr × Nat => True) (fun z => .slice z.1 (datasF p f).length z.2) (fun z => [row (Kd.int .i64) W0 3 (.slice z.1 (datasF p f).length z.2) (datasF p f)])) := by
  obtain ⟨A0, c0, A1, c1, rfl, l0, g0, l1, g1⟩ := kApiProgram_open hp
  have hfm := List.mem_of_getElem? hfi
  have hil := (List.getElem?_eq_some_iff.1 hfi).1
  have hfs := hsm.fn f hfm
  have hpf := hsm.funs
  have hpd := hsm.dats
  obtain ⟨ef, csf, hEf⟩ := g0.elm hfi
  obtain ⟨D0, d0, D1, d1, D2, d2, D3, d3, D4, d4, rfl, m0, q0, m1, q1, m2, q2, m3, q3, m4, q4⟩ := kApiFun_open hEf.K
  have hrl := refsC_len f [3, 4]
  (refine enter Tryz.func81 rfl rfl hS ?_; simp only [List.zipIdx_cons, List.zipIdx_nil, List.map_cons, List.map_nil, Nat.reduceAdd, Nat.zero_add])
  refine wSeq (wRegion' (oBox rfl (by repeat constructor) (fun b2 => ?_)))
  refine oAssign rfl (oNil (thn_n (wSeq (wDrawG rfl [0, 1, 2, 3, 4, 7, 8, 9] [(5, [0, 1, 2, 3, 4, 7, 8, 9], []), (6, [7, 8, 9], []), (10, [], [])] [11] 24 (by kernel_rfl) rfl rfl (fun w0 => ?_)))))
  refine oFld (n := 0) (m := 0) rfl rfl rfl (oLd rfl (by repeat constructor) rfl rfl ?_)
  refine oMove rfl (oIdxE rfl rfl (hEf) (by omega) rfl rfl ?_)
  have hc8 := (hEf).cell
  first | refine oLdX rfl hc8 rfl rfl ?_ | refine oLdXA rfl hc8 rfl (by repeat constructor) ?_ | (refine oLdR1 rfl (by repeat constructor) (by omega) rfl (fun u9 hu9 => ?_))
  refine oFld (n := 1) (m := 1) rfl rfl rfl (oLd rfl (by repeat constructor) rfl rfl ?_)
  refine oLenS rfl rfl (oLkSegG (oSegG rfl ?_))
  refine oBuildSliceF (Parts.cons rfl (Parts.cons rfl Parts.nil)) rfl rfl rfl rfl rfl (Fulls.cons (by repeat constructor) rfl (Fulls.cons (by repeat constructor) rfl Fulls.nil (by repeat (first | exact AppL.nil | apply AppL.cons))) (by repeat (first | exact AppL.nil | apply AppL.cons))) (fun b10 => ?_)
  refine oConv (blk_row (enc := Value.int .i64) (h1 := fun _ => rfl) (W := B.e) (xs := ([3, 4] : List Int)) (n := 2) (by repeat constructor) rfl rfl (by decide)) ?_
  refine oAgainG ?_ rfl (fun w0 => ?_)
  ·
   refine AgainG.cons rfl rfl rfl rfl (fun w0 => ?_) ?_
   ·
    refine oFld (n := 0) (m := 0) rfl rfl rfl ?_
    exact oLkHas rfl
   refine AgainG.cons rfl rfl rfl rfl (fun w0 => ?_) ?_
   ·
    refine oLd rfl (by repeat constructor) rfl rfl ?_
    exact oLkHas rfl
   refine AgainG.cons rfl rfl rfl rfl (fun w0 => ?_) ?_
   ·
    refine oMove rfl ?_
    exact oLkHas rfl
   refine AgainG.cons rfl rfl rfl rfl (fun w0 => ?_) ?_
   ·
    refine oIdxE rfl rfl (hEf) (by omega) rfl rfl ?_
    have hc8 := (hEf).cell
    exact oLkHas rfl
   refine AgainG.cons rfl rfl rfl rfl (fun w0 => ?_) ?_
   ·
    first | refine oLdX rfl hc8 rfl rfl ?_ | refine oLdXA rfl hc8 rfl (by repeat constructor) ?_ | (refine oLdR1 rfl (by repeat constructor) (by omega) rfl (fun u9 hu9 => ?_))
    exact oLkHas rfl
   refine AgainG.cons rfl rfl rfl rfl (fun w0 => ?_) ?_
   ·
    refine oFld (n := 1) (m := 1) rfl rfl rfl ?_
    exact oLkHas rfl
   refine AgainG.cons rfl rfl rfl rfl (fun w0 => ?_) ?_
   ·
    refine oLd rfl (by repeat constructor) rfl rfl ?_
    exact oLkHas rfl
   refine AgainG.cons rfl rfl rfl rfl (fun w0 => ?_) ?_
   ·
    refine oLenS rfl rfl ?_
    exact oLkHas rfl
   exact AgainG.nil
  refine oLkSegG (oSegG rfl ?_)
  (refine oCall rfl (by kernel_rfl) (fun w hS => frame' hS .nil (fun B' hB hR hS' => ref25_refs hS' f _ (kApiFun_mk _ f m0 (Kd.C_grow hB q0) m1 (Kd.C_grow hB q1) m2 (Kd.C_grow hB q2) m3 (Kd.C_grow hB q3) m4 (Kd.C_grow hB q4)) (by omega) [3, 4] (some ⟨b10, 0, none⟩) 2 (row_Cs (W := B.e) (e := 3) (n := 2) (cp := 2) (hR _ _ (by repeat constructor))) B.e)) ?_; rintro ⟨A7, c7⟩ -)
  refine oAgainG ?_ rfl (fun w0 => ?_)
  ·
   refine AgainG.cons rfl rfl rfl rfl (fun w0 => ?_) ?_
   ·
    refine oFld (n := 1) (m := 1) rfl rfl rfl ?_
    exact oLkHas rfl
   refine AgainG.cons rfl rfl rfl rfl (fun w0 => ?_) ?_
   ·
    refine oLd rfl (by repeat constructor) rfl rfl ?_
    exact oLkHas rfl
   refine AgainG.cons rfl rfl rfl rfl (fun w0 => ?_) ?_
   ·
    refine oLenS rfl rfl ?_
    exact oLkHas rfl
   exact AgainG.nil
  refine oLkSegG (oSegG rfl ?_)
  (refine oCall rfl (by kernel_rfl) (fun w hS => frame' hS .nil (fun B' hB hR hS' => ref25_Rising hS' (refsC f [3, 4]) A7 c7 (row_Cs (W := B.e) (e := 3) (n := (refsC f [3, 4]).length) (cp := c7) (hR _ _ (by repeat constructor))) p.fDats.length (by omega) W0)) ?_; rintro ⟨A11, c11⟩ -)
  refine oAgainG ?_ rfl (fun w0 => ?_)
  ·
   exact AgainG.nil
  refine oTailG (oAssign rfl (oNil (thn_n (wRet (fin_r (fi1 rfl ?_))))))
  exact ⟨(A11, c11), trivial, rfl, Lh⟩
set_option maxRecDepth 100000 in
set_option maxHeartbeats 1000000 in
theorem ref25_Values {B : Base} {w : World} (hS : St B [] w) (p : ApiProgram) (pc : List Value) (hp : kApiProgram.K B.e p pc) (hsm : SmallP p) (i : Nat) (f : ApiFun) (hfi : p.fFuns[i]? = some f) (W0 : World) :
    CallsIn Fence.wide 0 Tryz.prog 78 #[.agg pc.toArray, .int .i64 (i : Int)] w (Ret B (fun _ : Option Addr × Nat => True) (fun z => .slice z.1 (valuesF p f).length z.2) (fun z => [row (Kd.int .i64) W0 3 (.slice z.1 (valuesF p f).length z.2) (valuesF p f)])) := by
  obtain ⟨A0, c0, A1, c1, rfl, l0, g0, l1, g1⟩ := kApiProgram_open hp
  have hfm := List.mem_of_getElem? hfi
  have hil := (List.getElem?_eq_some_iff.1 hfi).1
  have hfs := hsm.fn f hfm
  have hpf := hsm.funs
  have hpd := hsm.dats
  obtain ⟨ef, csf, hEf⟩ := g0.elm hfi
  obtain ⟨D0, d0, D1, d1, D2, d2, D3, d3, D4, d4, rfl, m0, q0, m1, q1, m2, q2, m3, q3, m4, q4⟩ := kApiFun_open hEf.K
  have hrl2 := refsC_len f [2]
  have hrl4 := refsC_len f [4]
  have htl : (tablesF p f).length ≤ p.fDats.length := ris_len _ _
  (refine enter Tryz.func78 rfl rfl hS ?_; simp only [List.zipIdx_cons, List.zipIdx_nil, List.map_cons, List.map_nil, Nat.reduceAdd, Nat.zero_add])
  refine wSeq (wRegion' (oBox rfl (by repeat constructor) (fun b2 => ?_)))
  refine oAssign rfl (oNil (thn_n (wSeq (wRegion' (oFld (n := 0) (m := 0) rfl rfl rfl (oLd rfl (by repeat constructor) rfl rfl ?_))))))
  refine oMove rfl (oIdxE rfl rfl (hEf) (by omega) rfl rfl ?_)
  have hc11 := (hEf).cell
  first | refine oLdX rfl hc11 rfl rfl ?_ | refine oLdXA rfl hc11 rfl (by repeat constructor) ?_ | (refine oLdR1 rfl (by repeat constructor) (by omega) rfl (fun u12 hu12 => ?_))
  refine oBuildSlice1 rfl rfl rfl rfl rfl (by repeat constructor) rfl (fun b13 => ?_)
  refine oConv (blk_row (enc := Value.int .i64) (h1 := fun _ => rfl) (W := B.e) (xs := ([2] : List Int)) (n := 1) (by repeat constructor) rfl rfl (by decide)) ?_
  (refine oCall rfl (by kernel_rfl) (fun w hS => frame' hS .nil (fun B' hB hR hS' => ref25_refs hS' f _ (kApiFun_mk _ f m0 (Kd.C_grow hB q0) m1 (Kd.C_grow hB q1) m2 (Kd.C_grow hB q2) m3 (Kd.C_grow hB q3) m4 (Kd.C_grow hB q4)) (by omega) [2] (some ⟨b13, 0, none⟩) 1 (row_Cs (W := B.e) (e := 3) (n := 1) (cp := 1) (hR _ _ (by repeat constructor))) B.e)) ?_; rintro ⟨A10, c10⟩ -)
  refine oAssign rfl (oNil (thn_n (wSeq (wDrawG rfl [0, 1, 2, 3, 4, 7, 8, 9] [(5, [0, 1, 2, 3, 4, 7, 8, 9], []), (6, [7, 8, 9], []), (10, [], [])] [11] 24 (by kernel_rfl) rfl rfl (fun w0 => ?_)))))
  refine oFld (n := 0) (m := 0) rfl rfl rfl (oLd rfl (by repeat constructor) rfl rfl ?_)
  refine oMove rfl (oIdxE rfl rfl (hEf) (by omega) rfl rfl ?_)
  have hc18 := (hEf).cell
  first | refine oLdX rfl hc18 rfl rfl ?_ | refine oLdXA rfl hc18 rfl (by repeat constructor) ?_ | (refine oLdR1 rfl (by repeat constructor) (by omega) rfl (fun u19 hu19 => ?_))
  refine oFld (n := 1) (m := 1) rfl rfl rfl (oLd rfl (by repeat constructor) rfl rfl ?_)
  refine oLenS rfl rfl (oLkSegG (oSegG rfl (oBuildSlice1 rfl rfl rfl rfl rfl (by repeat constructor) rfl (fun b20 => ?_))))
  refine oConv (blk_row (enc := Value.int .i64) (h1 := fun _ => rfl) (W := B.e) (xs := ([4] : List Int)) (n := 1) (by repeat constructor) rfl rfl (by decide)) ?_
  refine oAgainG ?_ rfl (fun w0 => ?_)
  ·
   refine AgainG.cons rfl rfl rfl rfl (fun w0 => ?_) ?_
   ·
    refine oFld (n := 0) (m := 0) rfl rfl rfl ?_
    exact oLkHas rfl
   refine AgainG.cons rfl rfl rfl rfl (fun w0 => ?_) ?_
   ·
    refine oLd rfl (by repeat constructor) rfl rfl ?_
    exact oLkHas rfl
   refine AgainG.cons rfl rfl rfl rfl (fun w0 => ?_) ?_
   ·
    refine oMove rfl ?_
    exact oLkHas rfl
   refine AgainG.cons rfl rfl rfl rfl (fun w0 => ?_) ?_
   ·
    refine oIdxE rfl rfl (hEf) (by omega) rfl rfl ?_
    have hc18 := (hEf).cell
    exact oLkHas rfl
   refine AgainG.cons rfl rfl rfl rfl (fun w0 => ?_) ?_
   ·
    first | refine oLdX rfl hc18 rfl rfl ?_ | refine oLdXA rfl hc18 rfl (by repeat constructor) ?_ | (refine oLdR1 rfl (by repeat constructor) (by omega) rfl (fun u19 hu19 => ?_))
    exact oLkHas rfl
   refine AgainG.cons rfl rfl rfl rfl (fun w0 => ?_) ?_
   ·
    refine oFld (n := 1) (m := 1) rfl rfl rfl ?_
    exact oLkHas rfl
   refine AgainG.cons rfl rfl rfl rfl (fun w0 => ?_) ?_
   ·
    refine oLd rfl (by repeat constructor) rfl rfl ?_
    exact oLkHas rfl
   refine AgainG.cons rfl rfl rfl rfl (fun w0 => ?_) ?_
   ·
    refine oLenS rfl rfl ?_
    exact oLkHas rfl
   exact AgainG.nil
  refine oLkSegG (oSegG rfl ?_)
  (refine oCall rfl (by kernel_rfl) (fun w hS => frame' hS .nil (fun B' hB hR hS' => ref25_refs hS' f _ (kApiFun_mk _ f m0 (Kd.C_grow hB q0) m1 (Kd.C_grow hB q1) m2 (Kd.C_grow hB q2) m3 (Kd.C_grow hB q3) m4 (Kd.C_grow hB q4)) (by omega) [4] (some ⟨b20, 0, none⟩) 1 (row_Cs (W := B.e) (e := 3) (n := 1) (cp := 1) (hR _ _ (by repeat constructor))) B.e)) ?_; rintro ⟨A13, c13⟩ -)
  refine oAgainG ?_ rfl (fun w0 => ?_)
  ·
   refine AgainG.cons rfl rfl rfl rfl (fun w0 => ?_) ?_
   ·
    refine oFld (n := 1) (m := 1) rfl rfl rfl ?_
    exact oLkHas rfl
   refine AgainG.cons rfl rfl rfl rfl (fun w0 => ?_) ?_
   ·
    refine oLd rfl (by repeat constructor) rfl rfl ?_
    exact oLkHas rfl
   refine AgainG.cons rfl rfl rfl rfl (fun w0 => ?_) ?_
   ·
    refine oLenS rfl rfl ?_
    exact oLkHas rfl
   exact AgainG.nil
  refine oLkSegG (oSegG rfl ?_)
  (refine oCall rfl (by kernel_rfl) (fun w hS => frame' hS .nil (fun B' hB hR hS' => ref25_Rising hS' (refsC f [4]) A13 c13 (row_Cs (W := B.e) (e := 3) (n := (refsC f [4]).length) (cp := c13) (hR _ _ (by repeat constructor))) p.fDats.length (by omega) B.e)) ?_; rintro ⟨A17, c17⟩ -)
  have htk0 : takenTo p f 0 = refsC f [2] := by unfold takenTo; simp
  refine oSet (t := 5) (v' := .slice A10 (takenTo p f 0).length c10) rfl (by rw [htk0]) ?_
  refine oAgainG ?_ rfl (fun w0 => ?_)
  ·
   exact AgainG.nil
  refine oTailG (oAssign rfl (oNil (thn_n (wSeq (wSeq (wRegion' (oAssign rfl (oNil (thn_n (wBlock ?_))))))))))
  refine wLoop (ι := Nat × Option Addr × Nat) (fun z => [(2, .pointer (some ⟨b2, 0, none⟩)), (5, .slice z.2.1 (takenTo p f z.1).length z.2.2), (6, .slice A17 (tablesF p f).length c17), (7, .int .i64 (z.1 : Int))]) (fun z => [blk b2 29 [.slice A0 p.fFuns.length c0, .slice A1 p.fDats.length c1, .int .i64 p.fEntry], row (Kd.int .i64) B.e 3 (.slice z.2.1 (takenTo p f z.1).length z.2.2) (takenTo p f z.1), row (Kd.int .i64) B.e 3 (.slice A17 (tablesF p f).length c17) (tablesF p f)]) (fun z => z.1 ≤ (tablesF p f).length) (fun z => (tablesF p f).length - z.1) (0, A10, c10) ?_ cv (by rw [htk0]; exact Lh) ?_
  ·
   exact Nat.zero_le _
  rintro ⟨j, A5, c5⟩ hj
  dsimp only at hj
  have hto := takenTo_le hsm hfs.2.1 j
  try dsimp only
  refine wSeq (wSeq (wRegion' (oMove rfl (oMove rfl (oLenS rfl rfl (oLss rfl rfl (oNil (thn_n (wC (fun h29 => ?_) (fun h29 => ?_))))))))))
  ·
   refine wSkip (thn_n (wSeq (wBlock (wDrawG rfl [0, 1, 2, 3, 4, 5, 6, 7, 8, 9] [(10, [], [])] [11] 24 (by kernel_rfl) rfl rfl (fun w0 => ?_)))))
   refine oMove rfl (oFld (n := 1) (m := 1) rfl rfl rfl (oLd rfl (by repeat constructor) rfl rfl ?_))
   refine oMove rfl (oMove rfl (oIdxR rfl rfl (by repeat constructor) (by omega) rfl rfl (fun g37 hg37 => ?_)))
   first | subst hg37 | (injection hg37 with hg37; injection hg37 with hg37; subst hg37)
   first | refine oLdX rfl hc37 rfl rfl ?_ | refine oLdXA rfl hc37 rfl (by repeat constructor) ?_ | (refine oLdR1 rfl (by repeat constructor) (by omega) rfl (fun u38 hu38 => ?_))
   obtain ⟨k, hk⟩ := Int.eq_ofNat_of_zero_le (show 0 ≤ u38 from (mem_ris.1 (List.mem_of_getElem? hu38)).2.1)
   have hkl := (mem_ris.1 (List.mem_of_getElem? hu38)).2.2
   obtain ⟨d, hd⟩ : ∃ d, p.fDats[k]? = some d := ⟨_, List.getElem?_eq_getElem (by omega)⟩
   have hts := takenTo_succ hu38
   rw [hk, tbl_at hd] at hts
   obtain ⟨e2, cs2, hE2⟩ := g1.elm hd
   obtain ⟨G0, k0, G1, k1, G2, k2, rfl, n0, r0, n1, r1, n2, r2⟩ := kApiDat_open hE2.K
   have hdr := (hsm.dt d (List.mem_of_getElem? hd)).2.1
   refine oSet (t := 38) (v' := .int .i64 (k : Int)) rfl (by rw [hk]) ?_
   refine oIdxE rfl rfl (hE2) (by omega) rfl rfl ?_
   have hc39 := (hE2).cell
   first | refine oFldX (n := 6) (m := 6) rfl rfl rfl ?_ | refine oFldR (n := 6) (m := 6) rfl rfl rfl ?_ | refine oFldD (n := 6) (m := 6) rfl rfl rfl ?_
   first | refine oLdX rfl hc39 rfl rfl ?_ | refine oLdXA rfl hc39 rfl (by repeat constructor) ?_ | (refine oLdR1 rfl (by repeat constructor) (by omega) rfl (fun u41 hu41 => ?_))
   refine oLkSegG (oSegG rfl (oAppA (kd := Kd.int .i64) (W := B.e) (xs := takenTo p f j) (ys := d.fRefs) rfl rfl rfl rfl (by repeat constructor) rfl (fun w hw => src_Cs r2 (Base.grow hw.ok)) (by omega) rfl (fun A30 c30 hc30 => ?_)))
   rw [show (takenTo p f j).length + d.fRefs.length = (takenTo p f (j + 1)).length by rw [hts, List.length_append], ← hts]
   refine oAgainG ?_ rfl (fun w0 => ?_)
   ·
    exact AgainG.nil
   refine oTailG (oAssign rfl (oNil (blk_n (thn_n (wRegion' (oMove rfl (oSucc rfl rfl (by omega) ?_)))))))
   refine oAssign rfl (oNil (thn_n ?_))
   exact ⟨rfl, (j + 1, A30, c30), by show j + 1 ≤ _; omega, by show (tablesF p f).length - (j + 1) < (tablesF p f).length - j; omega, cv, Lh⟩
  obtain rfl : j = (tablesF p f).length := by omega
  rw [takenTo_all] at *
  refine wExit (thn_x (thn_x (blk_x (thn_n (wSeq (wRegion' (oMove rfl (oFld (n := 0) (m := 0) rfl rfl rfl (oLd rfl (by repeat constructor) rfl rfl ?_)))))))))
  refine oLenS rfl rfl ?_
  (refine oCall rfl (by kernel_rfl) (fun w hS => frame' hS .nil (fun B' hB hR hS' => ref25_Rising hS' (takenF p f) A5 c5 (row_Cs (W := B.e) (e := 3) (n := (takenF p f).length) (cp := c5) (hR _ _ (by repeat constructor))) p.fFuns.length (by omega) W0)) ?_; rintro ⟨A36, c36⟩ -)
  refine oAssign rfl (oNil (thn_n (wRet (fin_r (fi1 rfl ?_)))))
  exact ⟨(A36, c36), trivial, rfl, Lh⟩
set_option maxRecDepth 100000 in
set_option maxHeartbeats 1000000 in
theorem ref25_Refers {B : Base} {w : World} (hS : St B [] w) (p : ApiProgram) (pc : List Value) (hp : kApiProgram.K B.e p pc) (hsm : SmallP p) (i : Nat) (f : ApiFun) (hfi : p.fFuns[i]? = some f) (W0 : World) :
    CallsIn Fence.wide 0 Tryz.prog 79 #[.agg pc.toArray, .int .i64 (i : Int)] w (Ret B (fun _ : Option Addr × Nat => True) (fun z => .slice z.1 (refersF p f).length z.2) (fun z => [row (Kd.int .i64) W0 3 (.slice z.1 (refersF p f).length z.2) (refersF p f)])) := by
  obtain ⟨A0, c0, A1, c1, rfl, l0, g0, l1, g1⟩ := kApiProgram_open hp
  have hfm := List.mem_of_getElem? hfi
  have hil := (List.getElem?_eq_some_iff.1 hfi).1
  have hfs := hsm.fn f hfm
  have hpf := hsm.funs
  have hpd := hsm.dats
  obtain ⟨ef, csf, hEf⟩ := g0.elm hfi
  obtain ⟨D0, d0, D1, d1, D2, d2, D3, d3, D4, d4, rfl, m0, q0, m1, q1, m2, q2, m3, q3, m4, q4⟩ := kApiFun_open hEf.K
  have hd1 : (directF p f).length ≤ p.fFuns.length := ris_len _ _
  have hd2 : (valuesF p f).length ≤ p.fFuns.length := ris_len _ _
  (refine enter Tryz.func79 rfl rfl hS ?_; simp only [List.zipIdx_cons, List.zipIdx_nil, List.map_cons, List.map_nil, Nat.reduceAdd, Nat.zero_add])
  refine wSeq (wRegion' (oBox rfl (by repeat constructor) (fun b2 => ?_)))
  refine oAssign rfl (oNil (thn_n (wSeq (wRegion' (oAssign rfl (oNil (thn_n (wSeq (wRegion' (oMove rfl (oLdA rfl (by repeat constructor) rfl (by repeat constructor) ?_)))))))))))
  refine oMove rfl ?_
  (refine oCall rfl (by kernel_rfl) (fun w hS => frame hS (by repeat' constructor) (fun B' hB hS' => ref25_Direct hS' p _ (kApiProgram.K_grow hB hp) hsm i f hfi B.e)) ?_; rintro ⟨A9, c9⟩ -)
  refine oConv (Leads.nilrow (kd := Kd.int .i64) (W := B.e) (e := 3)) ?_
  refine oAppA (kd := Kd.int .i64) (W := B.e) (e := 3) (xs := []) (ys := directF p f) rfl rfl rfl rfl (by repeat constructor) rfl (fun w hw => src_row (e := 3) (n := (directF p f).length) (cp := c9) (hw.get (by repeat constructor))) (by simp; omega) rfl (fun A10 c10 hc10 => ?_)
  rw [List.length_nil, Nat.zero_add, List.nil_append]
  refine oAssign rfl (oNil (thn_n (wSeq (wRegion' (oMove rfl (oLdA rfl (by repeat constructor) rfl (by repeat constructor) ?_))))))
  refine oMove rfl ?_
  (refine oCall rfl (by kernel_rfl) (fun w hS => frame hS (by repeat' constructor) (fun B' hB hS' => ref25_Values hS' p _ (kApiProgram.K_grow hB hp) hsm i f hfi B.e)) ?_; rintro ⟨A14, c14⟩ -)
  refine oAppA (kd := Kd.int .i64) (W := B.e) (e := 3) (xs := directF p f) (ys := valuesF p f) rfl rfl rfl rfl (by repeat constructor) rfl (fun w hw => src_row (e := 3) (n := (valuesF p f).length) (cp := c14) (hw.get (by repeat constructor))) (by omega) rfl (fun A15 c15 hc15 => ?_)
  rw [show (directF p f).length + (valuesF p f).length = (directF p f ++ valuesF p f).length by rw [List.length_append]]
  refine oAssign rfl (oNil (thn_n (wSeq (wRegion' (oMove rfl (oFld (n := 0) (m := 0) rfl rfl rfl (oLd rfl (by repeat constructor) rfl rfl ?_)))))))
  refine oLenS rfl rfl ?_
  (refine oCall rfl (by kernel_rfl) (fun w hS => frame' hS .nil (fun B' hB hR hS' => ref25_Rising hS' (directF p f ++ valuesF p f) A15 c15 (row_Cs (W := B.e) (e := 3) (n := (directF p f ++ valuesF p f).length) (cp := c15) (hR _ _ (by repeat constructor))) p.fFuns.length (by omega) W0)) ?_; rintro ⟨A20, c20⟩ -)
  refine oAssign rfl (oNil (thn_n (wRet (fin_r (fi1 rfl ?_)))))
  exact ⟨(A20, c20), trivial, rfl, Lh⟩
set_option maxRecDepth 100000 in
set_option maxHeartbeats 1000000 in
theorem ref25_Vias {B : Base} {w : World} (hS : St B [] w) (p : ApiProgram) (pc : List Value) (hp : kApiProgram.K B.e p pc) (hsm : SmallP p) (i : Nat) (f : ApiFun) (hfi : p.fFuns[i]? = some f) (W0 : World) :
    CallsIn Fence.wide 0 Tryz.prog 80 #[.agg pc.toArray, .int .i64 (i : Int)] w (Ret B (fun _ : Option Addr × Nat => True) (fun z => .slice z.1 (viasF f).length z.2) (fun z => [row (Kd.int .i64) W0 3 (.slice z.1 (viasF f).length z.2) (viasF f)])) := by
  obtain ⟨A0, c0, A1, c1, rfl, l0, g0, l1, g1⟩ := kApiProgram_open hp
  have hfm := List.mem_of_getElem? hfi
  have hil := (List.getElem?_eq_some_iff.1 hfi).1
  have hfs := hsm.fn f hfm
  have hpf := hsm.funs
  have hpd := hsm.dats
  obtain ⟨ef, csf, hEf⟩ := g0.elm hfi
  obtain ⟨D0, d0, D1, d1, D2, d2, D3, d3, D4, d4, rfl, m0, q0, m1, q1, m2, q2, m3, q3, m4, q4⟩ := kApiFun_open hEf.K
  (refine enter Tryz.func80 rfl rfl hS ?_; simp only [List.zipIdx_cons, List.zipIdx_nil, List.map_cons, List.map_nil, Nat.reduceAdd, Nat.zero_add])
  refine wSeq (wRegion' (oBox rfl (by repeat constructor) (fun b2 => ?_)))
  refine oAssign rfl (oNil (thn_n (wSeq (wRegion' (oAssign rfl (oNil (thn_n (wSeq (wSeq (wRegion' (oAssign rfl ?_)))))))))))
  refine oNil (thn_n (wBlock (wLoop (ι := Nat × Option Addr × Nat) (fun z => [(1, .int .i64 (i : Int)), (2, .pointer (some ⟨b2, 0, none⟩)), (5, .slice z.2.1 (viaTo f z.1).length z.2.2), (6, .int .i64 (z.1 : Int))]) (fun z => [blk b2 29 [.slice A0 p.fFuns.length c0, .slice A1 p.fDats.length c1, .int .i64 p.fEntry], row (Kd.int .i64) B.e 3 (.slice z.2.1 (viaTo f z.1).length z.2.2) (viaTo f z.1)]) (fun z => z.1 ≤ f.fF.fCode.length) (fun z => f.fF.fCode.length - z.1) (0, none, 0) ?_ cv (Leads.nilrow.trans Lh) ?_)))
  ·
   exact Nat.zero_le _
  rintro ⟨j, A3, c3⟩ hj
  dsimp only at hj
  have hle := viaTo_le f j
  try dsimp only
  refine wSeq (wSeq (wRegion' (oMove rfl (oFld (n := 0) (m := 0) rfl rfl rfl (oLd rfl (by repeat constructor) rfl rfl ?_)))))
  refine oMove rfl (oIdxE rfl rfl (hEf) (by omega) rfl rfl ?_)
  have hc11 := (hEf).cell
  first | refine oFldX (n := 3) (m := 3) rfl rfl rfl ?_ | refine oFldR (n := 3) (m := 3) rfl rfl rfl ?_ | refine oFldD (n := 3) (m := 3) rfl rfl rfl ?_
  first | refine oFldX (n := 7) (m := 10) rfl rfl rfl ?_ | refine oFldR (n := 7) (m := 10) rfl rfl rfl ?_ | refine oFldD (n := 7) (m := 10) rfl rfl rfl ?_
  first | refine oLdX rfl hc11 rfl rfl ?_ | refine oLdXA rfl hc11 rfl (by repeat constructor) ?_ | (refine oLdR1 rfl (by repeat constructor) (by omega) rfl (fun u14 hu14 => ?_))
  refine oLenS rfl rfl (oLss rfl rfl (oNil (thn_n (wC (fun h16 => ?_) (fun h16 => ?_)))))
  ·
   obtain ⟨x, hx⟩ : ∃ x, f.fF.fCode[j]? = some x := ⟨_, List.getElem?_eq_getElem (by omega)⟩
   obtain ⟨e1, cs1, hE⟩ := q2.elm hx
   obtain rfl := kApiInstr_open hE.K
   have hvs := viaTo_succ hx
   refine wSkip (thn_n (wSeq (wBlock (wSeq (wRegion' (oFld (n := 0) (m := 0) rfl rfl rfl (oLd rfl (by repeat constructor) rfl rfl ?_)))))))
   refine oMove rfl (oIdxE rfl rfl (hEf) (by omega) rfl rfl ?_)
   have hc22 := (hEf).cell
   first | refine oFldX (n := 3) (m := 3) rfl rfl rfl ?_ | refine oFldR (n := 3) (m := 3) rfl rfl rfl ?_ | refine oFldD (n := 3) (m := 3) rfl rfl rfl ?_
   first | refine oFldX (n := 7) (m := 10) rfl rfl rfl ?_ | refine oFldR (n := 7) (m := 10) rfl rfl rfl ?_ | refine oFldD (n := 7) (m := 10) rfl rfl rfl ?_
   first | refine oLdX rfl hc22 rfl rfl ?_ | refine oLdXA rfl hc22 rfl (by repeat constructor) ?_ | (refine oLdR1 rfl (by repeat constructor) (by omega) rfl (fun u25 hu25 => ?_))
   refine oMove rfl (oIdxE rfl rfl (hE) (by omega) rfl rfl ?_)
   have hc27 := (hE).cell
   first | refine oFldX (n := 0) (m := 0) rfl rfl rfl ?_ | refine oFldR (n := 0) (m := 0) rfl rfl rfl ?_ | refine oFldD (n := 0) (m := 0) rfl rfl rfl ?_
   first | refine oLdX rfl hc27 rfl rfl ?_ | refine oLdXA rfl hc27 rfl (by repeat constructor) ?_ | (refine oLdR1 rfl (by repeat constructor) (by omega) rfl (fun u29 hu29 => ?_))
   refine oEql rfl rfl (oNil (thn_n (wC (fun h30 => ?_) (fun h30 => ?_))))
   ·
    refine wRegion' (oMove rfl (oFld (n := 0) (m := 0) rfl rfl rfl (oLd rfl (by repeat constructor) rfl rfl ?_)))
    refine oMove rfl (oIdxE rfl rfl (hEf) (by omega) rfl rfl ?_)
    have hc35 := (hEf).cell
    first | refine oFldX (n := 3) (m := 3) rfl rfl rfl ?_ | refine oFldR (n := 3) (m := 3) rfl rfl rfl ?_ | refine oFldD (n := 3) (m := 3) rfl rfl rfl ?_
    first | refine oFldX (n := 7) (m := 10) rfl rfl rfl ?_ | refine oFldR (n := 7) (m := 10) rfl rfl rfl ?_ | refine oFldD (n := 7) (m := 10) rfl rfl rfl ?_
    first | refine oLdX rfl hc35 rfl rfl ?_ | refine oLdXA rfl hc35 rfl (by repeat constructor) ?_ | (refine oLdR1 rfl (by repeat constructor) (by omega) rfl (fun u38 hu38 => ?_))
    refine oMove rfl (oIdxE rfl rfl (hE) (by omega) rfl rfl ?_)
    have hc40 := (hE).cell
    first | refine oFldX (n := 3) (m := 3) rfl rfl rfl ?_ | refine oFldR (n := 3) (m := 3) rfl rfl rfl ?_ | refine oFldD (n := 3) (m := 3) rfl rfl rfl ?_
    first | refine oLdX rfl hc40 rfl rfl ?_ | refine oLdXA rfl hc40 rfl (by repeat constructor) ?_ | (refine oLdR1 rfl (by repeat constructor) (by omega) rfl (fun u42 hu42 => ?_))
    refine oBuildSlice1 rfl rfl rfl rfl rfl (by repeat constructor) rfl (fun b43 => ?_)
    refine oApp1 x.fC rfl rfl rfl rfl (by repeat constructor) (by repeat constructor) rfl (by omega) rfl (fun g44 cp44 => ?_)
    rw [if_pos h30] at hvs
    rw [show (viaTo f j).length + 1 = (viaTo f (j + 1)).length by rw [hvs, List.length_append]; rfl, ← hvs]
    refine oAssign rfl (oNil (blk_n (thn_n (wRegion' (oMove rfl (oSucc rfl rfl (by omega) ?_))))))
    refine oAssign rfl (oNil (thn_n ?_))
    exact ⟨rfl, (j + 1, some ⟨g44, 0, none⟩, cp44), by show j + 1 ≤ _; omega, by show f.fF.fCode.length - (j + 1) < f.fF.fCode.length - j; omega, cv, Lh⟩
   refine wSkip (blk_n (thn_n (wRegion' (oMove rfl (oSucc rfl rfl (by omega) ?_)))))
   refine oAssign rfl (oNil (thn_n ?_))
   exact ⟨rfl, (j + 1, A3, c3), by show j + 1 ≤ _; omega, by show f.fF.fCode.length - (j + 1) < f.fF.fCode.length - j; omega, by dsimp only; rw [hvs, if_neg h30, List.append_nil]; exact cv, by dsimp only; rw [hvs, if_neg h30, List.append_nil]; exact Lh⟩
  obtain rfl : j = f.fF.fCode.length := by omega
  refine wExit (thn_x (thn_x (blk_x (thn_n (wSeq (wRegion' (oMove rfl ?_)))))))
  (refine oCall rfl (by kernel_rfl) (fun w hS => frame' hS .nil (fun B' hB hR hS' => ref25_Rising hS' (viaTo f f.fF.fCode.length) A3 c3 (row_Cs (W := B.e) (e := 3) (n := (viaTo f f.fF.fCode.length).length) (cp := c3) (hR _ _ (by repeat constructor))) 8 (by omega) W0)) ?_; rintro ⟨A24, c24⟩ -)
  rw [show ris (viaTo f f.fF.fCode.length) 8 = viasF f by unfold viaTo viasF; rw [List.take_length]]
  refine oAssign rfl (oNil (thn_n (wRet (fin_r (fi1 rfl ?_)))))
  exact ⟨(A24, c24), trivial, rfl, Lh⟩
def listF (p : ApiProgram) (k : Nat) (f : ApiFun) : List Int := if k = 0 then directF p f else if k = 1 then valuesF p f else if k = 2 then refersF p f else if k = 3 then viasF f else datasF p f
set_option maxRecDepth 100000 in
set_option maxHeartbeats 2000000 in
theorem ref25_Lists {B : Base} {w : World} (hS : St B [] w) (p : ApiProgram) (pc : List Value) (hp : kApiProgram.K B.e p pc) (hsm : SmallP p) (k : Nat) (W0 : World) :
    CallsIn Fence.wide 0 Tryz.prog 22 #[.agg pc.toArray, .int .i64 (k : Int)] w (Ret B (fun z : Option Addr × Nat × List Hdr => z.2.2.length = p.fFuns.length) (fun z => .slice z.1 p.fFuns.length z.2.1) (fun z => [row kHdr W0 42 (.slice z.1 p.fFuns.length z.2.1) z.2.2, bun (rws (Kd.int .i64) W0 3 z.2.2 (p.fFuns.map (listF p k)))])) := by
  obtain ⟨A0, c0, A1, c1, rfl, l0, g0, l1, g1⟩ := kApiProgram_open hp
  have hpf := hsm.funs
  (refine enter Tryz.func22 rfl rfl hS ?_; simp only [List.zipIdx_cons, List.zipIdx_nil, List.map_cons, List.map_nil, Nat.reduceAdd, Nat.zero_add])
  refine wSeq (wRegion' (oBox rfl (by repeat constructor) (fun b2 => ?_)))
  refine oAssign rfl (oNil (thn_n (wSeq (wRegion' (oAssign rfl (oNil (thn_n (wSeq (wSeq (wRegion' (oAssign rfl ?_)))))))))))
  refine oNil (thn_n (wBlock (wLoop (ι := Nat × List Hdr × Option Addr × Nat) (fun z => [(1, .int .i64 (k : Int)), (2, .pointer (some ⟨b2, 0, none⟩)), (5, .slice z.2.2.1 z.1 z.2.2.2), (6, .int .i64 (z.1 : Int))]) (fun z => [blk b2 29 [.slice A0 p.fFuns.length c0, .slice A1 p.fDats.length c1, .int .i64 p.fEntry], row kHdr W0 42 (.slice z.2.2.1 z.1 z.2.2.2) z.2.1, bun (rws (Kd.int .i64) W0 3 z.2.1 ((p.fFuns.map (listF p k)).take z.1))]) (fun z => z.1 ≤ p.fFuns.length ∧ z.2.1.length = z.1) (fun z => p.fFuns.length - z.1) (0, [], none, 0) ?_ cv (Leads.nilrow.trans (bun_nil.trans Lh)) ?_)))
  ·
   exact ⟨Nat.zero_le _, rfl⟩
  rintro ⟨i, hs, A5, c5⟩ ⟨hi, hl⟩
  dsimp only at hi hl
  have hxl : ((p.fFuns.map (listF p k)).take i).length = i := by rw [List.length_take, List.length_map]; omega
  try dsimp only
  refine wSeq (wSeq (wRegion' (oMove rfl (oFld (n := 0) (m := 0) rfl rfl rfl (oLd rfl (by repeat constructor) rfl rfl ?_)))))
  refine oLenS rfl rfl (oLss rfl rfl (oNil (thn_n (wC (fun h11 => ?_) (fun h11 => ?_)))))
  ·
   obtain ⟨f, hf⟩ : ∃ f, p.fFuns[i]? = some f := ⟨_, List.getElem?_eq_getElem (by omega)⟩
   refine wSkip (thn_n (wSeq (wBlock (wSeq (wRegion' (oMove rfl (oNil (thn_n (wBlock (wSeq (wRegion' ?_)))))))))))
   refine oEql rfl rfl (oAssign rfl (oNil (thn_n (wC (fun h21 => ?_) (fun h21 => ?_)))))
   ·
    have hlf : listF p k f = directF p f := by unfold listF; rw [if_pos (by omega)]
    refine wRegion' (oMove rfl (oLdA rfl (by repeat constructor) rfl (by repeat constructor) ?_))
    refine oMove rfl ?_
    (refine oCall rfl (by kernel_rfl) (fun w hS => frame hS (by repeat' constructor) (fun B' hB hS' => ref25_Direct hS' p _ (kApiProgram.K_grow hB hp) hsm i f hf W0)) ?_; rintro ⟨A26, c26⟩ -)
    refine oBuildSlice1 rfl rfl rfl rfl rfl (by repeat constructor) rfl (fun b27 => ?_)
    refine oApp1 (kd := kHdr) ((A26, (directF p f).length, c26) : Hdr) rfl rfl rfl rfl (by repeat constructor) (by repeat constructor) rfl (by omega) rfl (fun g28 cp28 => ?_)
    refine oSnoc (kd := Kd.int .i64) (W := W0) (ei := 3) (u := (A26, (directF p f).length, c26)) (l := directF p f) (hs := hs) (xss := (p.fFuns.map (listF p k)).take i) (by repeat constructor) (by repeat constructor) (by omega) ?_
    rw [← hlf, map_take_succ (listF p k) hf, hl]
    refine oAssign rfl (oNil (blk_n (blk_n (thn_n (wRegion' (oMove rfl (oSucc rfl rfl (by omega) ?_)))))))
    refine oAssign rfl (oNil (thn_n ?_))
    exact ⟨rfl, (i + 1, hs ++ [(A26, (listF p k f).length, c26)], some ⟨g28, 0, none⟩, cp28), ⟨by show i + 1 ≤ _; omega, by show (hs ++ _).length = i + 1; rw [List.length_append, hl]; rfl⟩, by show p.fFuns.length - (i + 1) < p.fFuns.length - i; omega, cv, Lh⟩
   refine wSeq (wRegion' (oEql rfl rfl (oAssign rfl (oNil (thn_n (wC (fun h29 => ?_) (fun h29 => ?_)))))))
   ·
    have hlf : listF p k f = valuesF p f := by unfold listF; rw [if_neg (by omega), if_pos (by omega)]
    refine wRegion' (oMove rfl (oLdA rfl (by repeat constructor) rfl (by repeat constructor) ?_))
    refine oMove rfl ?_
    (refine oCall rfl (by kernel_rfl) (fun w hS => frame hS (by repeat' constructor) (fun B' hB hS' => ref25_Values hS' p _ (kApiProgram.K_grow hB hp) hsm i f hf W0)) ?_; rintro ⟨A34, c34⟩ -)
    refine oBuildSlice1 rfl rfl rfl rfl rfl (by repeat constructor) rfl (fun b35 => ?_)
    refine oApp1 (kd := kHdr) ((A34, (valuesF p f).length, c34) : Hdr) rfl rfl rfl rfl (by repeat constructor) (by repeat constructor) rfl (by omega) rfl (fun g36 cp36 => ?_)
    refine oSnoc (kd := Kd.int .i64) (W := W0) (ei := 3) (u := (A34, (valuesF p f).length, c34)) (l := valuesF p f) (hs := hs) (xss := (p.fFuns.map (listF p k)).take i) (by repeat constructor) (by repeat constructor) (by omega) ?_
    rw [← hlf, map_take_succ (listF p k) hf, hl]
    refine oAssign rfl (oNil (blk_n (blk_n (thn_n (wRegion' (oMove rfl (oSucc rfl rfl (by omega) ?_)))))))
    refine oAssign rfl (oNil (thn_n ?_))
    exact ⟨rfl, (i + 1, hs ++ [(A34, (listF p k f).length, c34)], some ⟨g36, 0, none⟩, cp36), ⟨by show i + 1 ≤ _; omega, by show (hs ++ _).length = i + 1; rw [List.length_append, hl]; rfl⟩, by show p.fFuns.length - (i + 1) < p.fFuns.length - i; omega, cv, Lh⟩
   refine wSeq (wRegion' (oEql rfl rfl (oAssign rfl (oNil (thn_n (wC (fun h37 => ?_) (fun h37 => ?_)))))))
   ·
    have hlf : listF p k f = refersF p f := by unfold listF; rw [if_neg (by omega), if_neg (by omega), if_pos (by omega)]
    refine wRegion' (oMove rfl (oLdA rfl (by repeat constructor) rfl (by repeat constructor) ?_))
    refine oMove rfl ?_
    (refine oCall rfl (by kernel_rfl) (fun w hS => frame hS (by repeat' constructor) (fun B' hB hS' => ref25_Refers hS' p _ (kApiProgram.K_grow hB hp) hsm i f hf W0)) ?_; rintro ⟨A42, c42⟩ -)
    refine oBuildSlice1 rfl rfl rfl rfl rfl (by repeat constructor) rfl (fun b43 => ?_)
    refine oApp1 (kd := kHdr) ((A42, (refersF p f).length, c42) : Hdr) rfl rfl rfl rfl (by repeat constructor) (by repeat constructor) rfl (by omega) rfl (fun g44 cp44 => ?_)
    refine oSnoc (kd := Kd.int .i64) (W := W0) (ei := 3) (u := (A42, (refersF p f).length, c42)) (l := refersF p f) (hs := hs) (xss := (p.fFuns.map (listF p k)).take i) (by repeat constructor) (by repeat constructor) (by omega) ?_
    rw [← hlf, map_take_succ (listF p k) hf, hl]
    refine oAssign rfl (oNil (blk_n (blk_n (thn_n (wRegion' (oMove rfl (oSucc rfl rfl (by omega) ?_)))))))
    refine oAssign rfl (oNil (thn_n ?_))
    exact ⟨rfl, (i + 1, hs ++ [(A42, (listF p k f).length, c42)], some ⟨g44, 0, none⟩, cp44), ⟨by show i + 1 ≤ _; omega, by show (hs ++ _).length = i + 1; rw [List.length_append, hl]; rfl⟩, by show p.fFuns.length - (i + 1) < p.fFuns.length - i; omega, cv, Lh⟩
   refine wSeq (wRegion' (oEql rfl rfl (oAssign rfl (oNil (thn_n (wC (fun h45 => ?_) (fun h45 => ?_)))))))
   ·
    have hlf : listF p k f = viasF f := by unfold listF; rw [if_neg (by omega), if_neg (by omega), if_neg (by omega), if_pos (by omega)]
    refine wRegion' (oMove rfl (oLdA rfl (by repeat constructor) rfl (by repeat constructor) ?_))
    refine oMove rfl ?_
    (refine oCall rfl (by kernel_rfl) (fun w hS => frame hS (by repeat' constructor) (fun B' hB hS' => ref25_Vias hS' p _ (kApiProgram.K_grow hB hp) hsm i f hf W0)) ?_; rintro ⟨A50, c50⟩ -)
    refine oBuildSlice1 rfl rfl rfl rfl rfl (by repeat constructor) rfl (fun b51 => ?_)
    refine oApp1 (kd := kHdr) ((A50, (viasF f).length, c50) : Hdr) rfl rfl rfl rfl (by repeat constructor) (by repeat constructor) rfl (by omega) rfl (fun g52 cp52 => ?_)
    refine oSnoc (kd := Kd.int .i64) (W := W0) (ei := 3) (u := (A50, (viasF f).length, c50)) (l := viasF f) (hs := hs) (xss := (p.fFuns.map (listF p k)).take i) (by repeat constructor) (by repeat constructor) (by omega) ?_
    rw [← hlf, map_take_succ (listF p k) hf, hl]
    refine oAssign rfl (oNil (blk_n (blk_n (thn_n (wRegion' (oMove rfl (oSucc rfl rfl (by omega) ?_)))))))
    refine oAssign rfl (oNil (thn_n ?_))
    exact ⟨rfl, (i + 1, hs ++ [(A50, (listF p k f).length, c50)], some ⟨g52, 0, none⟩, cp52), ⟨by show i + 1 ≤ _; omega, by show (hs ++ _).length = i + 1; rw [List.length_append, hl]; rfl⟩, by show p.fFuns.length - (i + 1) < p.fFuns.length - i; omega, cv, Lh⟩
   have hlf : listF p k f = datasF p f := by unfold listF; rw [if_neg (by omega), if_neg (by omega), if_neg (by omega), if_neg (by omega)]
   refine wRegion' (oMove rfl (oLdA rfl (by repeat constructor) rfl (by repeat constructor) ?_))
   refine oMove rfl ?_
   (refine oCall rfl (by kernel_rfl) (fun w hS => frame hS (by repeat' constructor) (fun B' hB hS' => ref25_Datas hS' p _ (kApiProgram.K_grow hB hp) hsm i f hf W0)) ?_; rintro ⟨A18, c18⟩ -)
   refine oBuildSlice1 rfl rfl rfl rfl rfl (by repeat constructor) rfl (fun b19 => ?_)
   refine oApp1 (kd := kHdr) ((A18, (datasF p f).length, c18) : Hdr) rfl rfl rfl rfl (by repeat constructor) (by repeat constructor) rfl (by omega) rfl (fun g20 cp20 => ?_)
   refine oSnoc (kd := Kd.int .i64) (W := W0) (ei := 3) (u := (A18, (datasF p f).length, c18)) (l := datasF p f) (hs := hs) (xss := (p.fFuns.map (listF p k)).take i) (by repeat constructor) (by repeat constructor) (by omega) ?_
   rw [← hlf, map_take_succ (listF p k) hf, hl]
   refine oAssign rfl (oNil (blk_n (blk_n (thn_n (wRegion' (oMove rfl (oSucc rfl rfl (by omega) ?_)))))))
   refine oAssign rfl (oNil (thn_n ?_))
   exact ⟨rfl, (i + 1, hs ++ [(A18, (listF p k f).length, c18)], some ⟨g20, 0, none⟩, cp20), ⟨by show i + 1 ≤ _; omega, by show (hs ++ _).length = i + 1; rw [List.length_append, hl]; rfl⟩, by show p.fFuns.length - (i + 1) < p.fFuns.length - i; omega, cv, Lh⟩
  obtain rfl : i = p.fFuns.length := by omega
  rw [show (p.fFuns.map (listF p k)).take p.fFuns.length = p.fFuns.map (listF p k) from List.take_of_length_le (by simp)]
  refine wExit (thn_x (thn_x (blk_x (thn_n (wSeq (wRegion' (oMove rfl (oAssign rfl (oNil (thn_n (wRet ?_)))))))))))
  refine fin_r (fi1 rfl ?_)
  exact ⟨(A5, c5, hs), hl, rfl, Lh⟩
set_option maxRecDepth 100000 in
set_option maxHeartbeats 1000000 in
theorem ref10_Same {B : Base} {w : World} (hS : St B [] w) (g : List (List Int)) (A : Option Addr) (cp : Nat) (hC : (Kd.slice (Kd.int .i64)).C B.e A g) (A1 : Option Addr) (cp1 : Nat) (hC1 : (Kd.slice (Kd.int .i64)).C B.e A1 g) :
    CallsIn Fence.wide 0 Tryz.prog 20 #[.slice A g.length cp, .slice A1 g.length cp1] w (Ret B (fun _ : Unit => True) (fun _ => .bool true) (fun _ => [])) := by
  have hgl := hC.1
  (refine enter Tryz.func20 rfl rfl hS ?_; simp only [List.zipIdx_cons, List.zipIdx_nil, List.map_cons, List.map_nil, Nat.reduceAdd, Nat.zero_add])
  refine wSeq (wRegion' (oAssign rfl (oNil (thn_n (wSeq (wSeq (wRegion' (oMove rfl (oLenS rfl rfl (oMove rfl (oLenS rfl rfl ?_)))))))))))
  refine oNeq rfl rfl (oNil (thn_n (wC (fun h11 => ?_) (fun h11 => ?_))))
  ·
   exact absurd rfl h11
  refine wSkip (thn_n (wSeq (wSeq (wRegion' (oAssign rfl (oNil (thn_n (wBlock (wLoop (ι := Nat) (fun i => [(0, .slice A g.length cp), (1, .slice A1 g.length cp1), (5, .int .i64 (i : Int))]) (fun i => []) (fun i => i ≤ g.length) (fun i => g.length - i) 0 ?_ cv Lh ?_)))))))))
  ·
   exact Nat.zero_le _
  rintro i hi
  try dsimp only
  refine wSeq (wSeq (wRegion' (oMove rfl (oMove rfl (oLenS rfl rfl (oLss rfl rfl (oNil (thn_n (wC (fun h15 => ?_) (fun h15 => ?_))))))))))
  ·
   obtain ⟨x, hx⟩ : ∃ x, g[i]? = some x := ⟨_, List.getElem?_eq_getElem (by omega)⟩
   obtain ⟨e1, cs1, hE⟩ := hC.elm hx
   obtain ⟨X1, n1, rfl, hn1, hX1⟩ := hE.K
   obtain ⟨e2, cs2, hE2⟩ := hC1.elm hx
   obtain ⟨X2, n2, rfl, hn2, hX2⟩ := hE2.K
   have hxl := hX1.1
   have hil : i < g.length := by omega
   refine wSkip (thn_n (wSeq (wBlock (wSeq (wSeq (wDraw2 rfl rfl [0, 1, 5, 6] [2, 3, 4, 7, 8, 9] 10 (by kernel_rfl) rfl rfl rfl (fun w0 => ?_)))))))
   refine oIdxE rfl rfl (hE) (by omega) rfl rfl ?_
   have hc20 := (hE).cell
   first | refine oLdX rfl hc20 rfl rfl ?_ | refine oLdXA rfl hc20 rfl (by repeat constructor) ?_ | (refine oLdR1 rfl (by repeat constructor) (by omega) rfl (fun u21 hu21 => ?_))
   refine oLenS rfl rfl (oIdxE rfl rfl (hE2) (by omega) rfl rfl ?_)
   have hc25 := (hE2).cell
   first | refine oLdX rfl hc25 rfl rfl ?_ | refine oLdXA rfl hc25 rfl (by repeat constructor) ?_ | (refine oLdR1 rfl (by repeat constructor) (by omega) rfl (fun u26 hu26 => ?_))
   refine oLenS rfl rfl (oHead (oNeq rfl rfl (oNilT (thn_n (wC (fun h28 => ?_) (fun h28 => ?_))))))
   ·
    exact absurd rfl h28
   refine wSkip (thn_n (wSeq (wRegion' (oAssign rfl (oNil (thn_n (wBlock (wLoop (ι := Nat) (fun j => [(0, .slice A g.length cp), (1, .slice A1 g.length cp1), (5, .int .i64 (i : Int)), (6, .int .i64 (j : Int))]) (fun j => []) (fun j => j ≤ x.length) (fun j => x.length - j) 0 ?_ cv Lh ?_))))))))
   ·
    exact Nat.zero_le _
   rintro j hj
   try dsimp only
   refine wSeq (wSeq (wRegion' (oMove rfl (oMove rfl (oMove rfl (oIdxE rfl rfl (hE) (by omega) rfl rfl ?_))))))
   have hc32 := (hE).cell
   first | refine oLdX rfl hc32 rfl rfl ?_ | refine oLdXA rfl hc32 rfl (by repeat constructor) ?_ | (refine oLdR1 rfl (by repeat constructor) (by omega) rfl (fun u33 hu33 => ?_))
   refine oLenS rfl rfl (oLss rfl rfl (oNil (thn_n (wC (fun h35 => ?_) (fun h35 => ?_)))))
   ·
    obtain ⟨y, hy⟩ : ∃ y, x[j]? = some y := ⟨_, List.getElem?_eq_getElem (by omega)⟩
    obtain ⟨e3, cs3, hE3⟩ := hX1.elm hy
    obtain rfl := (show cs3 = [Value.int .i64 y] from hE3.K)
    obtain ⟨e4, cs4, hE4⟩ := hX2.elm hy
    obtain rfl := (show cs4 = [Value.int .i64 y] from hE4.K)
    refine wSkip (thn_n (wSeq (wBlock (wSeq (wDraw2 rfl rfl [0, 1, 4, 7, 8, 11] [2, 3, 5, 6, 9, 10, 12, 13] 14 (by kernel_rfl) rfl rfl rfl (fun w0 => ?_))))))
    refine oIdxE rfl rfl (hE) (by omega) rfl rfl ?_
    have hc40 := (hE).cell
    first | refine oLdX rfl hc40 rfl rfl ?_ | refine oLdXA rfl hc40 rfl (by repeat constructor) ?_ | (refine oLdR1 rfl (by repeat constructor) (by omega) rfl (fun u41 hu41 => ?_))
    refine oIdxE rfl rfl (hE3) (by omega) rfl rfl ?_
    have hc43 := (hE3).cell
    first | refine oLdX rfl hc43 rfl rfl ?_ | refine oLdXA rfl hc43 rfl (by repeat constructor) ?_ | (refine oLdR1 rfl (by repeat constructor) (by omega) rfl (fun u44 hu44 => ?_))
    refine oIdxE rfl rfl (hE2) (by omega) rfl rfl ?_
    have hc47 := (hE2).cell
    first | refine oLdX rfl hc47 rfl rfl ?_ | refine oLdXA rfl hc47 rfl (by repeat constructor) ?_ | (refine oLdR1 rfl (by repeat constructor) (by omega) rfl (fun u48 hu48 => ?_))
    refine oIdxE rfl rfl (hE4) (by omega) rfl rfl ?_
    have hc50 := (hE4).cell
    first | refine oLdX rfl hc50 rfl rfl ?_ | refine oLdXA rfl hc50 rfl (by repeat constructor) ?_ | (refine oLdR1 rfl (by repeat constructor) (by omega) rfl (fun u51 hu51 => ?_))
    refine oHead (oNeq rfl rfl (oNilT (thn_n (wC (fun h52 => ?_) (fun h52 => ?_)))))
    ·
     exact absurd rfl h52
    refine wSkip (blk_n (thn_n (wRegion' (oMove rfl (oSucc rfl rfl (by omega) ?_)))))
    refine oAssign rfl (oNil (thn_n ?_))
    exact ⟨rfl, j + 1, by omega, by omega, cv, Lh⟩
   refine wExit (thn_x (thn_x (blk_x (blk_n (thn_n (wRegion' (oMove rfl (oSucc rfl rfl (by omega) ?_))))))))
   refine oAssign rfl (oNil (thn_n ?_))
   exact ⟨rfl, i + 1, by omega, by omega, cv, Lh⟩
  refine wExit (thn_x (thn_x (blk_x (thn_n (wSeq (wRegion' (oAssign rfl (oNil (thn_n (wRet (fin_r ?_)))))))))))
  refine fi1 rfl ?_
  exact ⟨(), trivial, rfl, Lh⟩
end Go.Proofs.YtogaiijhicfoaaaGreatU
