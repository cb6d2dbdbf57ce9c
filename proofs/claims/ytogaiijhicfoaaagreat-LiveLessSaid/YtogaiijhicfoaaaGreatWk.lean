import Derived.Test.YtogaiijhicfoaaaGreatWj

/-
  The reference of binding: number, bound, name.
-/
namespace Go.Proofs.YtogaiijhicfoaaaGreatW
set_option linter.unusedVariables false
set_option linter.unusedSimpArgs false
open Go.RowKit Go.Proofs.YtogaiijhicfoaaaGreatK Go.Proofs.YtogaiijhicfoaaaGreatT Go.Proofs.YtogaiijhicfoaaaGreatL Go.Proofs.YtogaiijhicfoaaaGreatV Go.Proofs.YtogaiijhicfoaaaGreatG

set_option maxRecDepth 100000 in
set_option maxHeartbeats 1000000 in
theorem ref24_number {B : Base} {w : World} (hS : St B [] w) (A : Option Addr) (cp : Nat) (l : List ApiObject) (hC : kApiObject.C B.e A l) (hsm : FewO l) (i k : Nat) (hb : BndOk l i k) :
    CallsIn Fence.wide 0 Tryz.prog 73 #[.slice A l.length cp, .int .i64 (i : Int), .int .i64 (k : Int)] w (Ret B (fun _ : Unit => True) (fun _ => .int .i64 (numberF l i k)) (fun _ => [])) := by
  have hln := hsm.len
  obtain ⟨i2, k2, o2, y, hb, ho2, hy, hd0, hd1⟩ := hb
  have hmo := most_le hsm (List.mem_of_getElem? ho2) y
  have hnf : numberF l i k = y.fDef + (sumO (decide (y.fSort = 1)) l i2 : Int) := by unfold numberF; rw [hb]; dsimp only; rw [symOf_eq ho2 hy, Int.toNat_natCast]
  have hil := (List.getElem?_eq_some_iff.1 ho2).1
  have hkl := (List.getElem?_eq_some_iff.1 hy).1
  obtain ⟨e1, cs1, hE⟩ := hC.elm ho2
  obtain ⟨B0, d0, B1, d1, B2, d2, rfl, m0, q0, m1, q1, m2, q2⟩ := kApiObject_open hE.K
  obtain ⟨e2, cs2, hE2⟩ := q0.elm hy
  obtain rfl := kApiSymbol_open hE2.K
  rw [hnf]
  (refine enter Tryz.func73 rfl rfl hS ?_; simp only [List.zipIdx_cons, List.zipIdx_nil, List.map_cons, List.map_nil, Nat.reduceAdd, Nat.zero_add])
  refine wSeq (wRegion' (oAssign rfl (oNil (thn_n (wSeq (wRegion' (oMove rfl (oMove rfl (oMove rfl ?_)))))))))
  (refine oCall rfl (by kernel_rfl) (fun w hS => frame hS (by repeat' constructor) (fun B' hB hS' => ref23_Bound hS' A cp l (Kd.C_grow hB hC) hsm (i : Int) (k : Int))) ?_; rintro ⟨⟩ -)
  rw [hb]
  dsimp only
  refine oMove rfl (oExt rfl (by repeat constructor) ?_)
  refine oExt rfl (by repeat constructor) ?_
  refine oExt rfl (by repeat constructor) ?_
  refine oAssign rfl (oAssign rfl (oAssign rfl (oNil (thn_n (wSeq (wRegion' (oMove rfl (oMove rfl (oIdxE rfl rfl (hE) (by omega) rfl rfl ?_)))))))))
  have hc23 := (hE).cell
  first | refine oFldX (n := 0) (m := 0) rfl rfl rfl ?_ | refine oFldR (n := 0) (m := 0) rfl rfl rfl ?_ | refine oFldD (n := 0) (m := 0) rfl rfl rfl ?_
  first | refine oLdX rfl hc23 rfl rfl ?_ | refine oLdXA rfl hc23 rfl (by repeat constructor) ?_ | (refine oLdR1 rfl (by repeat constructor) (by omega) rfl (fun u25 hu25 => ?_))
  refine oMove rfl (oIdxE rfl rfl (hE2) (by omega) rfl rfl ?_)
  have hc27 := (hE2).cell
  first | refine oLdX rfl hc27 rfl rfl ?_ | refine oLdXA rfl hc27 rfl (by repeat constructor) ?_ | (refine oLdR1 rfl (by repeat constructor) (by omega) rfl (fun u28 hu28 => ?_))
  refine oAlloc rfl (by repeat constructor) (fun b10 => ?_)
  refine oStA rfl rfl rfl rfl (by repeat constructor) (by rfl) ?_
  refine oNil (thn_n (wSeq (wRegion' (oFld (n := 4) (m := 4) rfl rfl rfl (oLd rfl (by repeat constructor) rfl rfl ?_)))))
  refine oAssign rfl (oSet (t := 11) (v' := .int .i64 (y.fDef + (sumO (decide (y.fSort = 1)) l 0 : Int))) rfl (by simp [sumO]) ?_)
  refine oNil (thn_n (wSeq (wSeq (wRegion' (oAssign rfl (oNil (thn_n (wBlock (wLoop (ι := Nat) (fun j => [(0, .slice A l.length cp), (7, .int .i64 (i2 : Int)), (10, .pointer (some ⟨b10, 0, none⟩)), (11, .int .i64 (y.fDef + (sumO (decide (y.fSort = 1)) l j : Int))), (12, .int .i64 (j : Int))]) (fun j => [blk b10 91 [.string y.fName, .bool y.fLocal, .int .i64 y.fSort, .int .i64 y.fKind, .int .i64 y.fDef]]) (fun j => j ≤ i2) (fun j => i2 - j) 0 ?_ cv Lh ?_)))))))))
  ·
   exact Nat.zero_le _
  rintro j hj
  have hsl := sumO_le (fn := decide (y.fSort = 1)) hsm j
  try dsimp only
  refine wSeq (wSeq (wRegion' (oMove rfl (oMove rfl (oLss rfl rfl (oNil (thn_n (wC (fun h33 => ?_) (fun h33 => ?_)))))))))
  ·
   obtain ⟨oj, hoj⟩ : ∃ oj, l[j]? = some oj := ⟨_, List.getElem?_eq_getElem (by omega)⟩
   have hf1 := hsm.funcs oj (List.mem_of_getElem? hoj)
   have hf2 := hsm.datas oj (List.mem_of_getElem? hoj)
   obtain ⟨e3, cs3, hE3⟩ := hC.elm hoj
   obtain ⟨C0, f0, C1, f1, C2, f2, rfl, n0, r0, n1, r1, n2, r2⟩ := kApiObject_open hE3.K
   refine wSkip (thn_n (wSeq (wBlock (wSeq (wRegion' (oFld (n := 2) (m := 2) rfl rfl rfl (oLd rfl (by repeat constructor) rfl rfl ?_)))))))
   refine oEql rfl rfl (oNil (thn_n (wC (fun h38 => ?_) (fun h38 => ?_))))
   ·
    refine wRegion' (oMove rfl (oMove rfl (oMove rfl (oIdxE rfl rfl (hE3) (by omega) rfl rfl ?_))))
    have hc42 := (hE3).cell
    first | refine oFldX (n := 1) (m := 1) rfl rfl rfl ?_ | refine oFldR (n := 1) (m := 1) rfl rfl rfl ?_ | refine oFldD (n := 1) (m := 1) rfl rfl rfl ?_
    first | refine oLdX rfl hc42 rfl rfl ?_ | refine oLdXA rfl hc42 rfl (by repeat constructor) ?_ | (refine oLdR1 rfl (by repeat constructor) (by omega) rfl (fun u44 hu44 => ?_))
    refine oLenS rfl rfl (oAdd rfl rfl (by omega) ?_)
    refine oSet (t := 46) (v' := .int .i64 (y.fDef + (sumO (decide (y.fSort = 1)) l (j + 1) : Int))) rfl (by rw [sumO_succ hoj, if_pos (decide_eq_true h38)]; congr 1; push_cast; omega) ?_
    refine oAssign rfl ?_
    skip
    refine oNil (blk_n (thn_n (wRegion' (oMove rfl (oSucc rfl rfl (by omega) ?_)))))
    refine oAssign rfl (oNil (thn_n ?_))
    exact ⟨rfl, j + 1, by omega, by omega, cv, Lh⟩
   refine wRegion' (oMove rfl (oMove rfl (oMove rfl (oIdxE rfl rfl (hE3) (by omega) rfl rfl ?_))))
   have hc50 := (hE3).cell
   first | refine oFldX (n := 2) (m := 2) rfl rfl rfl ?_ | refine oFldR (n := 2) (m := 2) rfl rfl rfl ?_ | refine oFldD (n := 2) (m := 2) rfl rfl rfl ?_
   first | refine oLdX rfl hc50 rfl rfl ?_ | refine oLdXA rfl hc50 rfl (by repeat constructor) ?_ | (refine oLdR1 rfl (by repeat constructor) (by omega) rfl (fun u52 hu52 => ?_))
   refine oLenS rfl rfl (oAdd rfl rfl (by omega) ?_)
   refine oSet (t := 54) (v' := .int .i64 (y.fDef + (sumO (decide (y.fSort = 1)) l (j + 1) : Int))) rfl (by rw [sumO_succ hoj, if_neg (by simpa using h38)]; congr 1; push_cast; omega) ?_
   refine oAssign rfl ?_
   skip
   refine oNil (blk_n (thn_n (wRegion' (oMove rfl (oSucc rfl rfl (by omega) ?_)))))
   refine oAssign rfl (oNil (thn_n ?_))
   exact ⟨rfl, j + 1, by omega, by omega, cv, Lh⟩
  obtain rfl : j = i2 := by omega
  refine wExit (thn_x (thn_x (blk_x (thn_n (wSeq (wRegion' (oMove rfl (oAssign rfl (oNil (thn_n (wRet ?_)))))))))))
  refine fin_r (fi1 rfl ?_)
  exact ⟨(), trivial, rfl, Lh⟩
theorem boundL_succ {l : List ApiObject} {i : Int} {syms : List Int} {j : Nat} {s : Int} (h : syms[j]? = some s) : boundL l i (syms.take (j + 1)) = boundL l i (syms.take j) ++ [boundE l i s] := by
  unfold boundL
  rw [List.take_add_one, h, List.map_append]; rfl
set_option maxRecDepth 100000 in
set_option maxHeartbeats 1000000 in
theorem ref24_bound {B : Base} {w : World} (hS : St B [] w) (A : Option Addr) (cp : Nat) (l : List ApiObject) (hC : kApiObject.C B.e A l) (hsm : FewO l) (i : Nat) (A1 : Option Addr) (cp1 : Nat) (syms : List Int) (hC1 : (Kd.int .i64).C B.e A1 syms) (hn : syms.length ≤ 1000) (hb : ∀ s ∈ syms, ∀ k : Nat, s = (k : Int) → BndOk l i k) (W0 : World) :
    CallsIn Fence.wide 0 Tryz.prog 137 #[.slice A l.length cp, .int .i64 (i : Int), .slice A1 syms.length cp1] w (Ret B (fun _ : Option Addr × Nat => True) (fun z => .slice z.1 (boundL l i syms).length z.2) (fun z => [row (Kd.int .i64) W0 3 (.slice z.1 (boundL l i syms).length z.2) (boundL l i syms)])) := by
  (refine enter Tryz.func137 rfl rfl hS ?_; simp only [List.zipIdx_cons, List.zipIdx_nil, List.map_cons, List.map_nil, Nat.reduceAdd, Nat.zero_add])
  refine wSeq (wRegion' (oAssign rfl (oNil (thn_n (wSeq (wRegion' (oAssign rfl (oNil (thn_n (wSeq (wSeq ?_)))))))))))
  refine wRegion' (oAssign rfl (oNil (thn_n (wBlock (wLoop (ι := Nat × Option Addr × Nat) (fun z => [(0, .slice A l.length cp), (1, .int .i64 (i : Int)), (2, .slice A1 syms.length cp1), (7, .slice z.2.1 (boundL l i (syms.take z.1)).length z.2.2), (8, .int .i64 (z.1 : Int))]) (fun z => [row (Kd.int .i64) W0 3 (.slice z.2.1 (boundL l i (syms.take z.1)).length z.2.2) (boundL l i (syms.take z.1))]) (fun z => z.1 ≤ syms.length) (fun z => syms.length - z.1) (0, none, 0) ?_ cv (Leads.nilrow.trans Lh) ?_)))))
  ·
   exact Nat.zero_le _
  rintro ⟨j, A2, c2⟩ hj
  dsimp only at hj
  have hlen : (boundL l i (syms.take j)).length ≤ 1000 := by rw [boundL_len, List.length_take]; omega
  try dsimp only
  refine wSeq (wSeq (wRegion' (oMove rfl (oMove rfl (oLenS rfl rfl (oLss rfl rfl (oNil (thn_n (wC (fun h13 => ?_) (fun h13 => ?_))))))))))
  ·
   obtain ⟨s, hs⟩ : ∃ s, syms[j]? = some s := ⟨_, List.getElem?_eq_getElem (by omega)⟩
   obtain ⟨e1, cs1, hE⟩ := hC1.elm hs
   obtain rfl := (show cs1 = [Value.int .i64 s] from hE.K)
   have hbs := boundL_succ (l := l) (i := (i : Int)) hs
   refine wSkip (thn_n (wSeq (wBlock (wSeq (wRegion' (oAssign rfl (oNil (thn_n (wSeq (wSeq (wRegion' ?_)))))))))))
   refine oMove rfl (oMove rfl (oIdxE rfl rfl (hE) (by omega) rfl rfl ?_))
   have hc18 := (hE).cell
   first | refine oLdX rfl hc18 rfl rfl ?_ | refine oLdXA rfl hc18 rfl (by repeat constructor) ?_ | (refine oLdR1 rfl (by repeat constructor) (by omega) rfl (fun u19 hu19 => ?_))
   refine oGeq rfl rfl (oNil (thn_n (wC (fun h20 => ?_) (fun h20 => ?_))))
   ·
    obtain ⟨k, hk⟩ := Int.eq_ofNat_of_zero_le (show 0 ≤ s by omega)
    have hbe : boundE l i s = numberF l i k := by unfold boundE; rw [if_pos (by omega), hk]
    refine wRegion' (oMove rfl (oMove rfl (oMove rfl (oMove rfl (oIdxE rfl rfl (hE) (by omega) rfl rfl ?_)))))
    have hc25 := (hE).cell
    first | refine oLdX rfl hc25 rfl rfl ?_ | refine oLdXA rfl hc25 rfl (by repeat constructor) ?_ | (refine oLdR1 rfl (by repeat constructor) (by omega) rfl (fun u26 hu26 => ?_))
    refine oSet (t := 26) (v' := .int .i64 (k : Int)) rfl (by rw [hk]) ?_
    (refine oCall rfl (by kernel_rfl) (fun w hS => frame hS (by repeat' constructor) (fun B' hB hS' => ref24_number hS' A cp l (Kd.C_grow hB hC) hsm i k (hb s (List.mem_of_getElem? hs) k hk))) ?_; rintro ⟨⟩ -)
    refine oAssign rfl (oNil (thn_n (wRegion' (oMove rfl (oMove rfl (oBuildSlice1 rfl rfl rfl rfl rfl (by repeat constructor) rfl (fun b30 => ?_)))))))
    refine oApp1 (boundE l i s) rfl rfl rfl rfl (by repeat constructor) (by repeat constructor) (by rw [hbe]; rfl) (by omega) rfl (fun g31 cp31 => ?_)
    rw [show (boundL l i (syms.take j)).length + 1 = (boundL l i (syms.take (j + 1))).length by rw [hbs, List.length_append]; rfl, ← hbs]
    refine oAssign rfl (oNil (blk_n (thn_n (wRegion' (oMove rfl (oSucc rfl rfl (by omega) ?_))))))
    refine oAssign rfl (oNil (thn_n ?_))
    exact ⟨rfl, (j + 1, some ⟨g31, 0, none⟩, cp31), by show j + 1 ≤ _; omega, by show syms.length - (j + 1) < syms.length - j; omega, cv, Lh⟩
   have hbe : boundE l i s = -1 := by unfold boundE; rw [if_neg (by omega)]
   refine wSkip (thn_n (wRegion' (oMove rfl (oMove rfl (oBuildSlice1 rfl rfl rfl rfl rfl (by repeat constructor) rfl (fun b30 => ?_))))))
   refine oApp1 (boundE l i s) rfl rfl rfl rfl (by repeat constructor) (by repeat constructor) (by rw [hbe]; rfl) (by omega) rfl (fun g31 cp31 => ?_)
   rw [show (boundL l i (syms.take j)).length + 1 = (boundL l i (syms.take (j + 1))).length by rw [hbs, List.length_append]; rfl, ← hbs]
   refine oAssign rfl (oNil (blk_n (thn_n (wRegion' (oMove rfl (oSucc rfl rfl (by omega) ?_))))))
   refine oAssign rfl (oNil (thn_n ?_))
   exact ⟨rfl, (j + 1, some ⟨g31, 0, none⟩, cp31), by show j + 1 ≤ _; omega, by show syms.length - (j + 1) < syms.length - j; omega, cv, Lh⟩
  refine wExit (thn_x (thn_x (blk_x (thn_n (wSeq (wRegion' (oMove rfl (oAssign rfl (oNil (thn_n (wRet ?_)))))))))))
  refine fin_r (fi1 rfl ?_)
  obtain rfl : j = syms.length := by omega
  rw [List.take_length]
  exact ⟨(A2, c2), trivial, rfl, Lh⟩
set_option maxRecDepth 100000 in
set_option maxHeartbeats 600000 in
theorem ref24_name {B : Base} {w : World} (hS : St B [] w) (o : ApiObject) (oc : List Value) (ho : kApiObject.K B.e o oc) (hg : GoodO o) (item : Int) (hd : 0 ≤ definerF o item) :
    CallsIn Fence.wide 0 Tryz.prog 136 #[.agg oc.toArray, .int .i64 item] w (Ret B (fun _ : Unit => True) (fun _ => .string (nameI o item)) (fun _ => [])) := by
  obtain ⟨A0, c0, A1, c1, A2, c2, rfl, m0, q0, m1, q1, m2, q2⟩ := kApiObject_open ho
  obtain ⟨k, x, hk, hx, -⟩ := definer_at hd
  have hkl := (List.getElem?_eq_some_iff.1 hx).1
  obtain ⟨e1, cs1, hE⟩ := q0.elm hx
  obtain rfl := kApiSymbol_open hE.K
  have hni : nameI o item = x.fName := by unfold nameI; rw [hk, Int.toNat_natCast, List.getD_eq_getElem?_getD, hx]; rfl
  rw [hni]
  (refine enter Tryz.func136 rfl rfl hS ?_; simp only [List.zipIdx_cons, List.zipIdx_nil, List.map_cons, List.map_nil, Nat.reduceAdd, Nat.zero_add])
  refine wSeq (wRegion' (oBox rfl (by repeat constructor) (fun b2 => ?_)))
  refine oAssign rfl (oNil (thn_n (wSeq (wDrawG rfl [0, 1, 2, 3] [(4, [0, 1], [5, 6, 7])] [8] 24 (by kernel_rfl) rfl rfl (fun w0 => ?_)))))
  refine oFld (n := 0) (m := 0) rfl rfl rfl (oLd rfl (by repeat constructor) rfl rfl ?_)
  refine oLdA rfl (by repeat constructor) rfl (by repeat constructor) ?_
  refine oMove rfl (oLkSegG (oSegG rfl ?_))
  (refine oCall rfl (by kernel_rfl) (fun w hS => frame hS (by repeat' constructor) (fun B' hB hS' => ref19_Definer hS' o _ (kApiObject.K_grow hB ho) hg item)) ?_; rintro ⟨⟩ -)
  rw [hk]
  refine oAgainG ?_ rfl (fun w0 => ?_)
  ·
   refine AgainG.cons rfl rfl rfl rfl (fun w0 => ?_) ?_
   ·
    refine oFld (n := 0) (m := 0) rfl rfl rfl ?_
    exact oLkHas rfl
   refine AgainG.cons rfl rfl rfl rfl (fun w0 => ?_) ?_
   ·
    refine oLd rfl (by repeat constructor) rfl rfl ?_
    exact oLkHas rfl
   exact AgainG.nil
  refine oIdxE rfl rfl (hE) (by omega) rfl rfl ?_
  have hc10 := (hE).cell
  first | refine oFldX (n := 0) (m := 0) rfl rfl rfl ?_ | refine oFldR (n := 0) (m := 0) rfl rfl rfl ?_ | refine oFldD (n := 0) (m := 0) rfl rfl rfl ?_
  first | refine oLdX rfl hc10 rfl rfl ?_ | refine oLdXA rfl hc10 rfl (by repeat constructor) ?_ | (refine oLdR1 rfl (by repeat constructor) (by omega) rfl (fun u12 hu12 => ?_))
  refine oTailG (oAssign rfl (oNil (thn_n (wRet (fin_r (fi1 rfl ?_))))))
  exact ⟨(), trivial, rfl, Lh⟩
end Go.Proofs.YtogaiijhicfoaaaGreatW
