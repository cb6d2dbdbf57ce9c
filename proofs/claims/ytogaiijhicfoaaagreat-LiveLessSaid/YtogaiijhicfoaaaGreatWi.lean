import Derived.Test.YtogaiijhicfoaaaGreatWh

/-
  The reference of objects: item, Check, Few.
-/
namespace Go.Proofs.YtogaiijhicfoaaaGreatW
set_option linter.unusedVariables false
set_option linter.unusedSimpArgs false
open Go.RowKit Go.Proofs.YtogaiijhicfoaaaGreatK Go.Proofs.YtogaiijhicfoaaaGreatT Go.Proofs.YtogaiijhicfoaaaGreatL Go.Proofs.YtogaiijhicfoaaaGreatV Go.Proofs.YtogaiijhicfoaaaGreatG

def symsL (o : ApiObject) : List Int := (List.range o.fSymbols.length).map (symE o)
def dKind (o : ApiObject) (i : Nat) : Int := (o.fSymbols.getD (definerF o (i : Int)).toNat default).fKind
noncomputable def funE (o : ApiObject) (f : ApiFunc) : Int := if chkE f o.fSymbols ≠ 0 then chkE f o.fSymbols else rangeF f
noncomputable def itemE (o : ApiObject) (i : Nat) : Int :=
  if definerF o (i : Int) < 0 then 13 else
  if o.fFuncs.length ≤ i then (if (o.fDatas.getD (i - o.fFuncs.length) default).fKind ≠ dKind o i then 14 else dataF (o.fDatas.getD (i - o.fFuncs.length) default) o.fSymbols) else
  if (o.fFuncs.getD i default).fClass ≠ dKind o i then 14 else funE o (o.fFuncs.getD i default)
noncomputable def itsL (o : ApiObject) : List Int := (List.range (o.fFuncs.length + o.fDatas.length)).map (itemE o)
def manyO (o : ApiObject) : Prop := 32 < o.fSymbols.length ∨ 12 < o.fFuncs.length ∨ 8 < o.fDatas.length
instance (o : ApiObject) : Decidable (manyO o) := by unfold manyO; infer_instance
noncomputable def objE (o : ApiObject) : Int := if manyO o then 19 else if fstE (symsL o) ≠ 0 then fstE (symsL o) else fstE (itsL o)
noncomputable def objI (o : ApiObject) : Int := if manyO o then -1 else if fstE (symsL o) ≠ 0 then idxI non0 (symsL o) else idxI non0 (itsL o)
theorem definer_at {o : ApiObject} {item : Int} (h : 0 ≤ definerF o item) : ∃ (k : Nat) (x : ApiSymbol), definerF o item = (k : Int) ∧ o.fSymbols[k]? = some x ∧ definesF o item x = true := idxI_at h
set_option maxRecDepth 100000 in
set_option maxHeartbeats 2000000 in
theorem ref19_item {B : Base} {w : World} (hS : St B [] w) (o : ApiObject) (oc : List Value) (ho : kApiObject.K B.e o oc) (hg : GoodO o) (i : Nat) (hi : i < o.fFuncs.length + o.fDatas.length) :
    CallsIn Fence.wide 0 Tryz.prog 127 #[.agg oc.toArray, .int .i64 (i : Int)] w (Ret B (fun _ : Unit => True) (fun _ => .int .i64 (itemE o i)) (fun _ => [])) := by
  obtain ⟨A0, c0, A1, c1, A2, c2, rfl, m0, q0, m1, q1, m2, q2⟩ := kApiObject_open ho
  have hn0 := hg.syms
  have hn1 := hg.funcs
  have hn2 := hg.datas
  (refine enter Tryz.func127 rfl rfl hS ?_; simp only [List.zipIdx_cons, List.zipIdx_nil, List.map_cons, List.map_nil, Nat.reduceAdd, Nat.zero_add])
  refine wSeq (wRegion' (oBox rfl (by repeat constructor) (fun b2 => ?_)))
  refine oAssign rfl (oNil (thn_n (wSeq (wRegion' (oLdA rfl (by repeat constructor) rfl (by repeat constructor) ?_)))))
  refine oMove rfl ?_
  (refine oCall rfl (by kernel_rfl) (fun w hS => frame hS (by repeat' constructor) (fun B' hB hS' => ref19_Definer hS' o _ (kApiObject.K_grow hB ho) hg (i : Int))) ?_; rintro ⟨⟩ -)
  refine oAssign rfl (oNil (thn_n (wSeq (wSeq (wRegion' (oMove rfl (oLss rfl rfl (oNil (thn_n (wC (fun h14 => ?_) (fun h14 => ?_)))))))))))
  ·
   refine wSeq (wRegion' (oAssign rfl (oNil (thn_n (wRet (thn_r (fin_r (fi1 rfl ?_))))))))
   exact ⟨(), trivial, by unfold itemE; rw [if_pos h14]; rfl, Lh⟩
  obtain ⟨k, x, hk, hx, -⟩ := definer_at (show 0 ≤ definerF o (i : Int) by omega)
  have hkl := (List.getElem?_eq_some_iff.1 hx).1
  obtain ⟨e1, cs1, hE⟩ := q0.elm hx
  obtain rfl := kApiSymbol_open hE.K
  have hdk : dKind o i = x.fKind := by unfold dKind; rw [hk, Int.toNat_natCast, List.getD_eq_getElem?_getD, hx]; rfl
  refine wSkip (thn_n (wSeq (wRegion' (oFld (n := 0) (m := 0) rfl rfl rfl (oLd rfl (by repeat constructor) rfl rfl ?_)))))
  refine oMove rfl (oSet (t := 17) (v' := .int .i64 (k : Int)) rfl (by rw [hk]) ?_)
  refine oIdxE rfl rfl (hE) (by omega) rfl rfl ?_
  have hc18 := (hE).cell
  first | refine oFldX (n := 3) (m := 3) rfl rfl rfl ?_ | refine oFldR (n := 3) (m := 3) rfl rfl rfl ?_ | refine oFldD (n := 3) (m := 3) rfl rfl rfl ?_
  first | refine oLdX rfl hc18 rfl rfl ?_ | refine oLdXA rfl hc18 rfl (by repeat constructor) ?_ | (refine oLdR1 rfl (by repeat constructor) (by omega) rfl (fun u20 hu20 => ?_))
  refine oAssign rfl (oNil (thn_n (wSeq (wSeq (wRegion' (oMove rfl (oFld (n := 1) (m := 1) rfl rfl rfl (oLd rfl (by repeat constructor) rfl rfl ?_))))))))
  refine oLenS rfl rfl (oGeq rfl rfl (oNil (thn_n (wC (fun h25 => ?_) (fun h25 => ?_)))))
  ·
   have hif : o.fFuncs.length ≤ i := by omega
   obtain ⟨d, hd⟩ : ∃ d, o.fDatas[i - o.fFuncs.length]? = some d := ⟨_, List.getElem?_eq_getElem (by omega)⟩
   obtain ⟨e2, cs2, hE2⟩ := q2.elm hd
   obtain ⟨D0, d0, D1, d1, rfl, n0, r0, n1, r1⟩ := kApiData_open hE2.K
   have hgd := hg.data d (List.mem_of_getElem? hd)
   have hvd := hg.v.2.2.2 d (List.mem_of_getElem? hd)
   have hdg : o.fDatas.getD (i - o.fFuncs.length) default = d := by rw [List.getD_eq_getElem?_getD, hd]; rfl
   refine wSeq (wRegion' (oFld (n := 2) (m := 2) rfl rfl rfl (oLd rfl (by repeat constructor) rfl rfl ?_)))
   refine oMove rfl (oFld (n := 1) (m := 1) rfl rfl rfl (oLd rfl (by repeat constructor) rfl rfl ?_))
   refine oLenS rfl rfl (oSub rfl rfl (by omega) ?_)
   refine oSet (t := 32) (v' := .int .i64 ((i - o.fFuncs.length : Nat) : Int)) rfl (by congr 1; omega) ?_
   refine oIdxE rfl rfl (hE2) (by omega) rfl rfl ?_
   have hc33 := (hE2).cell
   first | refine oLdX rfl hc33 rfl rfl ?_ | refine oLdXA rfl hc33 rfl (by repeat constructor) ?_ | (refine oLdR1 rfl (by repeat constructor) (by omega) rfl (fun u34 hu34 => ?_))
   refine oAlloc rfl (by repeat constructor) (fun b7 => ?_)
   refine oStA rfl rfl rfl rfl (by repeat constructor) (by rfl) ?_
   refine oNil (thn_n (wSeq (wSeq (wRegion' (oFld (n := 0) (m := 0) rfl rfl rfl (oLd rfl (by repeat constructor) rfl rfl ?_))))))
   refine oMove rfl (oNeq rfl rfl (oNil (thn_n (wC (fun h38 => ?_) (fun h38 => ?_)))))
   ·
    refine wSeq (wRegion' (oAssign rfl (oNil (thn_n (wRet (thn_r (thn_r (fin_r (fi1 rfl ?_)))))))))
    exact ⟨(), trivial, by unfold itemE; rw [if_neg h14, if_pos hif, hdg, hdk, if_pos h38]; rfl, Lh⟩
   refine wSkip (thn_n (wSeq (wRegion' (oLdA rfl (by repeat constructor) rfl (by repeat constructor) ?_))))
   refine oFld (n := 0) (m := 0) rfl rfl rfl (oLd rfl (by repeat constructor) rfl rfl ?_)
   (refine oCall rfl (by kernel_rfl) (fun w hS => frame hS (by repeat' constructor) (fun B' hB hS' => ref15_Check hS' d _ (kApiData_mk _ d n0 (Kd.C_grow hB r0) n1 (Kd.C_grow hB r1)) hvd.1 (by omega) A0 c0 o.fSymbols (Kd.C_grow hB q0))) ?_; rintro ⟨⟩ -)
   refine oAssign rfl (oNil (thn_n (wRet (thn_r (fin_r (fi1 rfl ?_))))))
   exact ⟨(), trivial, by unfold itemE; rw [if_neg h14, if_pos hif, hdg, hdk, if_neg h38]; rfl, Lh⟩
  have hif : ¬ o.fFuncs.length ≤ i := by omega
  obtain ⟨f, hf⟩ : ∃ f, o.fFuncs[i]? = some f := ⟨_, List.getElem?_eq_getElem (by omega)⟩
  obtain ⟨e3, cs3, hE3⟩ := q1.elm hf
  obtain ⟨F0, f0, F1, f1, F2, f2, F3, f3, rfl, n0, r0, n1, r1, n2, r2, n3, r3⟩ := kApiFunc_open hE3.K
  have hgf := hg.fun_ f (List.mem_of_getElem? hf)
  have hvf := hg.v.2.1.2 f (List.mem_of_getElem? hf)
  have hfg : o.fFuncs.getD i default = f := by rw [List.getD_eq_getElem?_getD, hf]; rfl
  refine wSkip (thn_n (wSeq (wSeq (wRegion' (oFld (n := 1) (m := 1) rfl rfl rfl (oLd rfl (by repeat constructor) rfl rfl ?_))))))
  refine oMove rfl (oIdxE rfl rfl (hE3) (by omega) rfl rfl ?_)
  have hc46 := (hE3).cell
  first | refine oFldX (n := 0) (m := 0) rfl rfl rfl ?_ | refine oFldR (n := 0) (m := 0) rfl rfl rfl ?_ | refine oFldD (n := 0) (m := 0) rfl rfl rfl ?_
  first | refine oLdX rfl hc46 rfl rfl ?_ | refine oLdXA rfl hc46 rfl (by repeat constructor) ?_ | (refine oLdR1 rfl (by repeat constructor) (by omega) rfl (fun u48 hu48 => ?_))
  refine oMove rfl (oNeq rfl rfl (oNil (thn_n (wC (fun h50 => ?_) (fun h50 => ?_)))))
  ·
   refine wSeq (wRegion' (oAssign rfl (oNil (thn_n (wRet (thn_r (fin_r (fi1 rfl ?_))))))))
   exact ⟨(), trivial, by unfold itemE; rw [if_neg h14, if_neg hif, hfg, hdk, if_pos h50]; rfl, Lh⟩
  refine wSkip (thn_n (wSeq (wSeq (wDrawG rfl [0, 1, 2, 3, 4, 5, 6] [(7, [], [8, 9, 10, 11])] [12] 24 (by kernel_rfl) rfl rfl (fun w0 => ?_)))))
  refine oFld (n := 1) (m := 1) rfl rfl rfl (oLd rfl (by repeat constructor) rfl rfl ?_)
  refine oMove rfl (oIdxE rfl rfl (hE3) (by omega) rfl rfl ?_)
  have hc55 := (hE3).cell
  first | refine oLdX rfl hc55 rfl rfl ?_ | refine oLdXA rfl hc55 rfl (by repeat constructor) ?_ | (refine oLdR1 rfl (by repeat constructor) (by omega) rfl (fun u56 hu56 => ?_))
  refine oFld (n := 0) (m := 0) rfl rfl rfl (oLd rfl (by repeat constructor) rfl rfl ?_)
  refine oLkSegG (oSegG rfl ?_)
  (refine oCall rfl (by kernel_rfl) (fun w hS => frame hS (by repeat' constructor) (fun B' hB hS' => ref17_Check hS' f _ (kApiFunc_mk _ f n0 (Kd.C_grow hB r0) n1 (Kd.C_grow hB r1) n2 (Kd.C_grow hB r2) n3 (Kd.C_grow hB r3)) hvf.2.1.2 A0 c0 o.fSymbols (Kd.C_grow hB q0))) ?_; rintro ⟨⟩ -)
  refine oAgainG ?_ rfl (fun w0 => ?_)
  ·
   exact AgainG.nil
  refine oMove rfl (oExt rfl (by repeat constructor) ?_)
  refine oExt rfl (by repeat constructor) ?_
  refine oAssign rfl (oTailG (oAssign rfl (oNil (thn_n (wSeq (wRegion' (oMove rfl (oNeq rfl rfl (oNil (thn_n (wC (fun h63 => ?_) (fun h63 => ?_))))))))))))
  ·
   refine wSeq (wRegion' (oMove rfl (oAssign rfl (oNil (thn_n (wRet (thn_r (fin_r (fi1 rfl ?_)))))))))
   exact ⟨(), trivial, by unfold itemE funE; rw [if_neg h14, if_neg hif, hfg, hdk, if_neg h50, if_pos h63]; rfl, Lh⟩
  refine wSkip (thn_n (wSeq (wRegion' (oFld (n := 1) (m := 1) rfl rfl rfl (oLd rfl (by repeat constructor) rfl rfl ?_)))))
  refine oMove rfl (oIdxE rfl rfl (hE3) (by omega) rfl rfl ?_)
  have hc68 := (hE3).cell
  first | refine oLdX rfl hc68 rfl rfl ?_ | refine oLdXA rfl hc68 rfl (by repeat constructor) ?_ | (refine oLdR1 rfl (by repeat constructor) (by omega) rfl (fun u69 hu69 => ?_))
  (refine oCall rfl (by kernel_rfl) (fun w hS => frame hS (by repeat' constructor) (fun B' hB hS' => ref18_Check hS' f _ (kApiFunc_mk _ f n0 (Kd.C_grow hB r0) n1 (Kd.C_grow hB r1) n2 (Kd.C_grow hB r2) n3 (Kd.C_grow hB r3)) (by omega))) ?_; rintro ⟨⟩ -)
  refine oAssign rfl (oNil (thn_n (wRet (fin_r (fi1 rfl ?_)))))
  exact ⟨(), trivial, by unfold itemE funE; rw [if_neg h14, if_neg hif, hfg, hdk, if_neg h50, if_neg h63]; rfl, Lh⟩
set_option maxRecDepth 100000 in
set_option maxHeartbeats 1000000 in
theorem ref19_Check {B : Base} {w : World} (hS : St B [] w) (o : ApiObject) (oc : List Value) (ho : kApiObject.K B.e o oc) (hg : GoodO o) :
    CallsIn Fence.wide 0 Tryz.prog 64 #[.agg oc.toArray] w (Ret B (fun _ : Unit => True) (fun _ => .tuple #[.int .i64 (objE o), .int .i64 (objI o)]) (fun _ => [])) := by
  obtain ⟨A0, c0, A1, c1, A2, c2, rfl, m0, q0, m1, q1, m2, q2⟩ := kApiObject_open ho
  have hn0 := hg.syms
  have hn1 := hg.funcs
  have hn2 := hg.datas
  have hit : itemsF o = (o.fFuncs.length : Int) + (o.fDatas.length : Int) := rfl
  (refine enter Tryz.func64 rfl rfl hS ?_; simp only [List.zipIdx_cons, List.zipIdx_nil, List.map_cons, List.map_nil, Nat.reduceAdd, Nat.zero_add])
  refine wSeq (wRegion' (oBox rfl (by repeat constructor) (fun b1 => ?_)))
  refine oAssign rfl (oAssign rfl (oNil (thn_n (wSeq (wSeq (wRegion' (oFld (n := 0) (m := 0) rfl rfl rfl (oLd rfl (by repeat constructor) rfl rfl ?_))))))))
  refine oLenS rfl rfl (oGtr rfl rfl (oMove rfl ?_))
  first | refine oSplit (t := 12) rfl (fun h12 => ?_) (fun h12 => ?_) | refine oSplitB (t := 12) rfl (fun h12 => ?_) (fun h12 => ?_)
  ·
   refine oSkip rfl rfl rfl rfl (oSkip rfl rfl rfl rfl (oSkip rfl rfl rfl rfl (oSkip rfl rfl rfl rfl (oPickT rfl rfl (oMove rfl (oSkip rfl rfl rfl rfl (oSkip rfl rfl rfl rfl (oSkip rfl rfl rfl rfl (oSkip rfl rfl rfl rfl (oPickT rfl rfl (oNil ?_)))))))))))
   refine thn_n ?_
   first | refine wCondT rfl ?_ | refine wCondTd h23 rfl ?_ | refine wCondTb h23 rfl ?_
   refine wSeq (wRegion' (oAssign rfl (oAssign rfl (oNil (thn_n (wRet (thn_r (fin_r ?_))))))))
   refine ⟨rfl, _, (ResL.cons (ResR.tmp rfl) (ResL.cons (ResR.tmp rfl) ResL.nil)), ?_⟩
   have hm : manyO o := by unfold manyO; omega
   exact ⟨(), trivial, by unfold objE objI; rw [if_pos hm, if_pos hm]; rfl, Lh⟩
  refine oWant rfl rfl (oFld (n := 1) (m := 1) rfl rfl rfl (oWant rfl rfl (oLd rfl (by repeat constructor) rfl rfl ?_)))
  refine oWant rfl rfl (oLenS rfl rfl (oWant rfl rfl (oGtr rfl rfl (oPickF rfl rfl (oMove rfl ?_)))))
  first | refine oSplit (t := 18) rfl (fun h18 => ?_) (fun h18 => ?_) | refine oSplitB (t := 18) rfl (fun h18 => ?_) (fun h18 => ?_)
  ·
   refine oSkip rfl rfl rfl rfl (oSkip rfl rfl rfl rfl (oSkip rfl rfl rfl rfl (oSkip rfl rfl rfl rfl (oPickT rfl rfl (oNil (thn_n ?_))))))
   first | refine wCondT rfl ?_ | refine wCondTd h23 rfl ?_ | refine wCondTb h23 rfl ?_
   refine wSeq (wRegion' (oAssign rfl (oAssign rfl (oNil (thn_n (wRet (thn_r (fin_r ?_))))))))
   refine ⟨rfl, _, (ResL.cons (ResR.tmp rfl) (ResL.cons (ResR.tmp rfl) ResL.nil)), ?_⟩
   have hm : manyO o := by unfold manyO; omega
   exact ⟨(), trivial, by unfold objE objI; rw [if_pos hm, if_pos hm]; rfl, Lh⟩
  refine oWant rfl rfl (oFld (n := 2) (m := 2) rfl rfl rfl (oWant rfl rfl (oLd rfl (by repeat constructor) rfl rfl ?_)))
  refine oWant rfl rfl (oLenS rfl rfl (oWant rfl rfl (oGtr rfl rfl (oPickF rfl rfl (oNil (thn_n (wC (fun h23 => ?_) (fun h23 => ?_))))))))
  ·
   refine wSeq (wRegion' (oAssign rfl (oAssign rfl (oNil (thn_n (wRet (thn_r (fin_r ?_))))))))
   refine ⟨rfl, _, (ResL.cons (ResR.tmp rfl) (ResL.cons (ResR.tmp rfl) ResL.nil)), ?_⟩
   have hm : manyO o := by unfold manyO; omega
   exact ⟨(), trivial, by unfold objE objI; rw [if_pos hm, if_pos hm]; rfl, Lh⟩
  have hm : ¬ manyO o := by unfold manyO; omega
  refine wSkip (thn_n (wSeq (wSeq (wRegion' (oAssign rfl (oNil (thn_n (wBlock (wLoop (ι := Nat) (fun i => [(1, .pointer (some ⟨b1, 0, none⟩)), (4, .int .i64 (i : Int))]) (fun i => [blk b1 79 [.slice A0 o.fSymbols.length c0, .slice A1 o.fFuncs.length c1, .slice A2 o.fDatas.length c2]]) (fun i => i ≤ o.fSymbols.length ∧ fstE ((symsL o).take i) = 0 ∧ ∀ y ∈ (symsL o).take i, non0 y = false) (fun i => o.fSymbols.length - i) 0 ?_ cv Lh ?_)))))))))
  ·
   exact ⟨Nat.zero_le _, rfl, by simp⟩
  rintro i ⟨hi, hs, hs2⟩
  try dsimp only
  refine wSeq (wSeq (wRegion' (oMove rfl (oFld (n := 0) (m := 0) rfl rfl rfl (oLd rfl (by repeat constructor) rfl rfl ?_)))))
  refine oLenS rfl rfl (oLss rfl rfl (oNil (thn_n (wC (fun h28 => ?_) (fun h28 => ?_)))))
  ·
   have hxe : (symsL o)[i]? = some (symE o i) := rmap_at (by omega)
   refine wSkip (thn_n (wSeq (wBlock (wSeq (wRegion' (oLdA rfl (by repeat constructor) rfl (by repeat constructor) ?_))))))
   refine oMove rfl ?_
   (refine oCall rfl (by kernel_rfl) (fun w hS => frame hS (by repeat' constructor) (fun B' hB hS' => ref19_symbol hS' o _ (kApiObject.K_grow hB ho) hg i (by omega))) ?_; rintro ⟨⟩ -)
   refine oAssign rfl (oNil (thn_n (wSeq (wRegion' (oMove rfl (oNeq rfl rfl (oNil (thn_n (wC (fun h35 => ?_) (fun h35 => ?_))))))))))
   ·
    refine wSeq (wRegion' (oMove rfl (oMove rfl (oAssign rfl (oAssign rfl (oNil (thn_n (wRet (blk_r (thn_r (thn_r ?_)))))))))))
    refine blk_r (thn_r (fin_r ?_))
    refine ⟨rfl, _, (ResL.cons (ResR.tmp rfl) (ResL.cons (ResR.tmp rfl) ResL.nil)), ?_⟩
    exact ⟨(), trivial, by have hfe := fstE_stop hs hxe h35; unfold objE objI; rw [if_neg hm, if_neg hm, hfe, if_pos h35, if_pos h35, idxI_stop hs2 hxe (decide_eq_true h35)]; rfl, Lh⟩
   refine wSkip (blk_n (thn_n (wRegion' (oMove rfl (oSucc rfl rfl (by omega) ?_)))))
   refine oAssign rfl (oNil (thn_n ?_))
   exact ⟨rfl, i + 1, ⟨by omega, fstE_next hs hxe (Classical.not_not.1 h35), take_not hs2 hxe (decide_eq_false h35)⟩, by omega, cv, Lh⟩
  obtain rfl : i = o.fSymbols.length := by omega
  have hfs : fstE (symsL o) = 0 := by have := hs; unfold symsL at this; rw [rmap_all] at this; exact this
  refine wExit (thn_x (thn_x (blk_x (thn_n (wSeq (wSeq (wRegion' (oAssign rfl (oNil (thn_n (wBlock ?_)))))))))))
  refine wLoop (ι := Nat) (fun i => [(1, .pointer (some ⟨b1, 0, none⟩)), (6, .int .i64 (i : Int))]) (fun i => [blk b1 79 [.slice A0 o.fSymbols.length c0, .slice A1 o.fFuncs.length c1, .slice A2 o.fDatas.length c2]]) (fun i => i ≤ o.fFuncs.length + o.fDatas.length ∧ fstE ((itsL o).take i) = 0 ∧ ∀ y ∈ (itsL o).take i, non0 y = false) (fun i => o.fFuncs.length + o.fDatas.length - i) 0 ?_ cv Lh ?_
  ·
   exact ⟨Nat.zero_le _, rfl, by simp⟩
  rintro i ⟨hi, hs, hs2⟩
  try dsimp only
  refine wSeq (wSeq (wRegion' (oMove rfl (oLdA rfl (by repeat constructor) rfl (by repeat constructor) ?_))))
  (refine oCall rfl (by kernel_rfl) (fun w hS => frame hS (by repeat' constructor) (fun B' hB hS' => ref19_Items hS' o _ (kApiObject.K_grow hB ho) hg)) ?_; rintro ⟨⟩ -)
  refine oLss rfl rfl (oNil (thn_n (wC (fun h41 => ?_) (fun h41 => ?_))))
  ·
   have hxe : (itsL o)[i]? = some (itemE o i) := rmap_at (by omega)
   refine wSkip (thn_n (wSeq (wBlock (wSeq (wRegion' (oLdA rfl (by repeat constructor) rfl (by repeat constructor) ?_))))))
   refine oMove rfl ?_
   (refine oCall rfl (by kernel_rfl) (fun w hS => frame hS (by repeat' constructor) (fun B' hB hS' => ref19_item hS' o _ (kApiObject.K_grow hB ho) hg i (by omega))) ?_; rintro ⟨⟩ -)
   refine oAssign rfl (oNil (thn_n (wSeq (wRegion' (oMove rfl (oNeq rfl rfl (oNil (thn_n (wC (fun h48 => ?_) (fun h48 => ?_))))))))))
   ·
    refine wSeq (wRegion' (oMove rfl (oMove rfl (oAssign rfl (oAssign rfl (oNil (thn_n (wRet (blk_r (thn_r (thn_r ?_)))))))))))
    refine blk_r (thn_r (fin_r ?_))
    refine ⟨rfl, _, (ResL.cons (ResR.tmp rfl) (ResL.cons (ResR.tmp rfl) ResL.nil)), ?_⟩
    exact ⟨(), trivial, by have hfe := fstE_stop hs hxe h48; unfold objE objI; rw [if_neg hm, if_neg hm, if_neg (by rw [hfs]; simp), if_neg (by rw [hfs]; simp), hfe, idxI_stop hs2 hxe (decide_eq_true h48)]; rfl, Lh⟩
   refine wSkip (blk_n (thn_n (wRegion' (oMove rfl (oSucc rfl rfl (by omega) ?_)))))
   refine oAssign rfl (oNil (thn_n ?_))
   exact ⟨rfl, i + 1, ⟨by omega, fstE_next hs hxe (Classical.not_not.1 h48), take_not hs2 hxe (decide_eq_false h48)⟩, by omega, cv, Lh⟩
  refine wExit (thn_x (thn_x (blk_x (thn_n (wSeq (wRegion' (oAssign rfl (oAssign rfl (oNil (thn_n (wRet ?_)))))))))))
  refine fin_r ?_
  refine ⟨rfl, _, (ResL.cons (ResR.tmp rfl) (ResL.cons (ResR.tmp rfl) ResL.nil)), ?_⟩
  obtain rfl : i = o.fFuncs.length + o.fDatas.length := by omega
  unfold itsL at hs hs2
  rw [rmap_all] at hs hs2
  exact ⟨(), trivial, by unfold objE objI; rw [if_neg hm, if_neg hm, if_neg (by rw [hfs]; simp), if_neg (by rw [hfs]; simp)]; unfold itsL; rw [hs, idxI_none hs2]; rfl, Lh⟩
set_option maxRecDepth 100000 in
theorem ref16_FewA {B : Base} {w : World} (hS : St B [] w) (f : ApiFunc) (fc : List Value) (hf : kApiFunc.K B.e f fc) :
    CallsIn Fence.wide 0 Tryz.prog 119 #[.agg fc.toArray] w (Ret B (fun r : Bool => r = true → f.fKinds.length ≤ 100 ∧ f.fLines.length ≤ 100 ∧ f.fCode.length ≤ 100 ∧ f.fRelocs.length ≤ 100) (fun r => .bool r) (fun _ => [])) := by
  obtain ⟨A0, c0, A1, c1, A2, c2, A3, c3, rfl, l0, g0, l1, g1, l2, g2, l3, g3⟩ := kApiFunc_open hf
  (refine enter Tryz.func119 rfl rfl hS ?_; simp only [List.zipIdx_cons, List.zipIdx_nil, List.map_cons, List.map_nil, Nat.reduceAdd, Nat.zero_add])
  refine wSeq (wRegion' (oBox rfl (by repeat constructor) (fun b1 => ?_)))
  refine oAssign rfl (oNil (thn_n (wSeq (wRegion' (oFld (n := 1) (m := 1) rfl rfl rfl (oLd rfl (by repeat constructor) rfl rfl ?_))))))
  refine oLenS rfl rfl (oLeq rfl rfl (oMove rfl ?_))
  first | refine oSplit (t := 7) rfl (fun h7 => ?_) (fun h7 => ?_) | refine oSplitB (t := 7) rfl (fun h7 => ?_) (fun h7 => ?_)
  ·
   refine oWant rfl rfl (oFld (n := 6) (m := 6) rfl rfl rfl (oWant rfl rfl (oLd rfl (by repeat constructor) rfl rfl ?_)))
   refine oWant rfl rfl (oLenS rfl rfl (oWant rfl rfl (oLeq rfl rfl (oPickT rfl rfl (oMove rfl ?_)))))
   first | refine oSplit (t := 13) rfl (fun h13 => ?_) (fun h13 => ?_) | refine oSplitB (t := 13) rfl (fun h13 => ?_) (fun h13 => ?_)
   ·
    refine oWant rfl rfl (oFld (n := 7) (m := 7) rfl rfl rfl (oWant rfl rfl (oLd rfl (by repeat constructor) rfl rfl ?_)))
    refine oWant rfl rfl (oLenS rfl rfl (oWant rfl rfl (oLeq rfl rfl (oPickT rfl rfl (oMove rfl ?_)))))
    first | refine oSplit (t := 19) rfl (fun h19 => ?_) (fun h19 => ?_) | refine oSplitB (t := 19) rfl (fun h19 => ?_) (fun h19 => ?_)
    ·
     refine oWant rfl rfl (oFld (n := 8) (m := 8) rfl rfl rfl (oWant rfl rfl (oLd rfl (by repeat constructor) rfl rfl ?_)))
     refine oWant rfl rfl (oLenS rfl rfl (oWant rfl rfl (oLeq rfl rfl (oPickT rfl rfl (oAssign rfl (oNil (thn_n (wRet (fin_r (fi1 rfl ?_))))))))))
     exact ⟨_, (by intro h; first | (simp at h; done) | (have := of_decide_eq_true h; omega)), rfl, Lh⟩
    refine oSkip rfl rfl rfl rfl (oSkip rfl rfl rfl rfl (oSkip rfl rfl rfl rfl (oSkip rfl rfl rfl rfl (oPickF rfl rfl (oAssign rfl (oNil (thn_n (wRet (fin_r (fi1 rfl ?_))))))))))
    exact ⟨_, (by intro h; first | (simp at h; done) | (have := of_decide_eq_true h; omega)), rfl, Lh⟩
   refine oSkip rfl rfl rfl rfl (oSkip rfl rfl rfl rfl (oSkip rfl rfl rfl rfl (oSkip rfl rfl rfl rfl (oPickF rfl rfl (oMove rfl (oSkip rfl rfl rfl rfl (oSkip rfl rfl rfl rfl (oSkip rfl rfl rfl rfl (oSkip rfl rfl rfl rfl (oPickF rfl rfl (oAssign rfl ?_)))))))))))
   refine oNil (thn_n (wRet (fin_r (fi1 rfl ?_))))
   exact ⟨_, (by intro h; first | (simp at h; done) | (have := of_decide_eq_true h; omega)), rfl, Lh⟩
  refine oSkip rfl rfl rfl rfl (oSkip rfl rfl rfl rfl (oSkip rfl rfl rfl rfl (oSkip rfl rfl rfl rfl (oPickF rfl rfl (oMove rfl (oSkip rfl rfl rfl rfl (oSkip rfl rfl rfl rfl (oSkip rfl rfl rfl rfl (oSkip rfl rfl rfl rfl (oPickF rfl rfl (oMove rfl ?_)))))))))))
  refine oSkip rfl rfl rfl rfl (oSkip rfl rfl rfl rfl (oSkip rfl rfl rfl rfl (oSkip rfl rfl rfl rfl (oPickF rfl rfl (oAssign rfl (oNil (thn_n (wRet (fin_r (fi1 rfl ?_))))))))))
  exact ⟨_, (by intro h; first | (simp at h; done) | (have := of_decide_eq_true h; omega)), rfl, Lh⟩
structure FewB (o : ApiObject) : Prop where
  syms : o.fSymbols.length ≤ 60
  funcs : o.fFuncs.length ≤ 20
  datas : o.fDatas.length ≤ 20
  fun_ : ∀ f ∈ o.fFuncs, f.fKinds.length ≤ 100 ∧ f.fLines.length ≤ 100 ∧ f.fCode.length ≤ 100 ∧ f.fRelocs.length ≤ 100
  data : ∀ d ∈ o.fDatas, d.fWords.length ≤ 100 ∧ d.fRelocs.length ≤ 100
theorem take_all {α : Type} {P : α → Prop} {l : List α} {i : Nat} {x : α} (h : ∀ y ∈ l.take i, P y) (hi : l[i]? = some x) (hp : P x) : ∀ y ∈ l.take (i + 1), P y := by
  intro y hy
  rw [List.take_add_one, hi] at hy
  rcases List.mem_append.1 hy with k | k
  · exact h y k
  · obtain rfl : y = x := by simpa using k
    exact hp
abbrev fewF (f : ApiFunc) : Prop := f.fKinds.length ≤ 100 ∧ f.fLines.length ≤ 100 ∧ f.fCode.length ≤ 100 ∧ f.fRelocs.length ≤ 100
abbrev fewD (d : ApiData) : Prop := d.fWords.length ≤ 100 ∧ d.fRelocs.length ≤ 100
set_option maxRecDepth 100000 in
set_option maxHeartbeats 1000000 in
theorem ref19_Few {B : Base} {w : World} (hS : St B [] w) (o : ApiObject) (oc : List Value) (ho : kApiObject.K B.e o oc) :
    CallsIn Fence.wide 0 Tryz.prog 61 #[.agg oc.toArray] w (Ret B (fun r : Bool => r = true → FewB o) (fun r => .bool r) (fun _ => [])) := by
  obtain ⟨A0, c0, A1, c1, A2, c2, rfl, m0, q0, m1, q1, m2, q2⟩ := kApiObject_open ho
  have hl0 := q0.1
  have hl1 := q1.1
  have hl2 := q2.1
  (refine enter Tryz.func61 rfl rfl hS ?_; simp only [List.zipIdx_cons, List.zipIdx_nil, List.map_cons, List.map_nil, Nat.reduceAdd, Nat.zero_add])
  refine wSeq (wRegion' (oBox rfl (by repeat constructor) (fun b1 => ?_)))
  refine oAssign rfl (oNil (thn_n (wSeq (wSeq (wRegion' (oAssign rfl (oNil (thn_n (wBlock (wLoop (ι := Nat) (fun i => [(1, .pointer (some ⟨b1, 0, none⟩)), (3, .int .i64 (i : Int))]) (fun i => [blk b1 79 [.slice A0 o.fSymbols.length c0, .slice A1 o.fFuncs.length c1, .slice A2 o.fDatas.length c2]]) (fun i => i ≤ o.fSymbols.length) (fun i => o.fSymbols.length - i) 0 ?_ cv Lh ?_))))))))))
  ·
   exact Nat.zero_le _
  rintro i hi
  try dsimp only
  refine wSeq (wSeq (wRegion' (oMove rfl (oFld (n := 0) (m := 0) rfl rfl rfl (oLd rfl (by repeat constructor) rfl rfl ?_)))))
  refine oLenS rfl rfl (oLss rfl rfl (oNil (thn_n (wC (fun h10 => ?_) (fun h10 => ?_)))))
  ·
   obtain ⟨x, hx⟩ : ∃ x, o.fSymbols[i]? = some x := ⟨_, List.getElem?_eq_getElem (by omega)⟩
   obtain ⟨e1, cs1, hE⟩ := q0.elm hx
   obtain rfl := kApiSymbol_open hE.K
   refine wSkip (thn_n (wSeq (wBlock (wSeq (wRegion' (oFld (n := 0) (m := 0) rfl rfl rfl (oLd rfl (by repeat constructor) rfl rfl ?_)))))))
   refine oMove rfl (oIdxE rfl rfl (hE) (by omega) rfl rfl ?_)
   have hc16 := (hE).cell
   first | refine oFldX (n := 0) (m := 0) rfl rfl rfl ?_ | refine oFldR (n := 0) (m := 0) rfl rfl rfl ?_ | refine oFldD (n := 0) (m := 0) rfl rfl rfl ?_
   first | refine oLdX rfl hc16 rfl rfl ?_ | refine oLdXA rfl hc16 rfl (by repeat constructor) ?_ | (refine oLdR1 rfl (by repeat constructor) (by omega) rfl (fun u18 hu18 => ?_))
   refine oLenStr rfl rfl (oGtr rfl rfl (oNil (thn_n (wC (fun h20 => ?_) (fun h20 => ?_)))))
   ·
    refine wSeq (wRegion' (oAssign rfl (oNil (thn_n (wRet (blk_r (thn_r (thn_r (blk_r (thn_r (fin_r ?_)))))))))))
    refine fi1 rfl ?_
    exact ⟨false, (by intro h; cases h), rfl, Lh⟩
   refine wSkip (blk_n (thn_n (wRegion' (oMove rfl (oSucc rfl rfl (by omega) ?_)))))
   refine oAssign rfl (oNil (thn_n ?_))
   exact ⟨rfl, i + 1, by omega, by omega, cv, Lh⟩
  refine wExit (thn_x (thn_x (blk_x (thn_n (wSeq (wSeq (wRegion' (oAssign rfl (oNil (thn_n (wBlock ?_)))))))))))
  refine wLoop (ι := Nat) (fun i => [(1, .pointer (some ⟨b1, 0, none⟩)), (4, .int .i64 (i : Int))]) (fun i => [blk b1 79 [.slice A0 o.fSymbols.length c0, .slice A1 o.fFuncs.length c1, .slice A2 o.fDatas.length c2]]) (fun i => i ≤ o.fFuncs.length ∧ i ≤ 20 ∧ ∀ f ∈ o.fFuncs.take i, fewF f) (fun i => o.fFuncs.length - i) 0 ?_ cv Lh ?_
  ·
   exact ⟨Nat.zero_le _, by omega, by simp⟩
  rintro i ⟨hi, hi2, hs⟩
  try dsimp only
  refine wSeq (wSeq (wRegion' (oMove rfl (oFld (n := 1) (m := 1) rfl rfl rfl (oLd rfl (by repeat constructor) rfl rfl ?_)))))
  refine oLenS rfl rfl (oLss rfl rfl (oNil (thn_n (wC (fun h25 => ?_) (fun h25 => ?_)))))
  ·
   obtain ⟨f, hf⟩ : ∃ f, o.fFuncs[i]? = some f := ⟨_, List.getElem?_eq_getElem (by omega)⟩
   obtain ⟨e3, cs3, hE3⟩ := q1.elm hf
   obtain ⟨F0, f0, F1, f1, F2, f2, F3, f3, rfl, n0, r0, n1, r1, n2, r2, n3, r3⟩ := kApiFunc_open hE3.K
   refine wSkip (thn_n (wSeq (wBlock (wSeq (wRegion' (oMove rfl (oGeq rfl rfl (oMove rfl ?_))))))))
   first | refine oSplit (t := 30) rfl (fun h30 => ?_) (fun h30 => ?_) | refine oSplitB (t := 30) rfl (fun h30 => ?_) (fun h30 => ?_)
   ·
    refine oSkip rfl rfl rfl rfl (oSkip rfl rfl rfl rfl (oSkip rfl rfl rfl rfl (oSkip rfl rfl rfl rfl (oSkip rfl rfl rfl rfl (oSkip rfl rfl rfl rfl (oSkip rfl rfl rfl rfl (oPickT rfl rfl (oNil (thn_n ?_)))))))))
    first | refine wCondT rfl ?_ | refine wCondTd h38 rfl ?_ | refine wCondTb h38 rfl ?_
    refine wSeq (wRegion' (oAssign rfl (oNil (thn_n (wRet (blk_r (thn_r (thn_r (blk_r (thn_r (fin_r ?_)))))))))))
    refine fi1 rfl ?_
    exact ⟨false, (by intro h; cases h), rfl, Lh⟩
   refine oWant rfl rfl (oFld (n := 1) (m := 1) rfl rfl rfl (oWant rfl rfl (oLd rfl (by repeat constructor) rfl rfl ?_)))
   refine oWant rfl rfl (oMove rfl (oWant rfl rfl (oIdxE rfl rfl (hE3) (by omega) rfl rfl ?_)))
   have hc34 := (hE3).cell
   refine oWant rfl rfl ?_
   first | refine oLdX rfl hc34 rfl rfl ?_ | refine oLdXA rfl hc34 rfl (by repeat constructor) ?_ | (refine oLdR1 rfl (by repeat constructor) (by omega) rfl (fun u35 hu35 => ?_))
   refine oWant rfl rfl ?_
   (refine oCall rfl (by kernel_rfl) (fun w hS => frame hS (by repeat' constructor) (fun B' hB hS' => ref16_FewA hS' f _ (kApiFunc_mk _ f n0 (Kd.C_grow hB r0) n1 (Kd.C_grow hB r1) n2 (Kd.C_grow hB r2) n3 (Kd.C_grow hB r3)))) ?_; rintro r36 h36)
   refine oWant rfl rfl ?_
   first | refine oNot rfl ?_ | refine oNotB rfl ?_
   refine oPickF rfl rfl (oNil (thn_n (wC (fun h38 => ?_) (fun h38 => ?_))))
   ·
    refine wSeq (wRegion' (oAssign rfl (oNil (thn_n (wRet (blk_r (thn_r (thn_r (blk_r (thn_r (fin_r ?_)))))))))))
    refine fi1 rfl ?_
    exact ⟨false, (by intro h; cases h), rfl, Lh⟩
   refine wSkip (blk_n (thn_n (wRegion' (oMove rfl (oSucc rfl rfl (by omega) ?_)))))
   refine oAssign rfl (oNil (thn_n ?_))
   exact ⟨rfl, i + 1, ⟨by omega, by omega, take_all hs hf (h36 (by simp_all))⟩, by omega, cv, Lh⟩
  obtain rfl : i = o.fFuncs.length := by omega
  rw [List.take_length] at hs
  have hsF := hs
  have hsN := hi2
  refine wExit (thn_x (thn_x (blk_x (thn_n (wSeq (wSeq (wRegion' (oAssign rfl (oNil (thn_n (wBlock ?_)))))))))))
  refine wLoop (ι := Nat) (fun i => [(1, .pointer (some ⟨b1, 0, none⟩)), (5, .int .i64 (i : Int))]) (fun i => [blk b1 79 [.slice A0 o.fSymbols.length c0, .slice A1 o.fFuncs.length c1, .slice A2 o.fDatas.length c2]]) (fun i => i ≤ o.fDatas.length ∧ i ≤ 20 ∧ ∀ f ∈ o.fDatas.take i, fewD f) (fun i => o.fDatas.length - i) 0 ?_ cv Lh ?_
  ·
   exact ⟨Nat.zero_le _, by omega, by simp⟩
  rintro i ⟨hi, hi2, hs⟩
  try dsimp only
  refine wSeq (wSeq (wRegion' (oMove rfl (oFld (n := 2) (m := 2) rfl rfl rfl (oLd rfl (by repeat constructor) rfl rfl ?_)))))
  refine oLenS rfl rfl (oLss rfl rfl (oNil (thn_n (wC (fun h43 => ?_) (fun h43 => ?_)))))
  ·
   obtain ⟨d, hd⟩ : ∃ d, o.fDatas[i]? = some d := ⟨_, List.getElem?_eq_getElem (by omega)⟩
   obtain ⟨e2, cs2, hE2⟩ := q2.elm hd
   obtain ⟨D0, d0, D1, d1, rfl, n0, r0, n1, r1⟩ := kApiData_open hE2.K
   refine wSkip (thn_n (wSeq (wBlock (wSeq (wRegion' (oMove rfl (oGeq rfl rfl (oMove rfl ?_))))))))
   first | refine oSplit (t := 48) rfl (fun h48 => ?_) (fun h48 => ?_) | refine oSplitB (t := 48) rfl (fun h48 => ?_) (fun h48 => ?_)
   ·
    refine oSkip rfl rfl rfl rfl (oSkip rfl rfl rfl rfl (oSkip rfl rfl rfl rfl (oSkip rfl rfl rfl rfl (oSkip rfl rfl rfl rfl (oSkip rfl rfl rfl rfl (oSkip rfl rfl rfl rfl (oPickT rfl rfl (oNil (thn_n ?_)))))))))
    first | refine wCondT rfl ?_ | refine wCondTd h56 rfl ?_ | refine wCondTb h56 rfl ?_
    refine wSeq (wRegion' (oAssign rfl (oNil (thn_n (wRet (blk_r (thn_r (thn_r (blk_r (thn_r (fin_r ?_)))))))))))
    refine fi1 rfl ?_
    exact ⟨false, (by intro h; cases h), rfl, Lh⟩
   refine oWant rfl rfl (oFld (n := 2) (m := 2) rfl rfl rfl (oWant rfl rfl (oLd rfl (by repeat constructor) rfl rfl ?_)))
   refine oWant rfl rfl (oMove rfl (oWant rfl rfl (oIdxE rfl rfl (hE2) (by omega) rfl rfl ?_)))
   have hc52 := (hE2).cell
   refine oWant rfl rfl ?_
   first | refine oLdX rfl hc52 rfl rfl ?_ | refine oLdXA rfl hc52 rfl (by repeat constructor) ?_ | (refine oLdR1 rfl (by repeat constructor) (by omega) rfl (fun u53 hu53 => ?_))
   refine oWant rfl rfl ?_
   (refine oCall rfl (by kernel_rfl) (fun w hS => frame hS (by repeat' constructor) (fun B' hB hS' => ref15_Few hS' d _ (kApiData_mk _ d n0 (Kd.C_grow hB r0) n1 (Kd.C_grow hB r1)))) ?_; rintro r54 h54)
   refine oWant rfl rfl ?_
   first | refine oNot rfl ?_ | refine oNotB rfl ?_
   refine oPickF rfl rfl (oNil (thn_n (wC (fun h56 => ?_) (fun h56 => ?_))))
   ·
    refine wSeq (wRegion' (oAssign rfl (oNil (thn_n (wRet (blk_r (thn_r (thn_r (blk_r (thn_r (fin_r ?_)))))))))))
    refine fi1 rfl ?_
    exact ⟨false, (by intro h; cases h), rfl, Lh⟩
   refine wSkip (blk_n (thn_n (wRegion' (oMove rfl (oSucc rfl rfl (by omega) ?_)))))
   refine oAssign rfl (oNil (thn_n ?_))
   exact ⟨rfl, i + 1, ⟨by omega, by omega, take_all hs hd (h54 (by simp_all))⟩, by omega, cv, Lh⟩
  refine wExit (thn_x (thn_x (blk_x (thn_n (wSeq (wRegion' (oFld (n := 0) (m := 0) rfl rfl rfl (oLd rfl (by repeat constructor) rfl rfl ?_))))))))
  refine oLenS rfl rfl (oLeq rfl rfl (oAssign rfl (oNil (thn_n (wRet (fin_r (fi1 rfl ?_)))))))
  obtain rfl : i = o.fDatas.length := by omega
  rw [List.take_length] at hs
  exact ⟨_, (by intro h; have := of_decide_eq_true h; exact ⟨by omega, hsN, hi2, hsF, hs⟩), rfl, Lh⟩
end Go.Proofs.YtogaiijhicfoaaaGreatW
