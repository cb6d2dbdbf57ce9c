import Derived.Test.YtogaiijhicfoaaaGreatWg

/-
  The reference of objects: Items, defines, Definer, symbol.
-/
namespace Go.Proofs.YtogaiijhicfoaaaGreatW
set_option linter.unusedVariables false
set_option linter.unusedSimpArgs false
open Go.RowKit Go.Proofs.YtogaiijhicfoaaaGreatK Go.Proofs.YtogaiijhicfoaaaGreatT Go.Proofs.YtogaiijhicfoaaaGreatL Go.Proofs.YtogaiijhicfoaaaGreatV Go.Proofs.YtogaiijhicfoaaaGreatG

structure GoodO (o : ApiObject) : Prop where
  v : vApiObject o
  syms : o.fSymbols.length ≤ 60
  funcs : o.fFuncs.length ≤ 20
  datas : o.fDatas.length ≤ 20
  fun_ : ∀ f ∈ o.fFuncs, f.fKinds.length ≤ 100 ∧ f.fLines.length ≤ 100 ∧ f.fCode.length ≤ 100 ∧ f.fRelocs.length ≤ 100
  data : ∀ d ∈ o.fDatas, d.fWords.length ≤ 100 ∧ d.fRelocs.length ≤ 100
theorem FewO.one {l : List ApiObject} (h : FewO l) (hv : ∀ o ∈ l, vApiObject o) {o : ApiObject} (ho : o ∈ l) : GoodO o := ⟨hv o ho, h.syms o ho, h.funcs o ho, h.datas o ho, h.fun_ o ho, h.data o ho⟩
def itemsF (o : ApiObject) : Int := (o.fFuncs.length : Int) + (o.fDatas.length : Int)
def definesF (o : ApiObject) (item : Int) (x : ApiSymbol) : Bool := if item < 0 ∨ itemsF o ≤ item then false else if item < (o.fFuncs.length : Int) then decide (x.fSort = 1) && decide (x.fDef = item) else decide (x.fSort = 2) && decide (x.fDef = item - (o.fFuncs.length : Int))
def definerF (o : ApiObject) (item : Int) : Int := idxI (definesF o item) o.fSymbols
set_option maxRecDepth 100000 in
theorem ref19_Items {B : Base} {w : World} (hS : St B [] w) (o : ApiObject) (oc : List Value) (ho : kApiObject.K B.e o oc) (hg : GoodO o) :
    CallsIn Fence.wide 0 Tryz.prog 66 #[.agg oc.toArray] w (Ret B (fun _ : Unit => True) (fun _ => .int .i64 (itemsF o)) (fun _ => [])) := by
  obtain ⟨A0, c0, A1, c1, A2, c2, rfl, m0, q0, m1, q1, m2, q2⟩ := kApiObject_open ho
  have hn1 := hg.funcs
  have hn2 := hg.datas
  (refine enter Tryz.func66 rfl rfl hS ?_; simp only [List.zipIdx_cons, List.zipIdx_nil, List.map_cons, List.map_nil, Nat.reduceAdd, Nat.zero_add])
  refine wSeq (wRegion' (oBox rfl (by repeat constructor) (fun b1 => ?_)))
  refine oAssign rfl (oNil (thn_n (wSeq (wRegion' (oFld (n := 1) (m := 1) rfl rfl rfl (oLd rfl (by repeat constructor) rfl rfl ?_))))))
  refine oLenS rfl rfl (oFld (n := 2) (m := 2) rfl rfl rfl (oLd rfl (by repeat constructor) rfl rfl ?_))
  refine oLenS rfl rfl ?_
  first | refine oAdd rfl rfl (by omega) ?_ | refine oAddW rfl rfl ?_
  refine oAssign rfl (oNil (thn_n (wRet (fin_r (fi1 rfl ?_)))))
  exact ⟨(), trivial, rfl, Lh⟩
set_option maxRecDepth 100000 in
set_option maxHeartbeats 600000 in
theorem ref19_defines {B : Base} {w : World} (hS : St B [] w) (o : ApiObject) (oc : List Value) (ho : kApiObject.K B.e o oc) (hg : GoodO o) (x : ApiSymbol) (xc : List Value) (hx : kApiSymbol.K B.e x xc) (item : Int) :
    CallsIn Fence.wide 0 Tryz.prog 131 #[.agg oc.toArray, .agg xc.toArray, .int .i64 item] w (Ret B (fun _ : Unit => True) (fun _ => .bool (definesF o item x)) (fun _ => [])) := by
  obtain ⟨A0, c0, A1, c1, A2, c2, rfl, m0, q0, m1, q1, m2, q2⟩ := kApiObject_open ho
  obtain rfl := kApiSymbol_open hx
  have hn1 := hg.funcs
  have hn2 := hg.datas
  have hit : itemsF o = (o.fFuncs.length : Int) + (o.fDatas.length : Int) := rfl
  (refine enter Tryz.func131 rfl rfl hS ?_; simp only [List.zipIdx_cons, List.zipIdx_nil, List.map_cons, List.map_nil, Nat.reduceAdd, Nat.zero_add])
  refine wSeq (wRegion' (oBox rfl (by repeat constructor) (fun b3 => ?_)))
  refine oBox rfl (by repeat constructor) (fun b4 => ?_)
  refine oAssign rfl (oNil (thn_n (wSeq (wSeq (wRegion' (oMove rfl (oLss rfl rfl (oMove rfl ?_))))))))
  first | refine oSplit (t := 9) rfl (fun h9 => ?_) (fun h9 => ?_) | refine oSplitB (t := 9) rfl (fun h9 => ?_) (fun h9 => ?_)
  ·
   refine oSkip rfl rfl rfl rfl (oSkip rfl rfl rfl rfl (oSkip rfl rfl rfl rfl (oSkip rfl rfl rfl rfl (oPickT rfl rfl (oNil (thn_n ?_))))))
   first | refine wCondT rfl ?_ | refine wCondTd h14 rfl ?_ | refine wCondTb h14 rfl ?_
   refine wSeq (wRegion' (oAssign rfl (oNil (thn_n (wRet (thn_r (fin_r (fi1 rfl ?_))))))))
   exact ⟨(), trivial, by unfold definesF; rw [if_pos (by omega)]; rfl, Lh⟩
  refine oWant rfl rfl (oMove rfl (oWant rfl rfl (oLdA rfl (by repeat constructor) rfl (by repeat constructor) ?_)))
  refine oWant rfl rfl ?_
  (refine oCall rfl (by kernel_rfl) (fun w hS => frame hS (by repeat' constructor) (fun B' hB hS' => ref19_Items hS' o _ (kApiObject.K_grow hB ho) hg)) ?_; rintro ⟨⟩ -)
  refine oWant rfl rfl (oGeq rfl rfl (oPickF rfl rfl (oNil (thn_n (wC (fun h14 => ?_) (fun h14 => ?_))))))
  ·
   refine wSeq (wRegion' (oAssign rfl (oNil (thn_n (wRet (thn_r (fin_r (fi1 rfl ?_))))))))
   exact ⟨(), trivial, by unfold definesF; rw [if_pos (by omega)]; rfl, Lh⟩
  refine wSkip (thn_n (wSeq (wSeq (wRegion' (oMove rfl (oFld (n := 1) (m := 1) rfl rfl rfl (oLd rfl (by repeat constructor) rfl rfl ?_)))))))
  refine oLenS rfl rfl (oLss rfl rfl (oNil (thn_n (wC (fun h19 => ?_) (fun h19 => ?_)))))
  ·
   refine wSeq (wRegion' (oFld (n := 2) (m := 2) rfl rfl rfl (oLd rfl (by repeat constructor) rfl rfl ?_)))
   refine oEql rfl rfl (oMove rfl ?_)
   first | refine oSplit (t := 23) rfl (fun h23 => ?_) (fun h23 => ?_) | refine oSplitB (t := 23) rfl (fun h23 => ?_) (fun h23 => ?_)
   ·
    refine oWant rfl rfl (oFld (n := 4) (m := 4) rfl rfl rfl (oWant rfl rfl (oLd rfl (by repeat constructor) rfl rfl ?_)))
    refine oWant rfl rfl (oMove rfl (oWant rfl rfl (oEql rfl rfl (oPickT rfl rfl (oAssign rfl (oNil (thn_n (wRet (thn_r (fin_r (fi1 rfl ?_)))))))))))
    exact ⟨(), trivial, by unfold definesF; rw [if_neg (by omega), if_pos (by omega)]; simp [resVal, h23], Lh⟩
   refine oSkip rfl rfl rfl rfl (oSkip rfl rfl rfl rfl (oSkip rfl rfl rfl rfl (oSkip rfl rfl rfl rfl (oPickF rfl rfl (oAssign rfl (oNil (thn_n (wRet (thn_r (fin_r (fi1 rfl ?_)))))))))))
   exact ⟨(), trivial, by unfold definesF; rw [if_neg (by omega), if_pos (by omega)]; simp [resVal, h23], Lh⟩
  refine wSkip (thn_n (wSeq (wRegion' (oFld (n := 2) (m := 2) rfl rfl rfl (oLd rfl (by repeat constructor) rfl rfl ?_)))))
  refine oEql rfl rfl (oMove rfl ?_)
  first | refine oSplit (t := 32) rfl (fun h32 => ?_) (fun h32 => ?_) | refine oSplitB (t := 32) rfl (fun h32 => ?_) (fun h32 => ?_)
  ·
   refine oWant rfl rfl (oFld (n := 4) (m := 4) rfl rfl rfl (oWant rfl rfl (oLd rfl (by repeat constructor) rfl rfl ?_)))
   refine oWant rfl rfl (oMove rfl (oWant rfl rfl (oFld (n := 1) (m := 1) rfl rfl rfl (oWant rfl rfl (oLd rfl (by repeat constructor) rfl rfl ?_)))))
   refine oWant rfl rfl (oLenS rfl rfl (oWant rfl rfl (oSub rfl rfl (by omega) ?_)))
   refine oWant rfl rfl (oEql rfl rfl (oPickT rfl rfl (oAssign rfl (oNil (thn_n (wRet (fin_r (fi1 rfl ?_))))))))
   exact ⟨(), trivial, by unfold definesF; rw [if_neg (by omega), if_neg (by omega)]; simp [resVal, h32], Lh⟩
  refine oSkip rfl rfl rfl rfl (oSkip rfl rfl rfl rfl (oSkip rfl rfl rfl rfl (oSkip rfl rfl rfl rfl (oSkip rfl rfl rfl rfl (oSkip rfl rfl rfl rfl (oSkip rfl rfl rfl rfl (oSkip rfl rfl rfl rfl (oPickF rfl rfl (oAssign rfl (oNil (thn_n ?_)))))))))))
  refine wRet (fin_r (fi1 rfl ?_))
  exact ⟨(), trivial, by unfold definesF; rw [if_neg (by omega), if_neg (by omega)]; simp [resVal, h32], Lh⟩
set_option maxRecDepth 100000 in
set_option maxHeartbeats 600000 in
theorem ref19_Definer {B : Base} {w : World} (hS : St B [] w) (o : ApiObject) (oc : List Value) (ho : kApiObject.K B.e o oc) (hg : GoodO o) (item : Int) :
    CallsIn Fence.wide 0 Tryz.prog 68 #[.agg oc.toArray, .int .i64 item] w (Ret B (fun _ : Unit => True) (fun _ => .int .i64 (definerF o item)) (fun _ => [])) := by
  obtain ⟨A0, c0, A1, c1, A2, c2, rfl, m0, q0, m1, q1, m2, q2⟩ := kApiObject_open ho
  have hn0 := hg.syms
  (refine enter Tryz.func68 rfl rfl hS ?_; simp only [List.zipIdx_cons, List.zipIdx_nil, List.map_cons, List.map_nil, Nat.reduceAdd, Nat.zero_add])
  refine wSeq (wRegion' (oBox rfl (by repeat constructor) (fun b2 => ?_)))
  refine oAssign rfl (oNil (thn_n (wSeq (wSeq (wRegion' (oAssign rfl (oNil (thn_n (wBlock (wLoop (ι := Nat) (fun i => [(1, .int .i64 item), (2, .pointer (some ⟨b2, 0, none⟩)), (5, .int .i64 (i : Int))]) (fun i => [blk b2 79 [.slice A0 o.fSymbols.length c0, .slice A1 o.fFuncs.length c1, .slice A2 o.fDatas.length c2]]) (fun i => i ≤ o.fSymbols.length ∧ ∀ y ∈ o.fSymbols.take i, definesF o item y = false) (fun i => o.fSymbols.length - i) 0 ?_ cv Lh ?_))))))))))
  ·
   exact ⟨Nat.zero_le _, by simp⟩
  rintro i ⟨hi, hs⟩
  try dsimp only
  refine wSeq (wSeq (wRegion' (oMove rfl (oFld (n := 0) (m := 0) rfl rfl rfl (oLd rfl (by repeat constructor) rfl rfl ?_)))))
  refine oLenS rfl rfl (oLss rfl rfl (oNil (thn_n (wC (fun h10 => ?_) (fun h10 => ?_)))))
  ·
   obtain ⟨x, hx⟩ : ∃ x, o.fSymbols[i]? = some x := ⟨_, List.getElem?_eq_getElem (by omega)⟩
   obtain ⟨e1, cs1, hE⟩ := q0.elm hx
   obtain rfl := kApiSymbol_open hE.K
   refine wSkip (thn_n (wSeq (wBlock (wSeq (wDraw2 rfl rfl [3, 6] [0, 1, 2, 4, 5] 7 (by kernel_rfl) rfl rfl rfl (fun w0 => ?_))))))
   refine oLdA rfl (by repeat constructor) rfl (by repeat constructor) ?_
   refine oFld (n := 0) (m := 0) rfl rfl rfl (oLd rfl (by repeat constructor) rfl rfl ?_)
   refine oIdxE rfl rfl (hE) (by omega) rfl rfl ?_
   have hc17 := (hE).cell
   first | refine oLdX rfl hc17 rfl rfl ?_ | refine oLdXA rfl hc17 rfl (by repeat constructor) ?_ | (refine oLdR1 rfl (by repeat constructor) (by omega) rfl (fun u18 hu18 => ?_))
   refine oHead ?_
   (refine oCall rfl (by kernel_rfl) (fun w hS => frame hS (by repeat' constructor) (fun B' hB hS' => ref19_defines hS' o _ (kApiObject.K_grow hB ho) hg x _ (kApiSymbol_mk _ x) item)) ?_; rintro ⟨⟩ -)
   refine oNilT (thn_n (wC (fun h20 => ?_) (fun h20 => ?_)))
   ·
    refine wSeq (wRegion' (oMove rfl (oAssign rfl (oNil (thn_n (wRet (blk_r (thn_r (thn_r (blk_r (thn_r ?_)))))))))))
    refine fin_r (fi1 rfl ?_)
    exact ⟨(), trivial, by unfold definerF; rw [idxI_stop hs hx h20]; rfl, Lh⟩
   refine wSkip (blk_n (thn_n (wRegion' (oMove rfl (oSucc rfl rfl (by omega) ?_)))))
   refine oAssign rfl (oNil (thn_n ?_))
   exact ⟨rfl, i + 1, ⟨by omega, take_not hs hx h20⟩, by omega, cv, Lh⟩
  refine wExit (thn_x (thn_x (blk_x (thn_n (wSeq (wRegion' (oAssign rfl (oNil (thn_n (wRet (fin_r ?_)))))))))))
  refine fi1 rfl ?_
  obtain rfl : i = o.fSymbols.length := by omega
  rw [List.take_length] at hs
  exact ⟨(), trivial, by unfold definerF; rw [idxI_none hs]; rfl, Lh⟩
def kindB (x : ApiSymbol) : Bool := (decide (x.fSort ≠ 1) && decide (x.fSort ≠ 2)) || (decide (x.fSort = 1) && !isC x.fKind) || (decide (x.fSort = 2) && decide (textF x.fKind = ByteArray.empty))
def nameP (x y : ApiSymbol) : Bool := decide (y.fName = x.fName)
def aheadP (x y : ApiSymbol) : Bool := decide (y.fSort = x.fSort) && decide (y.fDef ≠ -1)
def aheadN (x : ApiSymbol) (l : List ApiSymbol) : Nat := (l.filter (aheadP x)).length
def mostN (o : ApiObject) (x : ApiSymbol) : Nat := if x.fSort = 2 then o.fDatas.length else o.fFuncs.length
def symX (o : ApiObject) (i : Nat) (x : ApiSymbol) : Int :=
  if nameF4 x.fName ≠ 0 then nameF4 x.fName else if kindB x = true then 8 else if (o.fSymbols.take i).any (nameP x) = true then 12 else
  if x.fDef ≠ -1 ∧ (x.fDef ≠ (aheadN x (o.fSymbols.take i) : Int) ∨ (mostN o x : Int) ≤ x.fDef) then 9 else if x.fLocal = true ∧ x.fDef = -1 then 13 else 0
def symE (o : ApiObject) (i : Nat) : Int := symX o i (o.fSymbols.getD i default)
theorem symE_at {o : ApiObject} {i : Nat} {x : ApiSymbol} (h : o.fSymbols[i]? = some x) : symE o i = symX o i x := by unfold symE; rw [List.getD_eq_getElem?_getD, h]; rfl
theorem ahead_succ (x : ApiSymbol) {l : List ApiSymbol} {k : Nat} {y : ApiSymbol} (h : l[k]? = some y) : aheadN x (l.take (k + 1)) = aheadN x (l.take k) + (if aheadP x y = true then 1 else 0) := by
  unfold aheadN
  rw [List.take_add_one, h, List.filter_append, List.length_append]
  congr 1
  show ((List.filter (aheadP x) [y]).length) = _
  rw [List.filter_cons]
  split <;> simp
theorem ahead_le (x : ApiSymbol) (l : List ApiSymbol) : aheadN x l ≤ l.length := List.length_filter_le _ _
set_option maxRecDepth 100000 in
set_option maxHeartbeats 2000000 in
theorem ref19_symbol {B : Base} {w : World} (hS : St B [] w) (o : ApiObject) (oc : List Value) (ho : kApiObject.K B.e o oc) (hg : GoodO o) (i : Nat) (hi : i < o.fSymbols.length) :
    CallsIn Fence.wide 0 Tryz.prog 126 #[.agg oc.toArray, .int .i64 (i : Int)] w (Ret B (fun _ : Unit => True) (fun _ => .int .i64 (symE o i)) (fun _ => [])) := by
  obtain ⟨A0, c0, A1, c1, A2, c2, rfl, m0, q0, m1, q1, m2, q2⟩ := kApiObject_open ho
  have hn0 := hg.syms
  have hn1 := hg.funcs
  have hn2 := hg.datas
  obtain ⟨x, hx⟩ : ∃ x, o.fSymbols[i]? = some x := ⟨_, List.getElem?_eq_getElem hi⟩
  have hvx := (hg.v.1.2 x (List.mem_of_getElem? hx))
  obtain ⟨e1, cs1, hE⟩ := q0.elm hx
  obtain rfl := kApiSymbol_open hE.K
  rw [symE_at hx]
  (refine enter Tryz.func126 rfl rfl hS ?_; simp only [List.zipIdx_cons, List.zipIdx_nil, List.map_cons, List.map_nil, Nat.reduceAdd, Nat.zero_add])
  refine wSeq (wRegion' (oBox rfl (by repeat constructor) (fun b2 => ?_)))
  refine oAssign rfl (oNil (thn_n (wSeq (wRegion' (oFld (n := 0) (m := 0) rfl rfl rfl (oLd rfl (by repeat constructor) rfl rfl ?_))))))
  refine oMove rfl (oIdxE rfl rfl (hE) (by omega) rfl rfl ?_)
  have hc14 := (hE).cell
  first | refine oLdX rfl hc14 rfl rfl ?_ | refine oLdXA rfl hc14 rfl (by repeat constructor) ?_ | (refine oLdR1 rfl (by repeat constructor) (by omega) rfl (fun u15 hu15 => ?_))
  refine oAlloc rfl (by repeat constructor) (fun b5 => ?_)
  refine oStA rfl rfl rfl rfl (by repeat constructor) (by rfl) ?_
  refine oNil (thn_n (wSeq (wSeq (wRegion' (oFld (n := 0) (m := 0) rfl rfl rfl (oLd rfl (by repeat constructor) rfl rfl ?_))))))
  (refine oCall rfl (by kernel_rfl) (fun w hS => frame hS (by repeat' constructor) (fun B' hB hS' => ref4_Check hS' x.fName)) ?_; rintro ⟨⟩ -)
  refine oAssign rfl (oNil (thn_n (wSeq (wRegion' (oMove rfl (oNeq rfl rfl (oNil (thn_n (wC (fun h20 => ?_) (fun h20 => ?_))))))))))
  ·
   refine wSeq (wRegion' (oMove rfl (oAssign rfl (oNil (thn_n (wRet (thn_r (fin_r (fi1 rfl ?_)))))))))
   exact ⟨(), trivial, by unfold symX; rw [if_pos h20]; rfl, Lh⟩
  refine wSkip (thn_n (wSeq (wCut (ι := Unit) (fun _ => [(1, .int .i64 (i : Int)), (2, .pointer (some ⟨b2, 0, none⟩)), (5, .pointer (some ⟨b5, 0, none⟩)), (51, .bool (kindB x))]) (fun _ => [blk b2 79 [.slice A0 o.fSymbols.length c0, .slice A1 o.fFuncs.length c1, .slice A2 o.fDatas.length c2], blk b5 91 [.string x.fName, .bool x.fLocal, .int .i64 x.fSort, .int .i64 x.fKind, .int .i64 x.fDef]]) (fun _ => True) ?_ ?_)))
  ·
   refine wRegion' (oFld (n := 2) (m := 2) rfl rfl rfl (oLd rfl (by repeat constructor) rfl rfl ?_))
   refine oNeq rfl rfl (oMove rfl ?_)
   first | refine oSplit (t := 25) rfl (fun h25 => ?_) (fun h25 => ?_) | refine oSplitB (t := 25) rfl (fun h25 => ?_) (fun h25 => ?_)
   ·
    refine oWant rfl rfl (oFld (n := 2) (m := 2) rfl rfl rfl (oWant rfl rfl (oLd rfl (by repeat constructor) rfl rfl ?_)))
    refine oWant rfl rfl (oNeq rfl rfl (oPickT rfl rfl (oMove rfl ?_)))
    first | refine oSplit (t := 30) rfl (fun h30 => ?_) (fun h30 => ?_) | refine oSplitB (t := 30) rfl (fun h30 => ?_) (fun h30 => ?_)
    ·
     refine oSkip rfl rfl rfl rfl (oSkip rfl rfl rfl rfl (oSkip rfl rfl rfl rfl (oSkip rfl rfl rfl rfl (oSkipU rfl rfl rfl (oSkipU rfl rfl rfl (oSkipU rfl rfl rfl (oSkipU rfl rfl rfl (oSkip rfl rfl rfl rfl (oPickT rfl rfl (oMove rfl (oSkip rfl rfl rfl rfl ?_)))))))))))
     refine oSkip rfl rfl rfl rfl (oSkip rfl rfl rfl rfl (oSkip rfl rfl rfl rfl (oSkipU rfl rfl rfl (oSkipU rfl rfl rfl (oSkipU rfl rfl rfl (oSkipU rfl rfl rfl (oSkip rfl rfl rfl rfl (oPickT rfl rfl (oNil (thn_n ?_))))))))))
     exact ⟨rfl, (), trivial, (by refine ⟨rfl, rfl, rfl, ?_, trivial⟩; show some (Value.bool _) = some (Value.bool _); unfold kindB; simp_all <;> first | done | exact Iff.rfl | rfl), Lh⟩
    refine oWant rfl rfl (oFld (n := 2) (m := 2) rfl rfl rfl (oWant rfl rfl (oLd rfl (by repeat constructor) rfl rfl ?_)))
    refine oWant rfl rfl (oEql rfl rfl (oWant rfl rfl (oMove rfl ?_)))
    first | refine oSplit (t := 34) rfl (fun h34 => ?_) (fun h34 => ?_) | refine oSplitB (t := 34) rfl (fun h34 => ?_) (fun h34 => ?_)
    ·
     refine oWant rfl rfl (oFld (n := 3) (m := 3) rfl rfl rfl (oWant rfl rfl (oLd rfl (by repeat constructor) rfl rfl ?_)))
     refine oWant rfl rfl ?_
     (refine oCall rfl (by kernel_rfl) (fun w hS => frame hS (by repeat' constructor) (fun B' hB hS' => ref5_Is hS' x.fKind)) ?_; rintro ⟨⟩ -)
     refine oWant rfl rfl ?_
     first | refine oNot rfl ?_ | refine oNotB rfl ?_
     refine oWant rfl rfl (oPickT rfl rfl (oPickF rfl rfl (oMove rfl ?_)))
     first | refine oSplit (t := 41) rfl (fun h41 => ?_) (fun h41 => ?_) | refine oSplitB (t := 41) rfl (fun h41 => ?_) (fun h41 => ?_)
     ·
      refine oSkip rfl rfl rfl rfl (oSkip rfl rfl rfl rfl (oSkip rfl rfl rfl rfl (oSkip rfl rfl rfl rfl (oSkipU rfl rfl rfl (oSkipU rfl rfl rfl (oSkipU rfl rfl rfl (oSkipU rfl rfl rfl (oSkip rfl rfl rfl rfl (oPickT rfl rfl (oNil (thn_n ?_)))))))))))
      exact ⟨rfl, (), trivial, (by refine ⟨rfl, rfl, rfl, ?_, trivial⟩; show some (Value.bool _) = some (Value.bool _); unfold kindB; simp_all <;> first | done | exact Iff.rfl | rfl), Lh⟩
     refine oWant rfl rfl (oFld (n := 2) (m := 2) rfl rfl rfl (oWant rfl rfl (oLd rfl (by repeat constructor) rfl rfl ?_)))
     refine oWant rfl rfl (oEql rfl rfl (oWant rfl rfl (oMove rfl ?_)))
     first | refine oSplit (t := 45) rfl (fun h45 => ?_) (fun h45 => ?_) | refine oSplitB (t := 45) rfl (fun h45 => ?_) (fun h45 => ?_)
     ·
      refine oWant rfl rfl (oFld (n := 3) (m := 3) rfl rfl rfl (oWant rfl rfl (oLd rfl (by repeat constructor) rfl rfl ?_)))
      refine oWant rfl rfl ?_
      (refine oCall rfl (by kernel_rfl) (fun w hS => frame hS (by repeat' constructor) (fun B' hB hS' => ref5_Text hS' x.fKind hvx.2.2.2.1)) ?_; rintro ⟨⟩ -)
      refine oWant rfl rfl (oSEq rfl rfl (oWant rfl rfl (oPickT rfl rfl (oPickF rfl rfl (oNil (thn_n ?_))))))
      exact ⟨rfl, (), trivial, (by refine ⟨rfl, rfl, rfl, ?_, trivial⟩; show some (Value.bool _) = some (Value.bool _); unfold kindB; simp_all <;> first | done | exact Iff.rfl | rfl), Lh⟩
     refine oSkip rfl rfl rfl rfl (oSkip rfl rfl rfl rfl (oSkip rfl rfl rfl rfl (oSkip rfl rfl rfl rfl (oWant rfl rfl (oPickF rfl rfl (oPickF rfl rfl (oNil (thn_n ?_))))))))
     exact ⟨rfl, (), trivial, (by refine ⟨rfl, rfl, rfl, ?_, trivial⟩; show some (Value.bool _) = some (Value.bool _); unfold kindB; simp_all <;> first | done | exact Iff.rfl | rfl), Lh⟩
    refine oSkip rfl rfl rfl rfl (oSkip rfl rfl rfl rfl (oSkip rfl rfl rfl rfl (oSkip rfl rfl rfl rfl (oWant rfl rfl (oPickF rfl rfl (oPickF rfl rfl (oMove rfl (oWant rfl rfl (oFld (n := 2) (m := 2) rfl rfl rfl (oWant rfl rfl (oLd rfl (by repeat constructor) rfl rfl ?_)))))))))))
    refine oWant rfl rfl (oEql rfl rfl (oWant rfl rfl (oMove rfl ?_)))
    first | refine oSplit (t := 45) rfl (fun h45 => ?_) (fun h45 => ?_) | refine oSplitB (t := 45) rfl (fun h45 => ?_) (fun h45 => ?_)
    ·
     refine oWant rfl rfl (oFld (n := 3) (m := 3) rfl rfl rfl (oWant rfl rfl (oLd rfl (by repeat constructor) rfl rfl ?_)))
     refine oWant rfl rfl ?_
     (refine oCall rfl (by kernel_rfl) (fun w hS => frame hS (by repeat' constructor) (fun B' hB hS' => ref5_Text hS' x.fKind hvx.2.2.2.1)) ?_; rintro ⟨⟩ -)
     refine oWant rfl rfl (oSEq rfl rfl (oWant rfl rfl (oPickT rfl rfl (oPickF rfl rfl (oNil (thn_n ?_))))))
     exact ⟨rfl, (), trivial, (by refine ⟨rfl, rfl, rfl, ?_, trivial⟩; show some (Value.bool _) = some (Value.bool _); unfold kindB; simp_all <;> first | done | exact Iff.rfl | rfl), Lh⟩
    refine oSkip rfl rfl rfl rfl (oSkip rfl rfl rfl rfl (oSkip rfl rfl rfl rfl (oSkip rfl rfl rfl rfl (oWant rfl rfl (oPickF rfl rfl (oPickF rfl rfl (oNil (thn_n ?_))))))))
    exact ⟨rfl, (), trivial, (by refine ⟨rfl, rfl, rfl, ?_, trivial⟩; show some (Value.bool _) = some (Value.bool _); unfold kindB; simp_all <;> first | done | exact Iff.rfl | rfl), Lh⟩
   refine oSkip rfl rfl rfl rfl (oSkip rfl rfl rfl rfl (oSkip rfl rfl rfl rfl (oPickF rfl rfl (oMove rfl (oWant rfl rfl (oFld (n := 2) (m := 2) rfl rfl rfl (oWant rfl rfl (oLd rfl (by repeat constructor) rfl rfl ?_))))))))
   refine oWant rfl rfl (oEql rfl rfl (oWant rfl rfl (oMove rfl ?_)))
   first | refine oSplit (t := 34) rfl (fun h34 => ?_) (fun h34 => ?_) | refine oSplitB (t := 34) rfl (fun h34 => ?_) (fun h34 => ?_)
   ·
    refine oWant rfl rfl (oFld (n := 3) (m := 3) rfl rfl rfl (oWant rfl rfl (oLd rfl (by repeat constructor) rfl rfl ?_)))
    refine oWant rfl rfl ?_
    (refine oCall rfl (by kernel_rfl) (fun w hS => frame hS (by repeat' constructor) (fun B' hB hS' => ref5_Is hS' x.fKind)) ?_; rintro ⟨⟩ -)
    refine oWant rfl rfl ?_
    first | refine oNot rfl ?_ | refine oNotB rfl ?_
    refine oWant rfl rfl (oPickT rfl rfl (oPickF rfl rfl (oMove rfl ?_)))
    first | refine oSplit (t := 41) rfl (fun h41 => ?_) (fun h41 => ?_) | refine oSplitB (t := 41) rfl (fun h41 => ?_) (fun h41 => ?_)
    ·
     refine oSkip rfl rfl rfl rfl (oSkip rfl rfl rfl rfl (oSkip rfl rfl rfl rfl (oSkip rfl rfl rfl rfl (oSkipU rfl rfl rfl (oSkipU rfl rfl rfl (oSkipU rfl rfl rfl (oSkipU rfl rfl rfl (oSkip rfl rfl rfl rfl (oPickT rfl rfl (oNil (thn_n ?_)))))))))))
     exact ⟨rfl, (), trivial, (by refine ⟨rfl, rfl, rfl, ?_, trivial⟩; show some (Value.bool _) = some (Value.bool _); unfold kindB; simp_all <;> first | done | exact Iff.rfl | rfl), Lh⟩
    refine oWant rfl rfl (oFld (n := 2) (m := 2) rfl rfl rfl (oWant rfl rfl (oLd rfl (by repeat constructor) rfl rfl ?_)))
    refine oWant rfl rfl (oEql rfl rfl (oWant rfl rfl (oMove rfl ?_)))
    first | refine oSplit (t := 45) rfl (fun h45 => ?_) (fun h45 => ?_) | refine oSplitB (t := 45) rfl (fun h45 => ?_) (fun h45 => ?_)
    ·
     refine oWant rfl rfl (oFld (n := 3) (m := 3) rfl rfl rfl (oWant rfl rfl (oLd rfl (by repeat constructor) rfl rfl ?_)))
     refine oWant rfl rfl ?_
     (refine oCall rfl (by kernel_rfl) (fun w hS => frame hS (by repeat' constructor) (fun B' hB hS' => ref5_Text hS' x.fKind hvx.2.2.2.1)) ?_; rintro ⟨⟩ -)
     refine oWant rfl rfl (oSEq rfl rfl (oWant rfl rfl (oPickT rfl rfl (oPickF rfl rfl (oNil (thn_n ?_))))))
     exact ⟨rfl, (), trivial, (by refine ⟨rfl, rfl, rfl, ?_, trivial⟩; show some (Value.bool _) = some (Value.bool _); unfold kindB; simp_all <;> first | done | exact Iff.rfl | rfl), Lh⟩
    refine oSkip rfl rfl rfl rfl (oSkip rfl rfl rfl rfl (oSkip rfl rfl rfl rfl (oSkip rfl rfl rfl rfl (oWant rfl rfl (oPickF rfl rfl (oPickF rfl rfl (oNil (thn_n ?_))))))))
    exact ⟨rfl, (), trivial, (by refine ⟨rfl, rfl, rfl, ?_, trivial⟩; show some (Value.bool _) = some (Value.bool _); unfold kindB; simp_all <;> first | done | exact Iff.rfl | rfl), Lh⟩
   refine oSkip rfl rfl rfl rfl (oSkip rfl rfl rfl rfl (oSkip rfl rfl rfl rfl (oSkip rfl rfl rfl rfl (oWant rfl rfl (oPickF rfl rfl (oPickF rfl rfl (oMove rfl (oWant rfl rfl (oFld (n := 2) (m := 2) rfl rfl rfl (oWant rfl rfl (oLd rfl (by repeat constructor) rfl rfl ?_)))))))))))
   refine oWant rfl rfl (oEql rfl rfl (oWant rfl rfl (oMove rfl ?_)))
   first | refine oSplit (t := 45) rfl (fun h45 => ?_) (fun h45 => ?_) | refine oSplitB (t := 45) rfl (fun h45 => ?_) (fun h45 => ?_)
   ·
    refine oWant rfl rfl (oFld (n := 3) (m := 3) rfl rfl rfl (oWant rfl rfl (oLd rfl (by repeat constructor) rfl rfl ?_)))
    refine oWant rfl rfl ?_
    (refine oCall rfl (by kernel_rfl) (fun w hS => frame hS (by repeat' constructor) (fun B' hB hS' => ref5_Text hS' x.fKind hvx.2.2.2.1)) ?_; rintro ⟨⟩ -)
    refine oWant rfl rfl (oSEq rfl rfl (oWant rfl rfl (oPickT rfl rfl (oPickF rfl rfl (oNil (thn_n ?_))))))
    exact ⟨rfl, (), trivial, (by refine ⟨rfl, rfl, rfl, ?_, trivial⟩; show some (Value.bool _) = some (Value.bool _); unfold kindB; simp_all <;> first | done | exact Iff.rfl | rfl), Lh⟩
   refine oSkip rfl rfl rfl rfl (oSkip rfl rfl rfl rfl (oSkip rfl rfl rfl rfl (oSkip rfl rfl rfl rfl (oWant rfl rfl (oPickF rfl rfl (oPickF rfl rfl (oNil (thn_n ?_))))))))
   exact ⟨rfl, (), trivial, (by refine ⟨rfl, rfl, rfl, ?_, trivial⟩; show some (Value.bool _) = some (Value.bool _); unfold kindB; simp_all <;> first | done | exact Iff.rfl | rfl), Lh⟩
  rintro ⟨⟩ -
  try dsimp only
  refine wC (fun h51 => ?_) (fun h51 => ?_)
  ·
   refine wSeq (wRegion' (oAssign rfl (oNil (thn_n (wRet (thn_r (fin_r (fi1 rfl ?_))))))))
   exact ⟨(), trivial, by unfold symX; rw [if_neg h20, if_pos h51]; rfl, Lh⟩
  have hkb : ¬ kindB x = true := by rw [h51]; simp
  refine wSkip (thn_n (wSeq (wSeq (wRegion' (oAssign rfl (oNil (thn_n (wBlock (wLoop (ι := Nat) (fun k => [(1, .int .i64 (i : Int)), (2, .pointer (some ⟨b2, 0, none⟩)), (5, .pointer (some ⟨b5, 0, none⟩)), (7, .int .i64 (k : Int))]) (fun k => [blk b2 79 [.slice A0 o.fSymbols.length c0, .slice A1 o.fFuncs.length c1, .slice A2 o.fDatas.length c2], blk b5 91 [.string x.fName, .bool x.fLocal, .int .i64 x.fSort, .int .i64 x.fKind, .int .i64 x.fDef]]) (fun k => k ≤ i ∧ ∀ y ∈ o.fSymbols.take k, nameP x y = false) (fun k => i - k) 0 ?_ cv Lh ?_)))))))))
  ·
   exact ⟨Nat.zero_le _, by simp⟩
  rintro k ⟨hk, hs⟩
  try dsimp only
  refine wSeq (wSeq (wRegion' (oMove rfl (oMove rfl (oLss rfl rfl (oNil (thn_n (wC (fun h54 => ?_) (fun h54 => ?_)))))))))
  ·
   obtain ⟨y, hy⟩ : ∃ y, o.fSymbols[k]? = some y := ⟨_, List.getElem?_eq_getElem (by omega)⟩
   have hyi : (o.fSymbols.take i)[k]? = some y := by rw [List.getElem?_take, if_pos (by omega), hy]
   obtain ⟨e2, cs2, hE2⟩ := q0.elm hy
   obtain rfl := kApiSymbol_open hE2.K
   refine wSkip (thn_n (wSeq (wBlock (wSeq (wDraw2 rfl rfl [2] [0, 1, 3, 4, 5, 6, 7] 8 (by kernel_rfl) rfl rfl rfl (fun w0 => ?_))))))
   refine oFld (n := 0) (m := 0) rfl rfl rfl (oLd rfl (by repeat constructor) rfl rfl ?_)
   refine oIdxE rfl rfl (hE2) (by omega) rfl rfl ?_
   have hc60 := (hE2).cell
   first | refine oFldX (n := 0) (m := 0) rfl rfl rfl ?_ | refine oFldR (n := 0) (m := 0) rfl rfl rfl ?_ | refine oFldD (n := 0) (m := 0) rfl rfl rfl ?_
   first | refine oLdX rfl hc60 rfl rfl ?_ | refine oLdXA rfl hc60 rfl (by repeat constructor) ?_ | (refine oLdR1 rfl (by repeat constructor) (by omega) rfl (fun u62 hu62 => ?_))
   refine oFld (n := 0) (m := 0) rfl rfl rfl (oLd rfl (by repeat constructor) rfl rfl ?_)
   refine oHead (oSEq rfl rfl (oNilT (thn_n (wC (fun h65 => ?_) (fun h65 => ?_)))))
   ·
    refine wSeq (wRegion' (oAssign rfl (oNil (thn_n (wRet (blk_r (thn_r (thn_r (blk_r (thn_r (fin_r ?_)))))))))))
    refine fi1 rfl ?_
    exact ⟨(), trivial, by unfold symX; rw [if_neg h20, if_neg hkb, if_pos (any_hit hyi (decide_eq_true h65))]; rfl, Lh⟩
   refine wSkip (blk_n (thn_n (wRegion' (oMove rfl (oSucc rfl rfl (by omega) ?_)))))
   refine oAssign rfl (oNil (thn_n ?_))
   exact ⟨rfl, k + 1, ⟨by omega, take_not hs hy (decide_eq_false h65)⟩, by omega, cv, Lh⟩
  obtain rfl : i = k := by omega
  refine wExit (thn_x (thn_x (blk_x (thn_n (wSeq (wRegion' (oFld (n := 1) (m := 1) rfl rfl rfl (oLd rfl (by repeat constructor) rfl rfl ?_))))))))
  refine oLenS rfl rfl (oAssign rfl (oNil (thn_n (wSeq (wSeq (wRegion' (oFld (n := 2) (m := 2) rfl rfl rfl (oLd rfl (by repeat constructor) rfl rfl ?_))))))))
  refine oEql rfl rfl (oNil (thn_n (wC (fun h71 => ?_) (fun h71 => ?_))))
  ·
   have hmo : mostN o x = o.fDatas.length := by unfold mostN; rw [if_pos (by omega)]
   refine wRegion' (oFld (n := 2) (m := 2) rfl rfl rfl (oLd rfl (by repeat constructor) rfl rfl ?_))
   refine oLenS rfl rfl (oAssign rfl (oNil (thn_n (wSeq (wRegion' (oAssign rfl (oSet (t := 8) (v' := .int .i64 (mostN o x : Int)) rfl (by rw [hmo]) ?_)))))))
   refine oNil (thn_n (wSeq (wSeq (wRegion' (oAssign rfl (oNil (thn_n (wBlock ?_))))))))
   refine wLoop (ι := Nat) (fun k => [(1, .int .i64 (i : Int)), (2, .pointer (some ⟨b2, 0, none⟩)), (5, .pointer (some ⟨b5, 0, none⟩)), (8, .int .i64 (mostN o x : Int)), (9, .int .i64 (aheadN x (o.fSymbols.take k) : Int)), (10, .int .i64 (k : Int))]) (fun k => [blk b2 79 [.slice A0 o.fSymbols.length c0, .slice A1 o.fFuncs.length c1, .slice A2 o.fDatas.length c2], blk b5 91 [.string x.fName, .bool x.fLocal, .int .i64 x.fSort, .int .i64 x.fKind, .int .i64 x.fDef]]) (fun k => k ≤ i) (fun k => i - k) 0 ?_ cv (by skip; exact Lh) ?_
   ·
    exact Nat.zero_le _
   rintro k hk
   have hle := ahead_le x (o.fSymbols.take k)
   rw [List.length_take] at hle
   try dsimp only
   refine wSeq (wSeq (wRegion' (oMove rfl (oMove rfl (oLss rfl rfl (oNil (thn_n (wC (fun h77 => ?_) (fun h77 => ?_)))))))))
   ·
    obtain ⟨y, hy⟩ : ∃ y, o.fSymbols[k]? = some y := ⟨_, List.getElem?_eq_getElem (by omega)⟩
    obtain ⟨e2, cs2, hE2⟩ := q0.elm hy
    obtain rfl := kApiSymbol_open hE2.K
    refine wSkip (thn_n (wSeq (wBlock (wSeq (wDraw2 rfl rfl [2] [0, 1, 3, 4, 5, 6, 7, 8, 9, 10, 11, 12, 13, 14, 15, 16] 17 (by kernel_rfl) rfl rfl rfl (fun w0 => ?_))))))
    refine oFld (n := 0) (m := 0) rfl rfl rfl (oLd rfl (by repeat constructor) rfl rfl ?_)
    refine oIdxE rfl rfl (hE2) (by omega) rfl rfl ?_
    have hc83 := (hE2).cell
    first | refine oFldX (n := 2) (m := 2) rfl rfl rfl ?_ | refine oFldR (n := 2) (m := 2) rfl rfl rfl ?_ | refine oFldD (n := 2) (m := 2) rfl rfl rfl ?_
    first | refine oLdX rfl hc83 rfl rfl ?_ | refine oLdXA rfl hc83 rfl (by repeat constructor) ?_ | (refine oLdR1 rfl (by repeat constructor) (by omega) rfl (fun u85 hu85 => ?_))
    refine oFld (n := 2) (m := 2) rfl rfl rfl (oLd rfl (by repeat constructor) rfl rfl ?_)
    refine oEql rfl rfl (oMove rfl ?_)
    first | refine oSplit (t := 89) rfl (fun h89 => ?_) (fun h89 => ?_) | refine oSplitB (t := 89) rfl (fun h89 => ?_) (fun h89 => ?_)
    ·
     refine oWant rfl rfl (oFld (n := 0) (m := 0) rfl rfl rfl (oWant rfl rfl (oLd rfl (by repeat constructor) rfl rfl ?_)))
     refine oWant rfl rfl (oMove rfl (oWant rfl rfl (oIdxE rfl rfl (hE2) (by omega) rfl rfl ?_)))
     have hc93 := (hE2).cell
     refine oWant rfl rfl ?_
     first | refine oFldX (n := 4) (m := 4) rfl rfl rfl ?_ | refine oFldR (n := 4) (m := 4) rfl rfl rfl ?_ | refine oFldD (n := 4) (m := 4) rfl rfl rfl ?_
     refine oWant rfl rfl ?_
     first | refine oLdX rfl hc93 rfl rfl ?_ | refine oLdXA rfl hc93 rfl (by repeat constructor) ?_ | (refine oLdR1 rfl (by repeat constructor) (by omega) rfl (fun u95 hu95 => ?_))
     refine oWant rfl rfl (oNeq rfl rfl (oHead (oPickT rfl rfl (oNilT (thn_n (wC (fun h97 => ?_) (fun h97 => ?_)))))))
     ·
      refine wRegion' (oMove rfl (oSucc rfl rfl (by omega) ?_))
      refine oAssign rfl ?_
      skip
      refine oNil (blk_n (thn_n (wRegion' (oMove rfl (oSucc rfl rfl (by omega) ?_)))))
      refine oAssign rfl (oNil (thn_n ?_))
      exact ⟨rfl, k + 1, by omega, by omega, by rw [ahead_succ x hy, if_pos (by unfold aheadP; simp_all)]; exact cv, Lh⟩
     refine wSkip (blk_n (thn_n (wRegion' (oMove rfl (oSucc rfl rfl (by omega) ?_)))))
     refine oAssign rfl (oNil (thn_n ?_))
     exact ⟨rfl, k + 1, by omega, by omega, by rw [ahead_succ x hy, if_neg (by unfold aheadP; simp_all)]; exact cv, Lh⟩
    refine oSkip rfl rfl rfl rfl (oSkip rfl rfl rfl rfl (oSkip rfl rfl rfl rfl (oSkip rfl rfl rfl rfl (oSkip rfl rfl rfl rfl (oSkip rfl rfl rfl rfl (oSkip rfl rfl rfl rfl (oHead (oPickF rfl rfl (oNilT (thn_n ?_))))))))))
    first | refine wCondF rfl ?_ | refine wCondFd h97 rfl ?_ | refine wCondFb h97 rfl ?_
    refine wSkip (blk_n (thn_n (wRegion' (oMove rfl (oSucc rfl rfl (by omega) ?_)))))
    refine oAssign rfl (oNil (thn_n ?_))
    exact ⟨rfl, k + 1, by omega, by omega, by rw [ahead_succ x hy, if_neg (by unfold aheadP; simp_all)]; exact cv, Lh⟩
   obtain rfl : i = k := by omega
   have hany : ¬ (o.fSymbols.take i).any (nameP x) = true := by rw [any_not hs]; simp
   refine wExit (thn_x (thn_x (blk_x (thn_n (wSeq (wSeq (wRegion' (oFld (n := 4) (m := 4) rfl rfl rfl (oLd rfl (by repeat constructor) rfl rfl ?_)))))))))
   refine oNeq rfl rfl (oMove rfl ?_)
   first | refine oSplit (t := 103) rfl (fun h103 => ?_) (fun h103 => ?_) | refine oSplitB (t := 103) rfl (fun h103 => ?_) (fun h103 => ?_)
   ·
    refine oWant rfl rfl (oFld (n := 4) (m := 4) rfl rfl rfl (oWant rfl rfl (oLd rfl (by repeat constructor) rfl rfl ?_)))
    refine oWant rfl rfl (oMove rfl (oWant rfl rfl (oNeq rfl rfl (oWant rfl rfl (oMove rfl ?_)))))
    first | refine oSplit (t := 108) rfl (fun h108 => ?_) (fun h108 => ?_) | refine oSplitB (t := 108) rfl (fun h108 => ?_) (fun h108 => ?_)
    ·
     refine oSkip rfl rfl rfl rfl (oSkip rfl rfl rfl rfl (oSkip rfl rfl rfl rfl (oSkip rfl rfl rfl rfl (oWant rfl rfl (oPickT rfl rfl (oPickT rfl rfl (oNil (thn_n ?_))))))))
     first | refine wCondT rfl ?_ | refine wCondTd h114 rfl ?_ | refine wCondTb h114 rfl ?_
     refine wSeq (wRegion' (oAssign rfl (oNil (thn_n (wRet (thn_r (fin_r (fi1 rfl ?_))))))))
     exact ⟨(), trivial, by unfold symX; rw [if_neg h20, if_neg hkb, if_neg hany, if_pos (by simp_all <;> omega)]; rfl, Lh⟩
    refine oWant rfl rfl (oFld (n := 4) (m := 4) rfl rfl rfl (oWant rfl rfl (oLd rfl (by repeat constructor) rfl rfl ?_)))
    refine oWant rfl rfl (oMove rfl (oWant rfl rfl (oGeq rfl rfl (oWant rfl rfl (oPickF rfl rfl (oPickT rfl rfl (oNil (thn_n (wC (fun h114 => ?_) (fun h114 => ?_))))))))))
    ·
     refine wSeq (wRegion' (oAssign rfl (oNil (thn_n (wRet (thn_r (fin_r (fi1 rfl ?_))))))))
     exact ⟨(), trivial, by unfold symX; rw [if_neg h20, if_neg hkb, if_neg hany, if_pos (by simp_all <;> omega)]; rfl, Lh⟩
    refine wSkip (thn_n (wSeq (wSeq (wRegion' (oFld (n := 1) (m := 1) rfl rfl rfl (oLd rfl (by repeat constructor) rfl rfl ?_))))))
    refine oMove rfl ?_
    first | refine oSplit (t := 117) rfl (fun h117 => ?_) (fun h117 => ?_) | refine oSplitB (t := 117) rfl (fun h117 => ?_) (fun h117 => ?_)
    ·
     refine oWant rfl rfl (oFld (n := 4) (m := 4) rfl rfl rfl (oWant rfl rfl (oLd rfl (by repeat constructor) rfl rfl ?_)))
     refine oWant rfl rfl (oEql rfl rfl (oPickT rfl rfl (oNil (thn_n (wC (fun h121 => ?_) (fun h121 => ?_))))))
     ·
      refine wSeq (wRegion' (oAssign rfl (oNil (thn_n (wRet (thn_r (fin_r (fi1 rfl ?_))))))))
      have hnd : ¬ (x.fDef ≠ -1 ∧ (x.fDef ≠ (aheadN x (o.fSymbols.take i) : Int) ∨ (mostN o x : Int) ≤ x.fDef)) := by simp_all <;> omega
      exact ⟨(), trivial, by unfold symX; rw [if_neg h20, if_neg hkb, if_neg hany, if_neg hnd, if_pos (by simp_all <;> omega)]; rfl, Lh⟩
     refine wSkip (thn_n (wSeq (wRegion' (oAssign rfl (oNil (thn_n (wRet (fin_r (fi1 rfl ?_)))))))))
     have hnd : ¬ (x.fDef ≠ -1 ∧ (x.fDef ≠ (aheadN x (o.fSymbols.take i) : Int) ∨ (mostN o x : Int) ≤ x.fDef)) := by simp_all <;> omega
     exact ⟨(), trivial, by unfold symX; rw [if_neg h20, if_neg hkb, if_neg hany, if_neg hnd, if_neg (by simp_all <;> omega)]; rfl, Lh⟩
    refine oSkip rfl rfl rfl rfl (oSkip rfl rfl rfl rfl (oSkip rfl rfl rfl rfl (oPickF rfl rfl (oNil (thn_n ?_)))))
    first | refine wCondF rfl ?_ | refine wCondFd h121 rfl ?_ | refine wCondFb h121 rfl ?_
    refine wSkip (thn_n (wSeq (wRegion' (oAssign rfl (oNil (thn_n (wRet (fin_r (fi1 rfl ?_)))))))))
    have hnd : ¬ (x.fDef ≠ -1 ∧ (x.fDef ≠ (aheadN x (o.fSymbols.take i) : Int) ∨ (mostN o x : Int) ≤ x.fDef)) := by simp_all <;> omega
    exact ⟨(), trivial, by unfold symX; rw [if_neg h20, if_neg hkb, if_neg hany, if_neg hnd, if_neg (by simp_all <;> omega)]; rfl, Lh⟩
   refine oSkip rfl rfl rfl rfl (oSkip rfl rfl rfl rfl (oSkip rfl rfl rfl rfl (oSkip rfl rfl rfl rfl (oSkip rfl rfl rfl rfl (oSkipU rfl rfl rfl (oSkipU rfl rfl rfl (oSkipU rfl rfl rfl (oSkipU rfl rfl rfl (oSkip rfl rfl rfl rfl (oPickF rfl rfl (oNil ?_)))))))))))
   refine thn_n ?_
   first | refine wCondF rfl ?_ | refine wCondFd h114 rfl ?_ | refine wCondFb h114 rfl ?_
   refine wSkip (thn_n (wSeq (wSeq (wRegion' (oFld (n := 1) (m := 1) rfl rfl rfl (oLd rfl (by repeat constructor) rfl rfl ?_))))))
   refine oMove rfl ?_
   first | refine oSplit (t := 117) rfl (fun h117 => ?_) (fun h117 => ?_) | refine oSplitB (t := 117) rfl (fun h117 => ?_) (fun h117 => ?_)
   ·
    refine oWant rfl rfl (oFld (n := 4) (m := 4) rfl rfl rfl (oWant rfl rfl (oLd rfl (by repeat constructor) rfl rfl ?_)))
    refine oWant rfl rfl (oEql rfl rfl (oPickT rfl rfl (oNil (thn_n (wC (fun h121 => ?_) (fun h121 => ?_))))))
    ·
     refine wSeq (wRegion' (oAssign rfl (oNil (thn_n (wRet (thn_r (fin_r (fi1 rfl ?_))))))))
     have hnd : ¬ (x.fDef ≠ -1 ∧ (x.fDef ≠ (aheadN x (o.fSymbols.take i) : Int) ∨ (mostN o x : Int) ≤ x.fDef)) := by simp_all <;> omega
     exact ⟨(), trivial, by unfold symX; rw [if_neg h20, if_neg hkb, if_neg hany, if_neg hnd, if_pos (by simp_all <;> omega)]; rfl, Lh⟩
    refine wSkip (thn_n (wSeq (wRegion' (oAssign rfl (oNil (thn_n (wRet (fin_r (fi1 rfl ?_)))))))))
    have hnd : ¬ (x.fDef ≠ -1 ∧ (x.fDef ≠ (aheadN x (o.fSymbols.take i) : Int) ∨ (mostN o x : Int) ≤ x.fDef)) := by simp_all <;> omega
    exact ⟨(), trivial, by unfold symX; rw [if_neg h20, if_neg hkb, if_neg hany, if_neg hnd, if_neg (by simp_all <;> omega)]; rfl, Lh⟩
   refine oSkip rfl rfl rfl rfl (oSkip rfl rfl rfl rfl (oSkip rfl rfl rfl rfl (oPickF rfl rfl (oNil (thn_n ?_)))))
   first | refine wCondF rfl ?_ | refine wCondFd h121 rfl ?_ | refine wCondFb h121 rfl ?_
   refine wSkip (thn_n (wSeq (wRegion' (oAssign rfl (oNil (thn_n (wRet (fin_r (fi1 rfl ?_)))))))))
   have hnd : ¬ (x.fDef ≠ -1 ∧ (x.fDef ≠ (aheadN x (o.fSymbols.take i) : Int) ∨ (mostN o x : Int) ≤ x.fDef)) := by simp_all <;> omega
   exact ⟨(), trivial, by unfold symX; rw [if_neg h20, if_neg hkb, if_neg hany, if_neg hnd, if_neg (by simp_all <;> omega)]; rfl, Lh⟩
  have hmo : mostN o x = o.fFuncs.length := by unfold mostN; rw [if_neg (by omega)]
  refine wSkip (thn_n (wSeq (wRegion' (oAssign rfl (oSet (t := 8) (v' := .int .i64 (mostN o x : Int)) rfl (by rw [hmo]) ?_)))))
  refine oNil (thn_n (wSeq (wSeq (wRegion' (oAssign rfl (oNil (thn_n (wBlock ?_))))))))
  refine wLoop (ι := Nat) (fun k => [(1, .int .i64 (i : Int)), (2, .pointer (some ⟨b2, 0, none⟩)), (5, .pointer (some ⟨b5, 0, none⟩)), (8, .int .i64 (mostN o x : Int)), (9, .int .i64 (aheadN x (o.fSymbols.take k) : Int)), (10, .int .i64 (k : Int))]) (fun k => [blk b2 79 [.slice A0 o.fSymbols.length c0, .slice A1 o.fFuncs.length c1, .slice A2 o.fDatas.length c2], blk b5 91 [.string x.fName, .bool x.fLocal, .int .i64 x.fSort, .int .i64 x.fKind, .int .i64 x.fDef]]) (fun k => k ≤ i) (fun k => i - k) 0 ?_ cv (by skip; exact Lh) ?_
  ·
   exact Nat.zero_le _
  rintro k hk
  have hle := ahead_le x (o.fSymbols.take k)
  rw [List.length_take] at hle
  try dsimp only
  refine wSeq (wSeq (wRegion' (oMove rfl (oMove rfl (oLss rfl rfl (oNil (thn_n (wC (fun h77 => ?_) (fun h77 => ?_)))))))))
  ·
   obtain ⟨y, hy⟩ : ∃ y, o.fSymbols[k]? = some y := ⟨_, List.getElem?_eq_getElem (by omega)⟩
   obtain ⟨e2, cs2, hE2⟩ := q0.elm hy
   obtain rfl := kApiSymbol_open hE2.K
   refine wSkip (thn_n (wSeq (wBlock (wSeq (wDraw2 rfl rfl [2] [0, 1, 3, 4, 5, 6, 7, 8, 9, 10, 11, 12, 13, 14, 15, 16] 17 (by kernel_rfl) rfl rfl rfl (fun w0 => ?_))))))
   refine oFld (n := 0) (m := 0) rfl rfl rfl (oLd rfl (by repeat constructor) rfl rfl ?_)
   refine oIdxE rfl rfl (hE2) (by omega) rfl rfl ?_
   have hc83 := (hE2).cell
   first | refine oFldX (n := 2) (m := 2) rfl rfl rfl ?_ | refine oFldR (n := 2) (m := 2) rfl rfl rfl ?_ | refine oFldD (n := 2) (m := 2) rfl rfl rfl ?_
   first | refine oLdX rfl hc83 rfl rfl ?_ | refine oLdXA rfl hc83 rfl (by repeat constructor) ?_ | (refine oLdR1 rfl (by repeat constructor) (by omega) rfl (fun u85 hu85 => ?_))
   refine oFld (n := 2) (m := 2) rfl rfl rfl (oLd rfl (by repeat constructor) rfl rfl ?_)
   refine oEql rfl rfl (oMove rfl ?_)
   first | refine oSplit (t := 89) rfl (fun h89 => ?_) (fun h89 => ?_) | refine oSplitB (t := 89) rfl (fun h89 => ?_) (fun h89 => ?_)
   ·
    refine oWant rfl rfl (oFld (n := 0) (m := 0) rfl rfl rfl (oWant rfl rfl (oLd rfl (by repeat constructor) rfl rfl ?_)))
    refine oWant rfl rfl (oMove rfl (oWant rfl rfl (oIdxE rfl rfl (hE2) (by omega) rfl rfl ?_)))
    have hc93 := (hE2).cell
    refine oWant rfl rfl ?_
    first | refine oFldX (n := 4) (m := 4) rfl rfl rfl ?_ | refine oFldR (n := 4) (m := 4) rfl rfl rfl ?_ | refine oFldD (n := 4) (m := 4) rfl rfl rfl ?_
    refine oWant rfl rfl ?_
    first | refine oLdX rfl hc93 rfl rfl ?_ | refine oLdXA rfl hc93 rfl (by repeat constructor) ?_ | (refine oLdR1 rfl (by repeat constructor) (by omega) rfl (fun u95 hu95 => ?_))
    refine oWant rfl rfl (oNeq rfl rfl (oHead (oPickT rfl rfl (oNilT (thn_n (wC (fun h97 => ?_) (fun h97 => ?_)))))))
    ·
     refine wRegion' (oMove rfl (oSucc rfl rfl (by omega) ?_))
     refine oAssign rfl ?_
     skip
     refine oNil (blk_n (thn_n (wRegion' (oMove rfl (oSucc rfl rfl (by omega) ?_)))))
     refine oAssign rfl (oNil (thn_n ?_))
     exact ⟨rfl, k + 1, by omega, by omega, by rw [ahead_succ x hy, if_pos (by unfold aheadP; simp_all)]; exact cv, Lh⟩
    refine wSkip (blk_n (thn_n (wRegion' (oMove rfl (oSucc rfl rfl (by omega) ?_)))))
    refine oAssign rfl (oNil (thn_n ?_))
    exact ⟨rfl, k + 1, by omega, by omega, by rw [ahead_succ x hy, if_neg (by unfold aheadP; simp_all)]; exact cv, Lh⟩
   refine oSkip rfl rfl rfl rfl (oSkip rfl rfl rfl rfl (oSkip rfl rfl rfl rfl (oSkip rfl rfl rfl rfl (oSkip rfl rfl rfl rfl (oSkip rfl rfl rfl rfl (oSkip rfl rfl rfl rfl (oHead (oPickF rfl rfl (oNilT (thn_n ?_))))))))))
   first | refine wCondF rfl ?_ | refine wCondFd h97 rfl ?_ | refine wCondFb h97 rfl ?_
   refine wSkip (blk_n (thn_n (wRegion' (oMove rfl (oSucc rfl rfl (by omega) ?_)))))
   refine oAssign rfl (oNil (thn_n ?_))
   exact ⟨rfl, k + 1, by omega, by omega, by rw [ahead_succ x hy, if_neg (by unfold aheadP; simp_all)]; exact cv, Lh⟩
  obtain rfl : i = k := by omega
  have hany : ¬ (o.fSymbols.take i).any (nameP x) = true := by rw [any_not hs]; simp
  refine wExit (thn_x (thn_x (blk_x (thn_n (wSeq (wSeq (wRegion' (oFld (n := 4) (m := 4) rfl rfl rfl (oLd rfl (by repeat constructor) rfl rfl ?_)))))))))
  refine oNeq rfl rfl (oMove rfl ?_)
  first | refine oSplit (t := 103) rfl (fun h103 => ?_) (fun h103 => ?_) | refine oSplitB (t := 103) rfl (fun h103 => ?_) (fun h103 => ?_)
  ·
   refine oWant rfl rfl (oFld (n := 4) (m := 4) rfl rfl rfl (oWant rfl rfl (oLd rfl (by repeat constructor) rfl rfl ?_)))
   refine oWant rfl rfl (oMove rfl (oWant rfl rfl (oNeq rfl rfl (oWant rfl rfl (oMove rfl ?_)))))
   first | refine oSplit (t := 108) rfl (fun h108 => ?_) (fun h108 => ?_) | refine oSplitB (t := 108) rfl (fun h108 => ?_) (fun h108 => ?_)
   ·
    refine oSkip rfl rfl rfl rfl (oSkip rfl rfl rfl rfl (oSkip rfl rfl rfl rfl (oSkip rfl rfl rfl rfl (oWant rfl rfl (oPickT rfl rfl (oPickT rfl rfl (oNil (thn_n ?_))))))))
    first | refine wCondT rfl ?_ | refine wCondTd h114 rfl ?_ | refine wCondTb h114 rfl ?_
    refine wSeq (wRegion' (oAssign rfl (oNil (thn_n (wRet (thn_r (fin_r (fi1 rfl ?_))))))))
    exact ⟨(), trivial, by unfold symX; rw [if_neg h20, if_neg hkb, if_neg hany, if_pos (by simp_all <;> omega)]; rfl, Lh⟩
   refine oWant rfl rfl (oFld (n := 4) (m := 4) rfl rfl rfl (oWant rfl rfl (oLd rfl (by repeat constructor) rfl rfl ?_)))
   refine oWant rfl rfl (oMove rfl (oWant rfl rfl (oGeq rfl rfl (oWant rfl rfl (oPickF rfl rfl (oPickT rfl rfl (oNil (thn_n (wC (fun h114 => ?_) (fun h114 => ?_))))))))))
   ·
    refine wSeq (wRegion' (oAssign rfl (oNil (thn_n (wRet (thn_r (fin_r (fi1 rfl ?_))))))))
    exact ⟨(), trivial, by unfold symX; rw [if_neg h20, if_neg hkb, if_neg hany, if_pos (by simp_all <;> omega)]; rfl, Lh⟩
   refine wSkip (thn_n (wSeq (wSeq (wRegion' (oFld (n := 1) (m := 1) rfl rfl rfl (oLd rfl (by repeat constructor) rfl rfl ?_))))))
   refine oMove rfl ?_
   first | refine oSplit (t := 117) rfl (fun h117 => ?_) (fun h117 => ?_) | refine oSplitB (t := 117) rfl (fun h117 => ?_) (fun h117 => ?_)
   ·
    refine oWant rfl rfl (oFld (n := 4) (m := 4) rfl rfl rfl (oWant rfl rfl (oLd rfl (by repeat constructor) rfl rfl ?_)))
    refine oWant rfl rfl (oEql rfl rfl (oPickT rfl rfl (oNil (thn_n (wC (fun h121 => ?_) (fun h121 => ?_))))))
    ·
     refine wSeq (wRegion' (oAssign rfl (oNil (thn_n (wRet (thn_r (fin_r (fi1 rfl ?_))))))))
     have hnd : ¬ (x.fDef ≠ -1 ∧ (x.fDef ≠ (aheadN x (o.fSymbols.take i) : Int) ∨ (mostN o x : Int) ≤ x.fDef)) := by simp_all <;> omega
     exact ⟨(), trivial, by unfold symX; rw [if_neg h20, if_neg hkb, if_neg hany, if_neg hnd, if_pos (by simp_all <;> omega)]; rfl, Lh⟩
    refine wSkip (thn_n (wSeq (wRegion' (oAssign rfl (oNil (thn_n (wRet (fin_r (fi1 rfl ?_)))))))))
    have hnd : ¬ (x.fDef ≠ -1 ∧ (x.fDef ≠ (aheadN x (o.fSymbols.take i) : Int) ∨ (mostN o x : Int) ≤ x.fDef)) := by simp_all <;> omega
    exact ⟨(), trivial, by unfold symX; rw [if_neg h20, if_neg hkb, if_neg hany, if_neg hnd, if_neg (by simp_all <;> omega)]; rfl, Lh⟩
   refine oSkip rfl rfl rfl rfl (oSkip rfl rfl rfl rfl (oSkip rfl rfl rfl rfl (oPickF rfl rfl (oNil (thn_n ?_)))))
   first | refine wCondF rfl ?_ | refine wCondFd h121 rfl ?_ | refine wCondFb h121 rfl ?_
   refine wSkip (thn_n (wSeq (wRegion' (oAssign rfl (oNil (thn_n (wRet (fin_r (fi1 rfl ?_)))))))))
   have hnd : ¬ (x.fDef ≠ -1 ∧ (x.fDef ≠ (aheadN x (o.fSymbols.take i) : Int) ∨ (mostN o x : Int) ≤ x.fDef)) := by simp_all <;> omega
   exact ⟨(), trivial, by unfold symX; rw [if_neg h20, if_neg hkb, if_neg hany, if_neg hnd, if_neg (by simp_all <;> omega)]; rfl, Lh⟩
  refine oSkip rfl rfl rfl rfl (oSkip rfl rfl rfl rfl (oSkip rfl rfl rfl rfl (oSkip rfl rfl rfl rfl (oSkip rfl rfl rfl rfl (oSkipU rfl rfl rfl (oSkipU rfl rfl rfl (oSkipU rfl rfl rfl (oSkipU rfl rfl rfl (oSkip rfl rfl rfl rfl (oPickF rfl rfl (oNil ?_)))))))))))
  refine thn_n ?_
  first | refine wCondF rfl ?_ | refine wCondFd h114 rfl ?_ | refine wCondFb h114 rfl ?_
  refine wSkip (thn_n (wSeq (wSeq (wRegion' (oFld (n := 1) (m := 1) rfl rfl rfl (oLd rfl (by repeat constructor) rfl rfl ?_))))))
  refine oMove rfl ?_
  first | refine oSplit (t := 117) rfl (fun h117 => ?_) (fun h117 => ?_) | refine oSplitB (t := 117) rfl (fun h117 => ?_) (fun h117 => ?_)
  ·
   refine oWant rfl rfl (oFld (n := 4) (m := 4) rfl rfl rfl (oWant rfl rfl (oLd rfl (by repeat constructor) rfl rfl ?_)))
   refine oWant rfl rfl (oEql rfl rfl (oPickT rfl rfl (oNil (thn_n (wC (fun h121 => ?_) (fun h121 => ?_))))))
   ·
    refine wSeq (wRegion' (oAssign rfl (oNil (thn_n (wRet (thn_r (fin_r (fi1 rfl ?_))))))))
    have hnd : ¬ (x.fDef ≠ -1 ∧ (x.fDef ≠ (aheadN x (o.fSymbols.take i) : Int) ∨ (mostN o x : Int) ≤ x.fDef)) := by simp_all <;> omega
    exact ⟨(), trivial, by unfold symX; rw [if_neg h20, if_neg hkb, if_neg hany, if_neg hnd, if_pos (by simp_all <;> omega)]; rfl, Lh⟩
   refine wSkip (thn_n (wSeq (wRegion' (oAssign rfl (oNil (thn_n (wRet (fin_r (fi1 rfl ?_)))))))))
   have hnd : ¬ (x.fDef ≠ -1 ∧ (x.fDef ≠ (aheadN x (o.fSymbols.take i) : Int) ∨ (mostN o x : Int) ≤ x.fDef)) := by simp_all <;> omega
   exact ⟨(), trivial, by unfold symX; rw [if_neg h20, if_neg hkb, if_neg hany, if_neg hnd, if_neg (by simp_all <;> omega)]; rfl, Lh⟩
  refine oSkip rfl rfl rfl rfl (oSkip rfl rfl rfl rfl (oSkip rfl rfl rfl rfl (oPickF rfl rfl (oNil (thn_n ?_)))))
  first | refine wCondF rfl ?_ | refine wCondFd h121 rfl ?_ | refine wCondFb h121 rfl ?_
  refine wSkip (thn_n (wSeq (wRegion' (oAssign rfl (oNil (thn_n (wRet (fin_r (fi1 rfl ?_)))))))))
  have hnd : ¬ (x.fDef ≠ -1 ∧ (x.fDef ≠ (aheadN x (o.fSymbols.take i) : Int) ∨ (mostN o x : Int) ≤ x.fDef)) := by simp_all <;> omega
  exact ⟨(), trivial, by unfold symX; rw [if_neg h20, if_neg hkb, if_neg hany, if_neg hnd, if_neg (by simp_all <;> omega)]; rfl, Lh⟩
end Go.Proofs.YtogaiijhicfoaaaGreatW
