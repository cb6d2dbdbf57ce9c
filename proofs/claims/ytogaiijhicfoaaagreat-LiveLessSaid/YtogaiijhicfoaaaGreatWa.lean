import Derived.Test.YtogaiijhicfoaaaGreatVn

/-
  The references of name, data, scope.
-/
namespace Go.Proofs.YtogaiijhicfoaaaGreatW
set_option linter.unusedVariables false
set_option linter.unusedSimpArgs false
open Go.RowKit Go.Proofs.YtogaiijhicfoaaaGreatK Go.Proofs.YtogaiijhicfoaaaGreatT Go.Proofs.YtogaiijhicfoaaaGreatL Go.Proofs.YtogaiijhicfoaaaGreatV

def mayF (b : Int) (first : Bool) : Bool := (decide (97 ≤ b) && decide (b ≤ 122)) || decide (b = 95) || decide (b = 46) || (decide (48 ≤ b) && decide (b ≤ 57) && !first)
def badC (s : ByteArray) (i : Nat) : Bool := !mayF (byteAt s i) (decide (i = 0))
def nameF4 (s : ByteArray) : Int := if 24 < s.size then 6 else if s.size = 0 then 7 else if (List.range s.size).any (badC s) then 7 else 0
theorem size_zero {s : ByteArray} : s = ByteArray.empty ↔ s.size = 0 := by
  constructor
  · rintro rfl; rfl
  · intro h
    cases s with
    | mk d =>
      have : d = #[] := Array.eq_empty_of_size_eq_zero h
      subst this; rfl
set_option maxRecDepth 100000 in
theorem ref4_may {B : Base} {w : World} (hS : St B [] w) (b : Int) (first : Bool) :
    CallsIn Fence.wide 0 Tryz.prog 212 #[.int .u8 b, .bool first] w (Ret B (fun _ : Unit => True) (fun _ => .bool (mayF b first)) (fun _ => [])) := by
  (refine enter Tryz.func212 rfl rfl hS ?_; simp only [List.zipIdx_cons, List.zipIdx_nil, List.map_cons, List.map_nil, Nat.reduceAdd, Nat.zero_add])
  refine wSeq (wRegion' (oAssign rfl (oNil (thn_n (wSeq (wRegion' (oMove rfl (oGeq rfl rfl (oMove rfl ?_)))))))))
  first | refine oSplit (t := 7) rfl (fun h7 => ?_) (fun h7 => ?_) | refine oSplitB (t := 7) rfl (fun h7 => ?_) (fun h7 => ?_)
  ·
   refine oWant rfl rfl (oMove rfl (oWant rfl rfl (oLeq rfl rfl (oPickT rfl rfl (oMove rfl ?_)))))
   first | refine oSplit (t := 11) rfl (fun h11 => ?_) (fun h11 => ?_) | refine oSplitB (t := 11) rfl (fun h11 => ?_) (fun h11 => ?_)
   ·
    refine oSkip rfl rfl rfl rfl (oSkip rfl rfl rfl rfl (oPickT rfl rfl (oMove rfl (oSkip rfl rfl rfl rfl (oSkip rfl rfl rfl rfl (oPickT rfl rfl (oMove rfl (oSkip rfl rfl rfl rfl (oSkip rfl rfl rfl rfl (oSkip rfl rfl rfl rfl (oSkipU rfl rfl rfl ?_)))))))))))
    refine oSkipU rfl rfl rfl (oSkip rfl rfl rfl rfl (oSkip rfl rfl rfl rfl (oSkipU rfl rfl rfl (oSkipU rfl rfl rfl (oSkip rfl rfl rfl rfl (oPickT rfl rfl (oAssign rfl (oNil (thn_n (wRet (fin_r ?_)))))))))))
    refine fi1 rfl ?_
    exact ⟨(), trivial, by simp_all [resVal, mayF] <;> omega, Lh⟩
   refine oWant rfl rfl (oMove rfl (oWant rfl rfl (oEql rfl rfl (oPickF rfl rfl (oMove rfl ?_)))))
   first | refine oSplit (t := 15) rfl (fun h15 => ?_) (fun h15 => ?_) | refine oSplitB (t := 15) rfl (fun h15 => ?_) (fun h15 => ?_)
   ·
    refine oSkip rfl rfl rfl rfl (oSkip rfl rfl rfl rfl (oPickT rfl rfl (oMove rfl (oSkip rfl rfl rfl rfl (oSkip rfl rfl rfl rfl (oSkip rfl rfl rfl rfl (oSkipU rfl rfl rfl (oSkipU rfl rfl rfl (oSkip rfl rfl rfl rfl (oSkip rfl rfl rfl rfl (oSkipU rfl rfl rfl ?_)))))))))))
    refine oSkipU rfl rfl rfl (oSkip rfl rfl rfl rfl (oPickT rfl rfl (oAssign rfl (oNil (thn_n (wRet (fin_r (fi1 rfl ?_))))))))
    exact ⟨(), trivial, by simp_all [resVal, mayF] <;> omega, Lh⟩
   refine oWant rfl rfl (oMove rfl (oWant rfl rfl (oEql rfl rfl (oPickF rfl rfl (oMove rfl ?_)))))
   first | refine oSplit (t := 19) rfl (fun h19 => ?_) (fun h19 => ?_) | refine oSplitB (t := 19) rfl (fun h19 => ?_) (fun h19 => ?_)
   ·
    refine oSkip rfl rfl rfl rfl (oSkip rfl rfl rfl rfl (oSkip rfl rfl rfl rfl (oSkipU rfl rfl rfl (oSkipU rfl rfl rfl (oSkip rfl rfl rfl rfl (oSkip rfl rfl rfl rfl (oSkipU rfl rfl rfl (oSkipU rfl rfl rfl (oSkip rfl rfl rfl rfl (oPickT rfl rfl (oAssign rfl ?_)))))))))))
    refine oNil (thn_n (wRet (fin_r (fi1 rfl ?_))))
    exact ⟨(), trivial, by simp_all [resVal, mayF] <;> omega, Lh⟩
   refine oWant rfl rfl (oMove rfl (oWant rfl rfl (oGeq rfl rfl (oWant rfl rfl (oMove rfl ?_)))))
   first | refine oSplit (t := 22) rfl (fun h22 => ?_) (fun h22 => ?_) | refine oSplitB (t := 22) rfl (fun h22 => ?_) (fun h22 => ?_)
   ·
    refine oWant rfl rfl (oMove rfl (oWant rfl rfl (oLeq rfl rfl (oWant rfl rfl (oPickT rfl rfl (oWant rfl rfl (oMove rfl ?_)))))))
    first | refine oSplit (t := 26) rfl (fun h26 => ?_) (fun h26 => ?_) | refine oSplitB (t := 26) rfl (fun h26 => ?_) (fun h26 => ?_)
    ·
     refine oWant rfl rfl (oMove rfl (oWant rfl rfl ?_))
     first | refine oNot rfl ?_ | refine oNotB rfl ?_
     refine oWant rfl rfl (oPickT rfl rfl (oPickF rfl rfl (oAssign rfl (oNil (thn_n (wRet (fin_r (fi1 rfl ?_))))))))
     exact ⟨(), trivial, by simp_all [resVal, mayF] <;> omega, Lh⟩
    refine oSkip rfl rfl rfl rfl (oSkip rfl rfl rfl rfl (oWant rfl rfl (oPickF rfl rfl (oPickF rfl rfl (oAssign rfl (oNil (thn_n (wRet (fin_r (fi1 rfl ?_))))))))))
    exact ⟨(), trivial, by simp_all [resVal, mayF] <;> omega, Lh⟩
   refine oSkip rfl rfl rfl rfl (oSkip rfl rfl rfl rfl (oWant rfl rfl (oPickF rfl rfl (oWant rfl rfl (oMove rfl (oSkip rfl rfl rfl rfl (oSkip rfl rfl rfl rfl (oWant rfl rfl (oPickF rfl rfl (oPickF rfl rfl (oAssign rfl ?_)))))))))))
   refine oNil (thn_n (wRet (fin_r (fi1 rfl ?_))))
   exact ⟨(), trivial, by simp_all [resVal, mayF] <;> omega, Lh⟩
  refine oSkip rfl rfl rfl rfl (oSkip rfl rfl rfl rfl (oPickF rfl rfl (oMove rfl (oWant rfl rfl (oMove rfl (oWant rfl rfl (oEql rfl rfl (oPickF rfl rfl (oMove rfl ?_)))))))))
  first | refine oSplit (t := 15) rfl (fun h15 => ?_) (fun h15 => ?_) | refine oSplitB (t := 15) rfl (fun h15 => ?_) (fun h15 => ?_)
  ·
   refine oSkip rfl rfl rfl rfl (oSkip rfl rfl rfl rfl (oPickT rfl rfl (oMove rfl (oSkip rfl rfl rfl rfl (oSkip rfl rfl rfl rfl (oSkip rfl rfl rfl rfl (oSkipU rfl rfl rfl (oSkipU rfl rfl rfl (oSkip rfl rfl rfl rfl (oSkip rfl rfl rfl rfl (oSkipU rfl rfl rfl ?_)))))))))))
   refine oSkipU rfl rfl rfl (oSkip rfl rfl rfl rfl (oPickT rfl rfl (oAssign rfl (oNil (thn_n (wRet (fin_r (fi1 rfl ?_))))))))
   exact ⟨(), trivial, by simp_all [resVal, mayF] <;> omega, Lh⟩
  refine oWant rfl rfl (oMove rfl (oWant rfl rfl (oEql rfl rfl (oPickF rfl rfl (oMove rfl ?_)))))
  first | refine oSplit (t := 19) rfl (fun h19 => ?_) (fun h19 => ?_) | refine oSplitB (t := 19) rfl (fun h19 => ?_) (fun h19 => ?_)
  ·
   refine oSkip rfl rfl rfl rfl (oSkip rfl rfl rfl rfl (oSkip rfl rfl rfl rfl (oSkipU rfl rfl rfl (oSkipU rfl rfl rfl (oSkip rfl rfl rfl rfl (oSkip rfl rfl rfl rfl (oSkipU rfl rfl rfl (oSkipU rfl rfl rfl (oSkip rfl rfl rfl rfl (oPickT rfl rfl (oAssign rfl ?_)))))))))))
   refine oNil (thn_n (wRet (fin_r (fi1 rfl ?_))))
   exact ⟨(), trivial, by simp_all [resVal, mayF] <;> omega, Lh⟩
  refine oWant rfl rfl (oMove rfl (oWant rfl rfl (oGeq rfl rfl (oWant rfl rfl (oMove rfl ?_)))))
  first | refine oSplit (t := 22) rfl (fun h22 => ?_) (fun h22 => ?_) | refine oSplitB (t := 22) rfl (fun h22 => ?_) (fun h22 => ?_)
  ·
   refine oWant rfl rfl (oMove rfl (oWant rfl rfl (oLeq rfl rfl (oWant rfl rfl (oPickT rfl rfl (oWant rfl rfl (oMove rfl ?_)))))))
   first | refine oSplit (t := 26) rfl (fun h26 => ?_) (fun h26 => ?_) | refine oSplitB (t := 26) rfl (fun h26 => ?_) (fun h26 => ?_)
   ·
    refine oWant rfl rfl (oMove rfl (oWant rfl rfl ?_))
    first | refine oNot rfl ?_ | refine oNotB rfl ?_
    refine oWant rfl rfl (oPickT rfl rfl (oPickF rfl rfl (oAssign rfl (oNil (thn_n (wRet (fin_r (fi1 rfl ?_))))))))
    exact ⟨(), trivial, by simp_all [resVal, mayF] <;> omega, Lh⟩
   refine oSkip rfl rfl rfl rfl (oSkip rfl rfl rfl rfl (oWant rfl rfl (oPickF rfl rfl (oPickF rfl rfl (oAssign rfl (oNil (thn_n (wRet (fin_r (fi1 rfl ?_))))))))))
   exact ⟨(), trivial, by simp_all [resVal, mayF] <;> omega, Lh⟩
  refine oSkip rfl rfl rfl rfl (oSkip rfl rfl rfl rfl (oWant rfl rfl (oPickF rfl rfl (oWant rfl rfl (oMove rfl (oSkip rfl rfl rfl rfl (oSkip rfl rfl rfl rfl (oWant rfl rfl (oPickF rfl rfl (oPickF rfl rfl (oAssign rfl ?_)))))))))))
  refine oNil (thn_n (wRet (fin_r (fi1 rfl ?_))))
  exact ⟨(), trivial, by simp_all [resVal, mayF] <;> omega, Lh⟩
set_option maxRecDepth 100000 in
theorem ref4_Check {B : Base} {w : World} (hS : St B [] w) (s : ByteArray) :
    CallsIn Fence.wide 0 Tryz.prog 183 #[.string s] w (Ret B (fun _ : Unit => True) (fun _ => .int .i64 (nameF4 s)) (fun _ => [])) := by
  (refine enter Tryz.func183 rfl rfl hS ?_; simp only [List.zipIdx_cons, List.zipIdx_nil, List.map_cons, List.map_nil, Nat.reduceAdd, Nat.zero_add])
  refine wSeq (wRegion' (oAssign rfl (oNil (thn_n (wSeq (wSeq (wRegion' (oMove rfl (oLenStr rfl rfl (oGtr rfl rfl (oNil ?_)))))))))))
  refine thn_n (wC (fun h6 => ?_) (fun h6 => ?_))
  ·
   refine wSeq (wRegion' (oAssign rfl (oNil (thn_n (wRet (thn_r (fin_r (fi1 rfl ?_))))))))
   exact ⟨(), trivial, by unfold nameF4; rw [if_pos (by omega)]; rfl, Lh⟩
  refine wSkip (thn_n (wSeq (wSeq (wRegion' (oMove rfl (oSEq rfl rfl (oNil (thn_n (wC (fun h8 => ?_) (fun h8 => ?_))))))))))
  ·
   refine wSeq (wRegion' (oAssign rfl (oNil (thn_n (wRet (thn_r (fin_r (fi1 rfl ?_))))))))
   exact ⟨(), trivial, by unfold nameF4; rw [if_neg (by omega), if_pos (size_zero.1 h8)]; rfl, Lh⟩
  have hz : ¬ s.size = 0 := fun h => h8 (size_zero.2 h)
  refine wSkip (thn_n (wSeq (wSeq (wRegion' (oAssign rfl (oNil (thn_n (wBlock (wLoop (ι := Nat) (fun i => [(0, .string s), (3, .int .i64 (i : Int))]) (fun i => []) (fun i => i ≤ s.size ∧ ∀ j, j < i → badC s j = false) (fun i => s.size - i) 0 ?_ cv Lh ?_)))))))))
  ·
   exact ⟨Nat.zero_le _, fun j hj => by omega⟩
  rintro i ⟨hi, hs⟩
  try dsimp only
  refine wSeq (wSeq (wRegion' (oMove rfl (oMove rfl (oLenStr rfl rfl (oLss rfl rfl (oNil (thn_n (wC (fun h12 => ?_) (fun h12 => ?_))))))))))
  ·
   have hil : i < s.size := by omega
   have hz0 : decide ((i : Int) = 0) = decide (i = 0) := decide_eq_decide.2 (by omega)
   refine wSkip (thn_n (wSeq (wBlock (wSeq (wRegion' (oMove rfl (oMove rfl (oIndexStr rfl rfl rfl hil (oMove rfl (oEql rfl rfl ?_))))))))))
   (refine oCall rfl (by kernel_rfl) (fun w hS => frame hS (by repeat' constructor) (fun B' hB hS' => ref4_may hS' (byteAt s i) (decide ((i : Int) = 0)))) ?_; rintro ⟨⟩ -)
   first | refine oNot rfl ?_ | refine oNotB rfl ?_
   refine oNil (thn_n (wC (fun h21 => ?_) (fun h21 => ?_)))
   ·
    refine wSeq (wRegion' (oAssign rfl (oNil (thn_n (wRet (blk_r (thn_r (thn_r (blk_r (thn_r (fin_r ?_)))))))))))
    refine fi1 rfl ?_
    exact ⟨(), trivial, by unfold nameF4; rw [if_neg (by omega), if_neg hz, if_pos (any_T hil (by unfold badC; rw [← hz0]; simpa using h21))]; rfl, Lh⟩
   refine wSkip (blk_n (thn_n (wRegion' (oMove rfl (oSucc rfl rfl (by omega) ?_)))))
   refine oAssign rfl (oNil (thn_n ?_))
   exact ⟨rfl, i + 1, ⟨by omega, fun j hj => by
   by_cases e : j = i
   · subst e; unfold badC; rw [← hz0]; simpa using h21
   · exact hs j (by omega)⟩, by omega, cv, Lh⟩
  refine wExit (thn_x (thn_x (blk_x (thn_n (wSeq (wRegion' (oAssign rfl (oNil (thn_n (wRet (fin_r ?_)))))))))))
  refine fi1 rfl ?_
  obtain rfl : i = s.size := by omega
  exact ⟨(), trivial, by unfold nameF4; rw [if_neg (by omega), if_neg hz, if_neg (by rw [any_F hs]; simp)]; rfl, Lh⟩
def isG (s : ByteArray) (x : ApiSymbol) : Bool := (!x.fLocal && decide (x.fDef ≠ -1)) && decide (x.fName = s)
def glob (x : ApiSymbol) : Bool := !x.fLocal && decide (x.fDef ≠ -1)
def hasG (s : ByteArray) (o : ApiObject) : Bool := o.fSymbols.any (isG s)
def findI (l : List ApiObject) (s : ByteArray) : Int := idxI (hasG s) l
def symsAt (l : List ApiObject) (i : Int) : List ApiSymbol := (l.getD i.toNat default).fSymbols
def findK (l : List ApiObject) (s : ByteArray) : Int := idxI (isG s) (symsAt l (findI l s))
def fnd (l : List ApiObject) (s : ByteArray) : Int × Int × Bool := if 0 ≤ findI l s then (findI l s, findK l s, true) else (0, 0, false)
theorem symsAt_eq {l : List ApiObject} {i : Nat} {o : ApiObject} (h : l[i]? = some o) : symsAt l (i : Int) = o.fSymbols := by unfold symsAt; rw [Int.toNat_natCast, List.getD_eq_getElem?_getD, h]; rfl
theorem fnd_some {l : List ApiObject} {s : ByteArray} (h : (fnd l s).2.2 = true) : ∃ (i k : Nat) (o : ApiObject) (x : ApiSymbol), fnd l s = ((i : Int), (k : Int), true) ∧ l[i]? = some o ∧ o.fSymbols[k]? = some x ∧ isG s x = true := by
  unfold fnd at *
  by_cases h0 : 0 ≤ findI l s
  · rw [if_pos h0] at *
    obtain ⟨i, o, hi, ho, hg⟩ := idxI_at (show 0 ≤ idxI (hasG s) l from h0)
    have hfi : findI l s = (i : Int) := hi
    obtain ⟨k, x, hk, hx, hgx⟩ := idxI_at (idxI_iff.2 (show o.fSymbols.any (isG s) = true from hg))
    refine ⟨i, k, o, x, ?_, ho, hx, hgx⟩
    have : findK l s = (k : Int) := by unfold findK; rw [hfi, symsAt_eq ho]; exact hk
    rw [hfi, this]
  · rw [if_neg h0] at h; cases h
set_option maxRecDepth 100000 in
theorem ref23_global {B : Base} {w : World} (hS : St B [] w) (x : ApiSymbol) (xc : List Value) (hx : kApiSymbol.K B.e x xc) :
    CallsIn Fence.wide 0 Tryz.prog 134 #[.agg xc.toArray] w (Ret B (fun _ : Unit => True) (fun _ => .bool (glob x)) (fun _ => [])) := by
  obtain rfl := kApiSymbol_open hx
  (refine enter Tryz.func134 rfl rfl hS ?_; simp only [List.zipIdx_cons, List.zipIdx_nil, List.map_cons, List.map_nil, Nat.reduceAdd, Nat.zero_add])
  refine wSeq (wRegion' (oBox rfl (by repeat constructor) (fun b1 => ?_)))
  refine oAssign rfl (oNil (thn_n (wSeq (wRegion' (oFld (n := 1) (m := 1) rfl rfl rfl (oLd rfl (by repeat constructor) rfl rfl ?_))))))
  first | refine oNot rfl ?_ | refine oNotB rfl ?_
  refine oMove rfl ?_
  first | refine oSplit (t := 6) rfl (fun h6 => ?_) (fun h6 => ?_) | refine oSplitB (t := 6) rfl (fun h6 => ?_) (fun h6 => ?_)
  ·
   refine oWant rfl rfl (oFld (n := 4) (m := 4) rfl rfl rfl (oWant rfl rfl (oLd rfl (by repeat constructor) rfl rfl ?_)))
   refine oWant rfl rfl (oNeq rfl rfl (oPickT rfl rfl (oAssign rfl (oNil (thn_n (wRet (fin_r (fi1 rfl ?_))))))))
   exact ⟨(), trivial, by simp_all [resVal, glob], Lh⟩
  refine oSkip rfl rfl rfl rfl (oSkip rfl rfl rfl rfl (oSkip rfl rfl rfl rfl (oPickF rfl rfl (oAssign rfl (oNil (thn_n (wRet (fin_r (fi1 rfl ?_)))))))))
  exact ⟨(), trivial, by simp_all [resVal, glob], Lh⟩
structure FewO (l : List ApiObject) : Prop where
  len : l.length ≤ 9
  syms : ∀ o ∈ l, o.fSymbols.length ≤ 60
  funcs : ∀ o ∈ l, o.fFuncs.length ≤ 20
  datas : ∀ o ∈ l, o.fDatas.length ≤ 20
  fun_ : ∀ o ∈ l, ∀ f ∈ o.fFuncs, f.fKinds.length ≤ 100 ∧ f.fLines.length ≤ 100 ∧ f.fCode.length ≤ 100 ∧ f.fRelocs.length ≤ 100
  data : ∀ o ∈ l, ∀ d ∈ o.fDatas, d.fWords.length ≤ 100 ∧ d.fRelocs.length ≤ 100
set_option maxRecDepth 100000 in
set_option maxHeartbeats 600000 in
theorem ref23_Find {B : Base} {w : World} (hS : St B [] w) (A : Option Addr) (cp : Nat) (l : List ApiObject) (hC : kApiObject.C B.e A l) (hsm : FewO l) (s : ByteArray) :
    CallsIn Fence.wide 0 Tryz.prog 71 #[.slice A l.length cp, .string s] w (Ret B (fun _ : Unit => True) (fun _ => .tuple #[.int .i64 (fnd l s).1, .int .i64 (fnd l s).2.1, .bool (fnd l s).2.2]) (fun _ => [])) := by
  have hln := hsm.len
  (refine enter Tryz.func71 rfl rfl hS ?_; simp only [List.zipIdx_cons, List.zipIdx_nil, List.map_cons, List.map_nil, Nat.reduceAdd, Nat.zero_add])
  refine wSeq (wRegion' (oAssign rfl (oAssign rfl (oAssign rfl (oNil (thn_n (wSeq (wSeq (wRegion' (oAssign rfl (oNil ?_)))))))))))
  refine thn_n (wBlock (wLoop (ι := Nat) (fun i => [(0, .slice A l.length cp), (1, .string s), (7, .int .i64 (i : Int))]) (fun i => []) (fun i => i ≤ l.length ∧ ∀ o ∈ l.take i, hasG s o = false) (fun i => l.length - i) 0 ?_ cv Lh ?_))
  ·
   exact ⟨Nat.zero_le _, by simp⟩
  rintro i ⟨hi, hs⟩
  try dsimp only
  refine wSeq (wSeq (wRegion' (oMove rfl (oMove rfl (oLenS rfl rfl (oLss rfl rfl (oNil (thn_n (wC (fun h13 => ?_) (fun h13 => ?_))))))))))
  ·
   obtain ⟨o, ho⟩ : ∃ o, l[i]? = some o := ⟨_, List.getElem?_eq_getElem (by omega)⟩
   have hol := hsm.syms o (List.mem_of_getElem? ho)
   obtain ⟨e1, cs1, hE⟩ := hC.elm ho
   obtain ⟨B0, d0, B1, d1, B2, d2, rfl, m0, q0, m1, q1, m2, q2⟩ := kApiObject_open hE.K
   refine wSkip (thn_n (wSeq (wBlock (wSeq (wRegion' (oAssign rfl (oNil (thn_n (wBlock (wLoop (ι := Nat) (fun k => [(0, .slice A l.length cp), (1, .string s), (7, .int .i64 (i : Int)), (8, .int .i64 (k : Int))]) (fun k => []) (fun k => k ≤ o.fSymbols.length ∧ ∀ x ∈ o.fSymbols.take k, isG s x = false) (fun k => o.fSymbols.length - k) 0 ?_ cv Lh ?_))))))))))
   ·
    exact ⟨Nat.zero_le _, by simp⟩
   rintro k ⟨hk, hs2⟩
   try dsimp only
   refine wSeq (wSeq (wRegion' (oMove rfl (oMove rfl (oMove rfl (oIdxE rfl rfl (hE) (by omega) rfl rfl ?_))))))
   have hc19 := (hE).cell
   first | refine oFldX (n := 0) (m := 0) rfl rfl rfl ?_ | refine oFldR (n := 0) (m := 0) rfl rfl rfl ?_ | refine oFldD (n := 0) (m := 0) rfl rfl rfl ?_
   first | refine oLdX rfl hc19 rfl rfl ?_ | refine oLdXA rfl hc19 rfl (by repeat constructor) ?_ | (refine oLdR1 rfl (by repeat constructor) (by omega) rfl (fun u21 hu21 => ?_))
   refine oLenS rfl rfl (oLss rfl rfl (oNil (thn_n (wC (fun h23 => ?_) (fun h23 => ?_)))))
   ·
    obtain ⟨x, hx⟩ : ∃ x, o.fSymbols[k]? = some x := ⟨_, List.getElem?_eq_getElem (by omega)⟩
    obtain ⟨e2, cs2, hE2⟩ := q0.elm hx
    obtain rfl := kApiSymbol_open hE2.K
    have hgx : isG s x = (glob x && decide (x.fName = s)) := rfl
    refine wSkip (thn_n (wSeq (wBlock (wSeq (wRegion' (oMove rfl (oMove rfl (oIdxE rfl rfl (hE) (by omega) rfl rfl ?_))))))))
    have hc28 := (hE).cell
    first | refine oFldX (n := 0) (m := 0) rfl rfl rfl ?_ | refine oFldR (n := 0) (m := 0) rfl rfl rfl ?_ | refine oFldD (n := 0) (m := 0) rfl rfl rfl ?_
    first | refine oLdX rfl hc28 rfl rfl ?_ | refine oLdXA rfl hc28 rfl (by repeat constructor) ?_ | (refine oLdR1 rfl (by repeat constructor) (by omega) rfl (fun u30 hu30 => ?_))
    refine oMove rfl (oIdxE rfl rfl (hE2) (by omega) rfl rfl ?_)
    have hc32 := (hE2).cell
    first | refine oLdX rfl hc32 rfl rfl ?_ | refine oLdXA rfl hc32 rfl (by repeat constructor) ?_ | (refine oLdR1 rfl (by repeat constructor) (by omega) rfl (fun u33 hu33 => ?_))
    refine oAlloc rfl (by repeat constructor) (fun b9 => ?_)
    refine oStA rfl rfl rfl rfl (by repeat constructor) (by rfl) ?_
    refine oNil (thn_n (wSeq (wRegion' (oLdA rfl (by repeat constructor) rfl (by repeat constructor) ?_))))
    (refine oCall rfl (by kernel_rfl) (fun w hS => frame hS (by repeat' constructor) (fun B' hB hS' => ref23_global hS' x _ (kApiSymbol_mk _ x))) ?_; rintro ⟨⟩ -)
    refine oMove rfl ?_
    first | refine oSplit (t := 36) rfl (fun h36 => ?_) (fun h36 => ?_) | refine oSplitB (t := 36) rfl (fun h36 => ?_) (fun h36 => ?_)
    ·
     refine oWant rfl rfl (oFld (n := 0) (m := 0) rfl rfl rfl (oWant rfl rfl (oLd rfl (by repeat constructor) rfl rfl ?_)))
     refine oWant rfl rfl (oMove rfl (oWant rfl rfl (oSEq rfl rfl (oPickT rfl rfl (oNil (thn_n (wC (fun h41 => ?_) (fun h41 => ?_))))))))
     ·
      refine wSeq (wRegion' (oMove rfl (oMove rfl (oAssign rfl (oAssign rfl (oAssign rfl (oNil (thn_n (wRet (blk_r (thn_r ?_)))))))))))
      refine thn_r (blk_r (blk_r (thn_r (thn_r (blk_r (thn_r (fin_r ?_)))))))
      refine ⟨rfl, _, (ResL.cons (ResR.tmp rfl) (ResL.cons (ResR.tmp rfl) (ResL.cons (ResR.tmp rfl) ResL.nil))), ?_⟩
      have hg : isG s x = true := by rw [hgx]; simp_all
      have hfi : findI l s = (i : Int) := idxI_stop hs ho (List.any_eq_true.2 ⟨x, List.mem_of_getElem? hx, hg⟩)
      have hfk : findK l s = (k : Int) := by unfold findK; rw [hfi, symsAt_eq ho]; exact idxI_stop hs2 hx hg
      have hf : fnd l s = ((i : Int), (k : Int), true) := by unfold fnd; rw [hfi, hfk, if_pos (by omega)]
      exact ⟨(), trivial, by rw [hf]; rfl, Lh⟩
     refine wSkip (blk_n (thn_n (wRegion' (oMove rfl (oSucc rfl rfl (by omega) ?_)))))
     refine oAssign rfl (oNil (thn_n ?_))
     exact ⟨rfl, k + 1, ⟨by omega, take_not hs2 hx (by rw [hgx]; simp_all)⟩, by omega, cv, Lh⟩
    refine oSkip rfl rfl rfl rfl (oSkip rfl rfl rfl rfl (oSkip rfl rfl rfl rfl (oSkip rfl rfl rfl rfl (oPickF rfl rfl (oNil (thn_n ?_))))))
    first | refine wCondF rfl ?_ | refine wCondFd h41 rfl ?_ | refine wCondFb h41 rfl ?_
    refine wSkip (blk_n (thn_n (wRegion' (oMove rfl (oSucc rfl rfl (by omega) ?_)))))
    refine oAssign rfl (oNil (thn_n ?_))
    exact ⟨rfl, k + 1, ⟨by omega, take_not hs2 hx (by rw [hgx]; simp_all)⟩, by omega, cv, Lh⟩
   obtain rfl : k = o.fSymbols.length := by omega
   rw [List.take_length] at hs2
   have hno : hasG s o = false := by unfold hasG; rw [List.any_eq_false]; intro y hy; rw [hs2 y hy]; simp
   refine wExit (thn_x (thn_x (blk_x (blk_n (thn_n (wRegion' (oMove rfl (oSucc rfl rfl (by omega) ?_))))))))
   refine oAssign rfl (oNil (thn_n ?_))
   exact ⟨rfl, i + 1, ⟨by omega, take_not hs ho hno⟩, by omega, cv, Lh⟩
  refine wExit (thn_x (thn_x (blk_x (thn_n (wSeq (wRegion' (oAssign rfl (oAssign rfl (oAssign rfl (oNil (thn_n ?_)))))))))))
  refine wRet (fin_r ?_)
  refine ⟨rfl, _, (ResL.cons (ResR.tmp rfl) (ResL.cons (ResR.tmp rfl) (ResL.cons (ResR.tmp rfl) ResL.nil))), ?_⟩
  obtain rfl : i = l.length := by omega
  rw [List.take_length] at hs
  have hf : fnd l s = (0, 0, false) := by unfold fnd findI; rw [idxI_none hs]; rfl
  exact ⟨(), trivial, by rw [hf]; rfl, Lh⟩
def symOf (l : List ApiObject) (i k : Int) : ApiSymbol := (symsAt l i).getD k.toNat default
def bndF (l : List ApiObject) (i k : Int) : Int × Int × Int :=
  if i < 0 ∨ (l.length : Int) ≤ i ∨ k < 0 ∨ ((symsAt l i).length : Int) ≤ k then (0, 0, 2) else
  if (symOf l i k).fDef ≠ -1 then (i, k, 0) else
  if (fnd l (symOf l i k).fName).2.2 = false then (0, 0, 13) else
  if (symOf l (fnd l (symOf l i k).fName).1 (fnd l (symOf l i k).fName).2.1).fSort ≠ (symOf l i k).fSort ∨ (symOf l (fnd l (symOf l i k).fName).1 (fnd l (symOf l i k).fName).2.1).fKind ≠ (symOf l i k).fKind then (0, 0, 14) else ((fnd l (symOf l i k).fName).1, (fnd l (symOf l i k).fName).2.1, 0)
theorem symOf_eq {l : List ApiObject} {i k : Nat} {o : ApiObject} {x : ApiSymbol} (h : l[i]? = some o) (hx : o.fSymbols[k]? = some x) : symOf l (i : Int) (k : Int) = x := by unfold symOf; rw [symsAt_eq h, Int.toNat_natCast, List.getD_eq_getElem?_getD, hx]; rfl
set_option maxRecDepth 100000 in
set_option maxHeartbeats 1000000 in
theorem ref23_Bound {B : Base} {w : World} (hS : St B [] w) (A : Option Addr) (cp : Nat) (l : List ApiObject) (hC : kApiObject.C B.e A l) (hsm : FewO l) (i k : Int) :
    CallsIn Fence.wide 0 Tryz.prog 133 #[.slice A l.length cp, .int .i64 i, .int .i64 k] w (Ret B (fun _ : Unit => True) (fun _ => .tuple #[.int .i64 (bndF l i k).1, .int .i64 (bndF l i k).2.1, .int .i64 (bndF l i k).2.2]) (fun _ => [])) := by
  have hln := hsm.len
  (refine enter Tryz.func133 rfl rfl hS ?_; simp only [List.zipIdx_cons, List.zipIdx_nil, List.map_cons, List.map_nil, Nat.reduceAdd, Nat.zero_add])
  refine wSeq (wRegion' (oAssign rfl (oAssign rfl (oAssign rfl (oNil (thn_n (wSeq (wSeq (wRegion' (oMove rfl (oLss rfl rfl ?_)))))))))))
  refine oMove rfl ?_
  first | refine oSplit (t := 16) rfl (fun h16 => ?_) (fun h16 => ?_) | refine oSplitB (t := 16) rfl (fun h16 => ?_) (fun h16 => ?_)
  ·
   refine oSkip rfl rfl rfl rfl (oSkip rfl rfl rfl rfl (oSkip rfl rfl rfl rfl (oSkip rfl rfl rfl rfl (oPickT rfl rfl (oMove rfl (oSkip rfl rfl rfl rfl (oSkip rfl rfl rfl rfl (oPickT rfl rfl (oMove rfl (oSkip rfl rfl rfl rfl (oSkip rfl rfl rfl rfl ?_)))))))))))
   refine oSkip rfl rfl rfl rfl (oSkip rfl rfl rfl rfl (oSkip rfl rfl rfl rfl (oSkip rfl rfl rfl rfl (oSkip rfl rfl rfl rfl (oSkip rfl rfl rfl rfl (oPickT rfl rfl (oNil (thn_n ?_))))))))
   first | refine wCondT rfl ?_ | refine wCondTd h35 rfl ?_ | refine wCondTb h35 rfl ?_
   refine wSeq (wRegion' (oAssign rfl (oAssign rfl (oAssign rfl (oNil (thn_n (wRet (thn_r (fin_r ?_)))))))))
   refine ⟨rfl, _, (ResL.cons (ResR.tmp rfl) (ResL.cons (ResR.tmp rfl) (ResL.cons (ResR.tmp rfl) ResL.nil))), ?_⟩
   exact ⟨(), trivial, by unfold bndF; rw [if_pos (by omega)]; rfl, Lh⟩
  refine oWant rfl rfl (oMove rfl (oWant rfl rfl (oMove rfl (oWant rfl rfl (oLenS rfl rfl (oWant rfl rfl (oGeq rfl rfl (oPickF rfl rfl (oMove rfl ?_)))))))))
  first | refine oSplit (t := 22) rfl (fun h22 => ?_) (fun h22 => ?_) | refine oSplitB (t := 22) rfl (fun h22 => ?_) (fun h22 => ?_)
  ·
   refine oSkip rfl rfl rfl rfl (oSkip rfl rfl rfl rfl (oPickT rfl rfl (oMove rfl (oSkip rfl rfl rfl rfl (oSkip rfl rfl rfl rfl (oSkip rfl rfl rfl rfl (oSkip rfl rfl rfl rfl (oSkip rfl rfl rfl rfl (oSkip rfl rfl rfl rfl (oSkip rfl rfl rfl rfl (oSkip rfl rfl rfl rfl ?_)))))))))))
   refine oPickT rfl rfl (oNil (thn_n ?_))
   first | refine wCondT rfl ?_ | refine wCondTd h35 rfl ?_ | refine wCondTb h35 rfl ?_
   refine wSeq (wRegion' (oAssign rfl (oAssign rfl (oAssign rfl (oNil (thn_n (wRet (thn_r (fin_r ?_)))))))))
   refine ⟨rfl, _, (ResL.cons (ResR.tmp rfl) (ResL.cons (ResR.tmp rfl) (ResL.cons (ResR.tmp rfl) ResL.nil))), ?_⟩
   exact ⟨(), trivial, by unfold bndF; rw [if_pos (by omega)]; rfl, Lh⟩
  refine oWant rfl rfl (oMove rfl (oWant rfl rfl (oLss rfl rfl (oPickF rfl rfl (oMove rfl ?_)))))
  first | refine oSplit (t := 26) rfl (fun h26 => ?_) (fun h26 => ?_) | refine oSplitB (t := 26) rfl (fun h26 => ?_) (fun h26 => ?_)
  ·
   refine oSkip rfl rfl rfl rfl (oSkip rfl rfl rfl rfl (oSkip rfl rfl rfl rfl (oSkip rfl rfl rfl rfl (oSkip rfl rfl rfl rfl (oSkip rfl rfl rfl rfl (oSkip rfl rfl rfl rfl (oSkip rfl rfl rfl rfl (oPickT rfl rfl (oNil (thn_n ?_))))))))))
   first | refine wCondT rfl ?_ | refine wCondTd h35 rfl ?_ | refine wCondTb h35 rfl ?_
   refine wSeq (wRegion' (oAssign rfl (oAssign rfl (oAssign rfl (oNil (thn_n (wRet (thn_r (fin_r ?_)))))))))
   refine ⟨rfl, _, (ResL.cons (ResR.tmp rfl) (ResL.cons (ResR.tmp rfl) (ResL.cons (ResR.tmp rfl) ResL.nil))), ?_⟩
   exact ⟨(), trivial, by unfold bndF; rw [if_pos (by omega)]; rfl, Lh⟩
  obtain ⟨i, rfl⟩ := Int.eq_ofNat_of_zero_le (show 0 ≤ i by omega)
  obtain ⟨o, ho⟩ : ∃ o, l[i]? = some o := ⟨_, List.getElem?_eq_getElem (by omega)⟩
  have hsy := symsAt_eq ho
  have hol := hsm.syms o (List.mem_of_getElem? ho)
  obtain ⟨e1, cs1, hE⟩ := hC.elm ho
  obtain ⟨B0, d0, B1, d1, B2, d2, rfl, m0, q0, m1, q1, m2, q2⟩ := kApiObject_open hE.K
  refine oWant rfl rfl (oMove rfl (oWant rfl rfl (oMove rfl (oWant rfl rfl (oMove rfl (oWant rfl rfl (oIdxE rfl rfl (hE) (by omega) rfl rfl ?_)))))))
  have hc30 := (hE).cell
  refine oWant rfl rfl ?_
  first | refine oFldX (n := 0) (m := 0) rfl rfl rfl ?_ | refine oFldR (n := 0) (m := 0) rfl rfl rfl ?_ | refine oFldD (n := 0) (m := 0) rfl rfl rfl ?_
  refine oWant rfl rfl ?_
  first | refine oLdX rfl hc30 rfl rfl ?_ | refine oLdXA rfl hc30 rfl (by repeat constructor) ?_ | (refine oLdR1 rfl (by repeat constructor) (by omega) rfl (fun u32 hu32 => ?_))
  refine oWant rfl rfl (oLenS rfl rfl (oWant rfl rfl (oGeq rfl rfl (oPickF rfl rfl (oNil (thn_n (wC (fun h35 => ?_) (fun h35 => ?_))))))))
  ·
   refine wSeq (wRegion' (oAssign rfl (oAssign rfl (oAssign rfl (oNil (thn_n (wRet (thn_r (fin_r ?_)))))))))
   refine ⟨rfl, _, (ResL.cons (ResR.tmp rfl) (ResL.cons (ResR.tmp rfl) (ResL.cons (ResR.tmp rfl) ResL.nil))), ?_⟩
   exact ⟨(), trivial, by unfold bndF; rw [if_pos (.inr (.inr (.inr (by rw [hsy]; omega))))]; rfl, Lh⟩
  obtain ⟨k, rfl⟩ := Int.eq_ofNat_of_zero_le (show 0 ≤ k by omega)
  obtain ⟨x, hx⟩ : ∃ x, o.fSymbols[k]? = some x := ⟨_, List.getElem?_eq_getElem (by omega)⟩
  obtain ⟨e2, cs2, hE2⟩ := q0.elm hx
  obtain rfl := kApiSymbol_open hE2.K
  have hso := symOf_eq ho hx
  have hin : ¬ ((i : Int) < 0 ∨ (l.length : Int) ≤ (i : Int) ∨ (k : Int) < 0 ∨ ((symsAt l (i : Int)).length : Int) ≤ (k : Int)) := by rw [hsy]; omega
  refine wSkip (thn_n (wSeq (wRegion' (oMove rfl (oMove rfl (oIdxE rfl rfl (hE) (by omega) rfl rfl ?_))))))
  have hc38 := (hE).cell
  first | refine oFldX (n := 0) (m := 0) rfl rfl rfl ?_ | refine oFldR (n := 0) (m := 0) rfl rfl rfl ?_ | refine oFldD (n := 0) (m := 0) rfl rfl rfl ?_
  first | refine oLdX rfl hc38 rfl rfl ?_ | refine oLdXA rfl hc38 rfl (by repeat constructor) ?_ | (refine oLdR1 rfl (by repeat constructor) (by omega) rfl (fun u40 hu40 => ?_))
  refine oMove rfl (oIdxE rfl rfl (hE2) (by omega) rfl rfl ?_)
  have hc42 := (hE2).cell
  first | refine oLdX rfl hc42 rfl rfl ?_ | refine oLdXA rfl hc42 rfl (by repeat constructor) ?_ | (refine oLdR1 rfl (by repeat constructor) (by omega) rfl (fun u43 hu43 => ?_))
  refine oAlloc rfl (by repeat constructor) (fun b9 => ?_)
  refine oStA rfl rfl rfl rfl (by repeat constructor) (by rfl) ?_
  refine oNil (thn_n (wSeq (wSeq (wRegion' (oFld (n := 4) (m := 4) rfl rfl rfl (oLd rfl (by repeat constructor) rfl rfl ?_))))))
  refine oNeq rfl rfl (oNil (thn_n (wC (fun h46 => ?_) (fun h46 => ?_))))
  ·
   refine wSeq (wRegion' (oMove rfl (oMove rfl (oAssign rfl (oAssign rfl (oAssign rfl (oNil (thn_n (wRet (thn_r (fin_r ?_)))))))))))
   refine ⟨rfl, _, (ResL.cons (ResR.tmp rfl) (ResL.cons (ResR.tmp rfl) (ResL.cons (ResR.tmp rfl) ResL.nil))), ?_⟩
   exact ⟨(), trivial, by unfold bndF; rw [if_neg hin, hso, if_pos h46]; rfl, Lh⟩
  refine wSkip (thn_n (wSeq (wRegion' (oMove rfl (oFld (n := 0) (m := 0) rfl rfl rfl (oLd rfl (by repeat constructor) rfl rfl ?_))))))
  (refine oCall rfl (by kernel_rfl) (fun w hS => frame hS (by repeat' constructor) (fun B' hB hS' => ref23_Find hS' A cp l (Kd.C_grow hB hC) hsm x.fName)) ?_; rintro ⟨⟩ -)
  refine oMove rfl (oExt rfl (by repeat constructor) ?_)
  refine oExt rfl (by repeat constructor) ?_
  refine oExt rfl (by repeat constructor) ?_
  refine oAssign rfl (oAssign rfl (oAssign rfl (oNil (thn_n (wSeq (wSeq (wRegion' (oMove rfl ?_))))))))
  first | refine oNot rfl ?_ | refine oNotB rfl ?_
  refine oNil (thn_n (wC (fun h58 => ?_) (fun h58 => ?_)))
  ·
   refine wSeq (wRegion' (oAssign rfl (oAssign rfl (oAssign rfl (oNil (thn_n (wRet (thn_r (fin_r ?_)))))))))
   refine ⟨rfl, _, (ResL.cons (ResR.tmp rfl) (ResL.cons (ResR.tmp rfl) (ResL.cons (ResR.tmp rfl) ResL.nil))), ?_⟩
   have hn : (fnd l x.fName).2.2 = false := by simpa using h58
   exact ⟨(), trivial, by unfold bndF; rw [if_neg hin, hso, if_neg h46, if_pos hn]; rfl, Lh⟩
  have hf : (fnd l x.fName).2.2 = true := by simpa using h58
  obtain ⟨i2, k2, o2, y, hfe, ho2, hy, hgy⟩ := fnd_some hf
  have hso2 := symOf_eq ho2 hy
  have hil2 := (List.getElem?_eq_some_iff.1 ho2).1
  have hkl2 := (List.getElem?_eq_some_iff.1 hy).1
  obtain ⟨e3, cs3, hE3⟩ := hC.elm ho2
  obtain ⟨C0, f0, C1, f1, C2, f2, rfl, n0, r0, n1, r1, n2, r2⟩ := kApiObject_open hE3.K
  obtain ⟨e4, cs4, hE4⟩ := r0.elm hy
  obtain rfl := kApiSymbol_open hE4.K
  rw [hfe]
  dsimp only
  refine wSkip (thn_n (wSeq (wSeq (wRegion' (oMove rfl (oMove rfl (oIdxE rfl rfl (hE3) (by omega) rfl rfl ?_)))))))
  have hc61 := (hE3).cell
  first | refine oFldX (n := 0) (m := 0) rfl rfl rfl ?_ | refine oFldR (n := 0) (m := 0) rfl rfl rfl ?_ | refine oFldD (n := 0) (m := 0) rfl rfl rfl ?_
  first | refine oLdX rfl hc61 rfl rfl ?_ | refine oLdXA rfl hc61 rfl (by repeat constructor) ?_ | (refine oLdR1 rfl (by repeat constructor) (by omega) rfl (fun u63 hu63 => ?_))
  refine oMove rfl (oIdxE rfl rfl (hE4) (by omega) rfl rfl ?_)
  have hc65 := (hE4).cell
  first | refine oLdX rfl hc65 rfl rfl ?_ | refine oLdXA rfl hc65 rfl (by repeat constructor) ?_ | (refine oLdR1 rfl (by repeat constructor) (by omega) rfl (fun u66 hu66 => ?_))
  refine oAlloc rfl (by repeat constructor) (fun b13 => ?_)
  refine oStA rfl rfl rfl rfl (by repeat constructor) (by rfl) ?_
  refine oNil (thn_n (wSeq (wRegion' (oFld (n := 2) (m := 2) rfl rfl rfl (oLd rfl (by repeat constructor) rfl rfl ?_)))))
  refine oFld (n := 2) (m := 2) rfl rfl rfl (oLd rfl (by repeat constructor) rfl rfl ?_)
  refine oNeq rfl rfl (oMove rfl ?_)
  first | refine oSplit (t := 72) rfl (fun h72 => ?_) (fun h72 => ?_) | refine oSplitB (t := 72) rfl (fun h72 => ?_) (fun h72 => ?_)
  ·
   refine oSkip rfl rfl rfl rfl (oSkip rfl rfl rfl rfl (oSkip rfl rfl rfl rfl (oSkip rfl rfl rfl rfl (oSkip rfl rfl rfl rfl (oPickT rfl rfl (oNil (thn_n ?_)))))))
   first | refine wCondT rfl ?_ | refine wCondTd h78 rfl ?_ | refine wCondTb h78 rfl ?_
   refine wSeq (wRegion' (oAssign rfl (oAssign rfl (oAssign rfl (oNil (thn_n (wRet (thn_r (fin_r ?_)))))))))
   refine ⟨rfl, _, (ResL.cons (ResR.tmp rfl) (ResL.cons (ResR.tmp rfl) (ResL.cons (ResR.tmp rfl) ResL.nil))), ?_⟩
   exact ⟨(), trivial, by unfold bndF; rw [if_neg hin, hso, if_neg h46, if_neg (by rw [hfe]; simp), hfe]; dsimp only; rw [hso2, if_pos (by simp_all <;> omega)]; rfl, Lh⟩
  refine oWant rfl rfl (oFld (n := 3) (m := 3) rfl rfl rfl (oWant rfl rfl (oLd rfl (by repeat constructor) rfl rfl ?_)))
  refine oWant rfl rfl (oFld (n := 3) (m := 3) rfl rfl rfl (oWant rfl rfl (oLd rfl (by repeat constructor) rfl rfl ?_)))
  refine oWant rfl rfl (oNeq rfl rfl (oPickF rfl rfl (oNil (thn_n (wC (fun h78 => ?_) (fun h78 => ?_))))))
  ·
   refine wSeq (wRegion' (oAssign rfl (oAssign rfl (oAssign rfl (oNil (thn_n (wRet (thn_r (fin_r ?_)))))))))
   refine ⟨rfl, _, (ResL.cons (ResR.tmp rfl) (ResL.cons (ResR.tmp rfl) (ResL.cons (ResR.tmp rfl) ResL.nil))), ?_⟩
   exact ⟨(), trivial, by unfold bndF; rw [if_neg hin, hso, if_neg h46, if_neg (by rw [hfe]; simp), hfe]; dsimp only; rw [hso2, if_pos (by simp_all <;> omega)]; rfl, Lh⟩
  refine wSkip (thn_n (wSeq (wRegion' (oMove rfl (oMove rfl (oAssign rfl (oAssign rfl (oAssign rfl (oNil (thn_n (wRet ?_)))))))))))
  refine fin_r ?_
  refine ⟨rfl, _, (ResL.cons (ResR.tmp rfl) (ResL.cons (ResR.tmp rfl) (ResL.cons (ResR.tmp rfl) ResL.nil))), ?_⟩
  exact ⟨(), trivial, by unfold bndF; rw [if_neg hin, hso, if_neg h46, if_neg (by rw [hfe]; simp), hfe]; dsimp only; rw [hso2, if_neg (by simp_all <;> omega)]; rfl, Lh⟩
end Go.Proofs.YtogaiijhicfoaaaGreatW
