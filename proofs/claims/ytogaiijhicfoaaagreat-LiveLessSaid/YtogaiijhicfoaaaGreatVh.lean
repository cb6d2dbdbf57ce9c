import Derived.Test.YtogaiijhicfoaaaGreatVg

/-
  Package verify: Instr, Check, Class; the reference's Sym, Class.
-/
namespace Go.Proofs.YtogaiijhicfoaaaGreatV
set_option linter.unusedVariables false
set_option linter.unusedSimpArgs false
open Go.RowKit Go.Proofs.YtogaiijhicfoaaaGreatK Go.Proofs.YtogaiijhicfoaaaGreatT Go.Proofs.YtogaiijhicfoaaaGreatL

def instrF (f : ApiFunc) (l : List ApiSymbol) (i : Int) : Int := if i < 0 ∨ (f.fCode.length : Int) ≤ i then 2 else if refE f l i ≠ 0 then refE f l i else if (codeAt f i).fOp = 20 then (if isC (codeAt f i).fC then operF f (codeAt f i) (codeAt f i).fC else 14) else if (codeAt f i).fOp = 21 then (if latF (refS f l i).fKind then operF f (codeAt f i) (refS f l i).fKind else 14) else if (codeAt f i).fOp = 18 then operF f (codeAt f i) (IntKind.i64.wrap ((refS f l i).fKind - 1)) else operF f (codeAt f i) (refS f l i).fKind
def insL (f : ApiFunc) (l : List ApiSymbol) : List Int := (List.range f.fCode.length).map fun i : Nat => instrF f l (i : Int)
abbrev non0 (e : Int) : Bool := decide (e ≠ 0)
def chkE (f : ApiFunc) (l : List ApiSymbol) : Int := if funF f ≠ 0 then funF f else fstE (insL f l)
def chkI (f : ApiFunc) (l : List ApiSymbol) : Int := if funF f ≠ 0 then -1 else idxI non0 (insL f l)
set_option maxRecDepth 100000 in
theorem ref5_Is {B : Base} {w : World} (hS : St B [] w) (c : Int) :
    CallsIn Fence.wide 0 Tryz.prog 184 #[.int .i64 c] w (Ret B (fun _ : Unit => True) (fun _ => .bool (isC c)) (fun _ => [])) := by
  (refine enter Tryz.func184 rfl rfl hS ?_; simp only [List.zipIdx_cons, List.zipIdx_nil, List.map_cons, List.map_nil, Nat.reduceAdd, Nat.zero_add])
  refine wSeq (wRegion' (oAssign rfl (oNil (thn_n (wSeq (wRegion' (oMove rfl (oGeq rfl rfl (oMove rfl ?_)))))))))
  first | refine oSplit (t := 5) rfl (fun h5 => ?_) (fun h5 => ?_) | refine oSplitB (t := 5) rfl (fun h5 => ?_) (fun h5 => ?_)
  ·
   refine oWant rfl rfl (oMove rfl (oWant rfl rfl (oLeq rfl rfl (oPickT rfl rfl (oAssign rfl (oNil (thn_n (wRet (fin_r (fi1 rfl ?_))))))))))
   exact ⟨(), trivial, by simp_all [resVal, isC] <;> omega, Lh⟩
  refine oSkip rfl rfl rfl rfl (oSkip rfl rfl rfl rfl (oPickF rfl rfl (oAssign rfl (oNil (thn_n (wRet (fin_r (fi1 rfl ?_))))))))
  exact ⟨(), trivial, by simp_all [resVal, isC] <;> omega, Lh⟩
set_option maxRecDepth 100000 in
theorem ref17_Sym {B : Base} {w : World} (hS : St B [] w) (f : ApiFunc) (fc : List Value) (hf : kApiFunc.K B.e f fc) (i : Int) :
    CallsIn Fence.wide 0 Tryz.prog 135 #[.agg fc.toArray, .int .i64 i] w (Ret B (fun _ : Unit => True) (fun _ => .int .i64 (symF f i)) (fun _ => [])) := by
  obtain ⟨A0, c0, A1, c1, A2, c2, A3, c3, rfl, l0, g0, l1, g1, l2, g2, l3, g3⟩ := kApiFunc_open hf
  have hcl := g3.1
  (refine enter Tryz.func135 rfl rfl hS ?_; simp only [List.zipIdx_cons, List.zipIdx_nil, List.map_cons, List.map_nil, Nat.reduceAdd, Nat.zero_add])
  refine wSeq (wRegion' (oBox rfl (by repeat constructor) (fun b2 => ?_)))
  refine oAssign rfl (oNil (thn_n (wSeq (wSeq (wRegion' (oAssign rfl (oNil (thn_n (wBlock (wLoop (ι := Nat) (fun j => [(1, .int .i64 i), (2, .pointer (some ⟨b2, 0, none⟩)), (5, .int .i64 (j : Int))]) (fun j => [blk b2 47 [.int .i64 f.fClass, .slice A0 f.fKinds.length c0, .int .i64 f.fPad, .bool f.fNosplit, .int .i64 f.fFrom, .int .i64 f.fTo, .slice A1 f.fLines.length c1, .slice A2 f.fCode.length c2, .slice A3 f.fRelocs.length c3]]) (fun j => j ≤ f.fRelocs.length ∧ ∀ y ∈ f.fRelocs.take j, atR i y = false) (fun j => f.fRelocs.length - j) 0 ?_ cv Lh ?_))))))))))
  ·
   exact ⟨Nat.zero_le _, by simp⟩
  rintro j ⟨hj, hs⟩
  try dsimp only
  refine wSeq (wSeq (wRegion' (oMove rfl (oFld (n := 8) (m := 8) rfl rfl rfl (oLd rfl (by repeat constructor) rfl rfl ?_)))))
  refine oLenS rfl rfl (oLss rfl rfl (oNil (thn_n (wC (fun h10 => ?_) (fun h10 => ?_)))))
  ·
   obtain ⟨x, hx⟩ : ∃ x, f.fRelocs[j]? = some x := ⟨_, List.getElem?_eq_getElem (by omega)⟩
   obtain ⟨e1, cs1, hE⟩ := g3.elm hx
   obtain rfl := kApiReloc_open hE.K
   refine wSkip (thn_n (wSeq (wBlock (wSeq (wRegion' (oFld (n := 8) (m := 8) rfl rfl rfl (oLd rfl (by repeat constructor) rfl rfl ?_)))))))
   refine oMove rfl (oIdxE rfl rfl (hE) (by omega) rfl rfl ?_)
   have hc16 := (hE).cell
   first | refine oFldX (n := 0) (m := 0) rfl rfl rfl ?_ | refine oFldR (n := 0) (m := 0) rfl rfl rfl ?_ | refine oFldD (n := 0) (m := 0) rfl rfl rfl ?_
   first | refine oLdX rfl hc16 rfl rfl ?_ | refine oLdXA rfl hc16 rfl (by repeat constructor) ?_ | (refine oLdR1 rfl (by repeat constructor) (by omega) rfl (fun u18 hu18 => ?_))
   refine oMove rfl (oEql rfl rfl (oNil (thn_n (wC (fun h20 => ?_) (fun h20 => ?_)))))
   ·
    refine wSeq (wRegion' (oFld (n := 8) (m := 8) rfl rfl rfl (oLd rfl (by repeat constructor) rfl rfl ?_)))
    refine oMove rfl (oIdxE rfl rfl (hE) (by omega) rfl rfl ?_)
    have hc24 := (hE).cell
    first | refine oFldX (n := 1) (m := 1) rfl rfl rfl ?_ | refine oFldR (n := 1) (m := 1) rfl rfl rfl ?_ | refine oFldD (n := 1) (m := 1) rfl rfl rfl ?_
    first | refine oLdX rfl hc24 rfl rfl ?_ | refine oLdXA rfl hc24 rfl (by repeat constructor) ?_ | (refine oLdR1 rfl (by repeat constructor) (by omega) rfl (fun u26 hu26 => ?_))
    refine oAssign rfl (oNil (thn_n (wRet (blk_r (thn_r (thn_r (blk_r (thn_r (fin_r (fi1 rfl ?_))))))))))
    have hm : markF f i = (j : Int) := idxI_stop hs hx (decide_eq_true h20)
    have hsy : symF f i = x.fSym := by unfold symF; rw [hm, if_neg (by omega), Int.toNat_natCast, List.getD_eq_getElem?_getD, hx]; rfl
    exact ⟨(), trivial, by rw [hsy]; rfl, Lh⟩
   refine wSkip (blk_n (thn_n (wRegion' (oMove rfl (oSucc rfl rfl (by omega) ?_)))))
   refine oAssign rfl (oNil (thn_n ?_))
   exact ⟨rfl, j + 1, ⟨by omega, take_not hs hx (decide_eq_false h20)⟩, by omega, cv, Lh⟩
  refine wExit (thn_x (thn_x (blk_x (thn_n (wSeq (wRegion' (oAssign rfl (oNil (thn_n (wRet (fin_r ?_)))))))))))
  refine fi1 rfl ?_
  obtain rfl : j = f.fRelocs.length := by omega
  rw [List.take_length] at hs
  have hm : markF f i = -1 := idxI_none hs
  exact ⟨(), trivial, by unfold symF; rw [hm, if_pos (by decide)]; rfl, Lh⟩
end Go.Proofs.YtogaiijhicfoaaaGreatV
