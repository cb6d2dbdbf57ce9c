import Derived.Test.YtogaiijhicfoaaaGreatWf

/-
  The reference of data: Check.
-/
namespace Go.Proofs.YtogaiijhicfoaaaGreatW
set_option linter.unusedVariables false
set_option linter.unusedSimpArgs false
open Go.RowKit Go.Proofs.YtogaiijhicfoaaaGreatK Go.Proofs.YtogaiijhicfoaaaGreatT Go.Proofs.YtogaiijhicfoaaaGreatL Go.Proofs.YtogaiijhicfoaaaGreatV

def dRelE (d : ApiData) (l : List ApiSymbol) (i : Nat) (x : ApiReloc) : Int :=
  if d.fKind = 0 ∨ x.fAt < 0 ∨ (d.fWords.length : Int) ≤ x.fAt ∨ (0 < i ∧ x.fAt ≤ (d.fRelocs.getD (i - 1) default).fAt) ∨ x.fSym < 0 ∨ (l.length : Int) ≤ x.fSym then 11 else
  if (l.getD x.fSym.toNat default).fSort ≠ 1 ∨ (l.getD x.fSym.toNat default).fKind ≠ d.fKind - 1 then 8 else 0
def relE (d : ApiData) (l : List ApiSymbol) (i : Nat) : Int := dRelE d l i (d.fRelocs.getD i default)
def dataF (d : ApiData) (l : List ApiSymbol) : Int :=
  if textF d.fKind = ByteArray.empty then 8 else if 32 < d.fWords.length then 6 else
  if d.fWords.any (fun w => decide (d.fKind ≠ 0 ∧ w ≠ 0)) then 2 else fstE ((List.range d.fRelocs.length).map (relE d l))
theorem relE_at {d : ApiData} {l : List ApiSymbol} {i : Nat} {x : ApiReloc} (h : d.fRelocs[i]? = some x) : relE d l i = dRelE d l i x := by
  unfold relE; rw [List.getD_eq_getElem?_getD, h]; rfl
theorem any_not {α : Type} {p : α → Bool} {l : List α} (h : ∀ y ∈ l, p y = false) : l.any p = false := List.any_eq_false.2 (fun y hy => by rw [h y hy]; simp)
theorem any_hit {α : Type} {p : α → Bool} {l : List α} {i : Nat} {x : α} (hi : l[i]? = some x) (h : p x = true) : l.any p = true := List.any_eq_true.2 ⟨x, List.mem_of_getElem? hi, h⟩
abbrev dWordP (d : ApiData) (w : Int) : Bool := decide (d.fKind ≠ 0 ∧ w ≠ 0)
set_option maxRecDepth 100000 in
set_option maxHeartbeats 1000000 in
theorem ref15_Check {B : Base} {w : World} (hS : St B [] w) (d : ApiData) (dc : List Value) (hd : kApiData.K B.e d dc) (hk : in64 d.fKind) (hl2 : d.fRelocs.length ≤ 100000) (Al : Option Addr) (cl : Nat) (l : List ApiSymbol) (hC : kApiSymbol.C B.e Al l) :
    CallsIn Fence.wide 0 Tryz.prog 186 #[.agg dc.toArray, .slice Al l.length cl] w (Ret B (fun _ : Unit => True) (fun _ => .int .i64 (dataF d l)) (fun _ => [])) := by
  obtain ⟨A0, c0, A1, c1, rfl, l0, g0, l1, g1⟩ := kApiData_open hd
  have hw1 := g0.1
  (refine enter Tryz.func186 rfl rfl hS ?_; simp only [List.zipIdx_cons, List.zipIdx_nil, List.map_cons, List.map_nil, Nat.reduceAdd, Nat.zero_add])
  refine wSeq (wRegion' (oBox rfl (by repeat constructor) (fun b2 => ?_)))
  refine oAssign rfl (oNil (thn_n (wSeq (wSeq (wRegion' (oFld (n := 0) (m := 0) rfl rfl rfl (oLd rfl (by repeat constructor) rfl rfl ?_)))))))
  (refine oCall rfl (by kernel_rfl) (fun w hS => frame hS (by repeat' constructor) (fun B' hB hS' => ref5_Text hS' d.fKind hk)) ?_; rintro ⟨⟩ -)
  refine oSEq rfl rfl (oNil (thn_n (wC (fun h11 => ?_) (fun h11 => ?_))))
  ·
   have h11 : textF d.fKind = ByteArray.empty := h11
   refine wSeq (wRegion' (oAssign rfl (oNil (thn_n (wRet (thn_r (fin_r (fi1 rfl ?_))))))))
   exact ⟨(), trivial, by unfold dataF; rw [if_pos h11]; rfl, Lh⟩
  have h11 : ¬ textF d.fKind = ByteArray.empty := h11
  have hk0 : 0 ≤ d.fKind := (Classical.not_not.1 (fun h => h11 (textF_no.2 h))).1
  refine wSkip (thn_n (wSeq (wSeq (wRegion' (oFld (n := 1) (m := 1) rfl rfl rfl (oLd rfl (by repeat constructor) rfl rfl ?_))))))
  refine oLenS rfl rfl (oGtr rfl rfl (oNil (thn_n (wC (fun h15 => ?_) (fun h15 => ?_)))))
  ·
   refine wSeq (wRegion' (oAssign rfl (oNil (thn_n (wRet (thn_r (fin_r (fi1 rfl ?_))))))))
   exact ⟨(), trivial, by unfold dataF; rw [if_neg h11, if_pos (by omega)]; rfl, Lh⟩
  have hn32 : ¬ 32 < d.fWords.length := by omega
  refine wSkip (thn_n (wSeq (wSeq (wRegion' (oAssign rfl (oNil (thn_n (wBlock (wLoop (ι := Nat) (fun i => [(1, .slice Al l.length cl), (2, .pointer (some ⟨b2, 0, none⟩)), (5, .int .i64 (i : Int))]) (fun i => [blk b2 96 [.int .i64 d.fKind, .slice A0 d.fWords.length c0, .slice A1 d.fRelocs.length c1]]) (fun i => i ≤ d.fWords.length ∧ ∀ y ∈ d.fWords.take i, dWordP d y = false) (fun i => d.fWords.length - i) 0 ?_ cv Lh ?_)))))))))
  ·
   exact ⟨Nat.zero_le _, by simp⟩
  rintro i ⟨hi, hs⟩
  try dsimp only
  refine wSeq (wSeq (wRegion' (oMove rfl (oFld (n := 1) (m := 1) rfl rfl rfl (oLd rfl (by repeat constructor) rfl rfl ?_)))))
  refine oLenS rfl rfl (oLss rfl rfl (oNil (thn_n (wC (fun h20 => ?_) (fun h20 => ?_)))))
  ·
   obtain ⟨x, hx⟩ : ∃ x, d.fWords[i]? = some x := ⟨_, List.getElem?_eq_getElem (by omega)⟩
   obtain ⟨e1, cs1, hE⟩ := g0.elm hx
   obtain rfl := (show cs1 = [Value.int .i64 x] from hE.K)
   refine wSkip (thn_n (wSeq (wBlock (wSeq (wRegion' (oFld (n := 0) (m := 0) rfl rfl rfl (oLd rfl (by repeat constructor) rfl rfl ?_)))))))
   refine oNeq rfl rfl (oMove rfl ?_)
   first | refine oSplit (t := 26) rfl (fun h26 => ?_) (fun h26 => ?_) | refine oSplitB (t := 26) rfl (fun h26 => ?_) (fun h26 => ?_)
   ·
    refine oWant rfl rfl (oFld (n := 1) (m := 1) rfl rfl rfl (oWant rfl rfl (oLd rfl (by repeat constructor) rfl rfl ?_)))
    refine oWant rfl rfl (oMove rfl (oWant rfl rfl (oIdxE rfl rfl (hE) (by omega) rfl rfl ?_)))
    have hc30 := (hE).cell
    refine oWant rfl rfl ?_
    first | refine oLdX rfl hc30 rfl rfl ?_ | refine oLdXA rfl hc30 rfl (by repeat constructor) ?_ | (refine oLdR1 rfl (by repeat constructor) (by omega) rfl (fun u31 hu31 => ?_))
    refine oWant rfl rfl (oNeq rfl rfl (oPickT rfl rfl (oNil (thn_n (wC (fun h33 => ?_) (fun h33 => ?_))))))
    ·
     refine wSeq (wRegion' (oAssign rfl (oNil (thn_n (wRet (blk_r (thn_r (thn_r (blk_r (thn_r (fin_r ?_)))))))))))
     refine fi1 rfl ?_
     exact ⟨(), trivial, by unfold dataF; rw [if_neg h11, if_neg hn32, if_pos (any_hit hx (decide_eq_true (by simp_all)))]; rfl, Lh⟩
    refine wSkip (blk_n (thn_n (wRegion' (oMove rfl (oSucc rfl rfl (by omega) ?_)))))
    refine oAssign rfl (oNil (thn_n ?_))
    exact ⟨rfl, i + 1, ⟨by omega, take_not hs hx (decide_eq_false (by simp_all))⟩, by omega, cv, Lh⟩
   refine oSkip rfl rfl rfl rfl (oSkip rfl rfl rfl rfl (oSkip rfl rfl rfl rfl (oSkip rfl rfl rfl rfl (oSkip rfl rfl rfl rfl (oSkip rfl rfl rfl rfl (oPickF rfl rfl (oNil (thn_n ?_))))))))
   first | refine wCondF rfl ?_ | refine wCondFd h33 rfl ?_ | refine wCondFb h33 rfl ?_
   refine wSkip (blk_n (thn_n (wRegion' (oMove rfl (oSucc rfl rfl (by omega) ?_)))))
   refine oAssign rfl (oNil (thn_n ?_))
   exact ⟨rfl, i + 1, ⟨by omega, take_not hs hx (decide_eq_false (by simp_all))⟩, by omega, cv, Lh⟩
  obtain rfl : i = d.fWords.length := by omega
  rw [List.take_length] at hs
  have hdF : dataF d l = fstE ((List.range d.fRelocs.length).map (relE d l)) := by unfold dataF; rw [if_neg h11, if_neg hn32, any_not hs]; rfl
  refine wExit (thn_x (thn_x (blk_x (thn_n (wSeq (wSeq (wRegion' (oAssign rfl (oNil (thn_n (wBlock ?_)))))))))))
  refine wLoop (ι := Nat) (fun i => [(1, .slice Al l.length cl), (2, .pointer (some ⟨b2, 0, none⟩)), (6, .int .i64 (i : Int))]) (fun i => [blk b2 96 [.int .i64 d.fKind, .slice A0 d.fWords.length c0, .slice A1 d.fRelocs.length c1]]) (fun i => i ≤ d.fRelocs.length ∧ fstE (((List.range d.fRelocs.length).map (relE d l)).take i) = 0) (fun i => d.fRelocs.length - i) 0 ?_ cv Lh ?_
  ·
   exact ⟨Nat.zero_le _, rfl⟩
  rintro i ⟨hi, hs⟩
  try dsimp only
  refine wSeq (wSeq (wRegion' (oMove rfl (oFld (n := 2) (m := 2) rfl rfl rfl (oLd rfl (by repeat constructor) rfl rfl ?_)))))
  refine oLenS rfl rfl (oLss rfl rfl (oNil (thn_n (wC (fun h38 => ?_) (fun h38 => ?_)))))
  ·
   obtain ⟨x, hx⟩ : ∃ x, d.fRelocs[i]? = some x := ⟨_, List.getElem?_eq_getElem (by omega)⟩
   obtain ⟨e1, cs1, hE⟩ := g1.elm hx
   obtain rfl := kApiReloc_open hE.K
   have hre : ((List.range d.fRelocs.length).map (relE d l))[i]? = some (relE d l i) := rmap_at (by omega)
   have hrx := relE_at (l := l) hx
   refine wSkip (thn_n (wSeq (wBlock (wSeq (wRegion' (oFld (n := 2) (m := 2) rfl rfl rfl (oLd rfl (by repeat constructor) rfl rfl ?_)))))))
   refine oMove rfl (oIdxE rfl rfl (hE) (by omega) rfl rfl ?_)
   have hc44 := (hE).cell
   first | refine oLdX rfl hc44 rfl rfl ?_ | refine oLdXA rfl hc44 rfl (by repeat constructor) ?_ | (refine oLdR1 rfl (by repeat constructor) (by omega) rfl (fun u45 hu45 => ?_))
   refine oAlloc rfl (by repeat constructor) (fun b7 => ?_)
   refine oStA rfl rfl rfl rfl (by repeat constructor) (by rfl) ?_
   refine oNil (thn_n (wSeq (wSeq (wDraw2 rfl rfl [] [0, 1, 2, 3, 4, 5, 6, 7, 8, 9, 10, 11, 12, 13, 14, 15, 16, 17, 18, 19, 20, 21, 22, 23, 24, 25, 26, 27, 28, 29, 30, 31, 32, 33, 34, 35, 36, 37, 38, 39, 40, 41, 42] 43 (by kernel_rfl) rfl rfl rfl (fun w0 => ?_)))))
   refine oFld (n := 0) (m := 0) rfl rfl rfl (oLd rfl (by repeat constructor) rfl rfl ?_)
   refine oEql rfl rfl (oMove rfl ?_)
   first | refine oSplit (t := 49) rfl (fun h49 => ?_) (fun h49 => ?_) | refine oSplitB (t := 49) rfl (fun h49 => ?_) (fun h49 => ?_)
   ·
    refine oSkip rfl rfl rfl rfl (oSkip rfl rfl rfl rfl (oSkip rfl rfl rfl rfl (oPickT rfl rfl (oMove rfl (oSkip rfl rfl rfl rfl (oSkip rfl rfl rfl rfl (oSkip rfl rfl rfl rfl (oSkip rfl rfl rfl rfl (oSkip rfl rfl rfl rfl (oSkip rfl rfl rfl rfl (oPickT rfl rfl ?_)))))))))))
    refine oMove rfl (oSkip rfl rfl rfl rfl (oSkip rfl rfl rfl rfl (oSkip rfl rfl rfl rfl (oSkipU rfl rfl rfl (oSkipU rfl rfl rfl (oSkipU rfl rfl rfl (oSkipU rfl rfl rfl (oSkipU rfl rfl rfl (oSkipU rfl rfl rfl (oSkipU rfl rfl rfl (oSkipU rfl rfl rfl ?_)))))))))))
    refine oSkipU rfl rfl rfl (oSkipU rfl rfl rfl (oSkip rfl rfl rfl rfl (oPickT rfl rfl (oMove rfl (oSkip rfl rfl rfl rfl (oSkip rfl rfl rfl rfl (oSkip rfl rfl rfl rfl (oPickT rfl rfl (oMove rfl (oSkip rfl rfl rfl rfl (oSkip rfl rfl rfl rfl ?_)))))))))))
    refine oSkip rfl rfl rfl rfl (oSkip rfl rfl rfl rfl (oSkip rfl rfl rfl rfl (oHead (oPickT rfl rfl (oNilT (thn_n ?_))))))
    first | refine wCondT rfl ?_ | refine wCondTd h89 rfl ?_ | refine wCondTb h89 rfl ?_
    refine wSeq (wRegion' (oAssign rfl (oNil (thn_n (wRet (thn_r (blk_r (thn_r (thn_r (blk_r (thn_r ?_)))))))))))
    refine fin_r (fi1 rfl ?_)
    exact ⟨(), trivial, by rw [hdF, fstE_stop hs hre (by rw [hrx]; unfold dRelE; rw [if_pos (by first | omega | (rw [hy']; omega))]; decide), hrx]; unfold dRelE; rw [if_pos (by first | omega | (rw [hy']; omega))]; rfl, Lh⟩
   refine oWant rfl rfl (oFld (n := 0) (m := 0) rfl rfl rfl (oWant rfl rfl (oLd rfl (by repeat constructor) rfl rfl ?_)))
   refine oWant rfl rfl (oLss rfl rfl (oPickF rfl rfl (oMove rfl ?_)))
   first | refine oSplit (t := 54) rfl (fun h54 => ?_) (fun h54 => ?_) | refine oSplitB (t := 54) rfl (fun h54 => ?_) (fun h54 => ?_)
   ·
    refine oSkip rfl rfl rfl rfl (oSkip rfl rfl rfl rfl (oSkip rfl rfl rfl rfl (oSkip rfl rfl rfl rfl (oSkip rfl rfl rfl rfl (oSkip rfl rfl rfl rfl (oPickT rfl rfl (oMove rfl (oSkip rfl rfl rfl rfl (oSkip rfl rfl rfl rfl (oSkip rfl rfl rfl rfl (oSkipU rfl rfl rfl ?_)))))))))))
    refine oSkipU rfl rfl rfl (oSkipU rfl rfl rfl (oSkipU rfl rfl rfl (oSkipU rfl rfl rfl (oSkipU rfl rfl rfl (oSkipU rfl rfl rfl (oSkipU rfl rfl rfl (oSkipU rfl rfl rfl (oSkipU rfl rfl rfl (oSkip rfl rfl rfl rfl (oPickT rfl rfl (oMove rfl ?_)))))))))))
    refine oSkip rfl rfl rfl rfl (oSkip rfl rfl rfl rfl (oSkip rfl rfl rfl rfl (oPickT rfl rfl (oMove rfl (oSkip rfl rfl rfl rfl (oSkip rfl rfl rfl rfl (oSkip rfl rfl rfl rfl (oSkip rfl rfl rfl rfl (oSkip rfl rfl rfl rfl (oHead (oPickT rfl rfl ?_)))))))))))
    refine oNilT (thn_n ?_)
    first | refine wCondT rfl ?_ | refine wCondTd h89 rfl ?_ | refine wCondTb h89 rfl ?_
    refine wSeq (wRegion' (oAssign rfl (oNil (thn_n (wRet (thn_r (blk_r (thn_r (thn_r (blk_r (thn_r ?_)))))))))))
    refine fin_r (fi1 rfl ?_)
    exact ⟨(), trivial, by rw [hdF, fstE_stop hs hre (by rw [hrx]; unfold dRelE; rw [if_pos (by first | omega | (rw [hy']; omega))]; decide), hrx]; unfold dRelE; rw [if_pos (by first | omega | (rw [hy']; omega))]; rfl, Lh⟩
   refine oWant rfl rfl (oFld (n := 0) (m := 0) rfl rfl rfl (oWant rfl rfl (oLd rfl (by repeat constructor) rfl rfl ?_)))
   refine oWant rfl rfl (oFld (n := 1) (m := 1) rfl rfl rfl (oWant rfl rfl (oLd rfl (by repeat constructor) rfl rfl ?_)))
   refine oWant rfl rfl (oLenS rfl rfl (oWant rfl rfl (oGeq rfl rfl (oPickF rfl rfl (oMove rfl ?_)))))
   first | refine oSplit (t := 62) rfl (fun h62 => ?_) (fun h62 => ?_) | refine oSplitB (t := 62) rfl (fun h62 => ?_) (fun h62 => ?_)
   ·
    refine oSkip rfl rfl rfl rfl (oSkip rfl rfl rfl rfl (oSkip rfl rfl rfl rfl (oSkipU rfl rfl rfl (oSkipU rfl rfl rfl (oSkipU rfl rfl rfl (oSkipU rfl rfl rfl (oSkipU rfl rfl rfl (oSkipU rfl rfl rfl (oSkipU rfl rfl rfl (oSkipU rfl rfl rfl (oSkipU rfl rfl rfl ?_)))))))))))
    refine oSkipU rfl rfl rfl (oSkip rfl rfl rfl rfl (oPickT rfl rfl (oMove rfl (oSkip rfl rfl rfl rfl (oSkip rfl rfl rfl rfl (oSkip rfl rfl rfl rfl (oPickT rfl rfl (oMove rfl (oSkip rfl rfl rfl rfl (oSkip rfl rfl rfl rfl (oSkip rfl rfl rfl rfl ?_)))))))))))
    refine oSkip rfl rfl rfl rfl (oSkip rfl rfl rfl rfl (oHead (oPickT rfl rfl (oNilT (thn_n ?_)))))
    first | refine wCondT rfl ?_ | refine wCondTd h89 rfl ?_ | refine wCondTb h89 rfl ?_
    refine wSeq (wRegion' (oAssign rfl (oNil (thn_n (wRet (thn_r (blk_r (thn_r (thn_r (blk_r (thn_r ?_)))))))))))
    refine fin_r (fi1 rfl ?_)
    exact ⟨(), trivial, by rw [hdF, fstE_stop hs hre (by rw [hrx]; unfold dRelE; rw [if_pos (by first | omega | (rw [hy']; omega))]; decide), hrx]; unfold dRelE; rw [if_pos (by first | omega | (rw [hy']; omega))]; rfl, Lh⟩
   refine oWant rfl rfl (oMove rfl (oWant rfl rfl (oGtr rfl rfl (oWant rfl rfl (oMove rfl ?_)))))
   first | refine oSplit (t := 65) rfl (fun h65 => ?_) (fun h65 => ?_) | refine oSplitB (t := 65) rfl (fun h65 => ?_) (fun h65 => ?_)
   ·
    obtain ⟨y, hy⟩ : ∃ y, d.fRelocs[i - 1]? = some y := ⟨_, List.getElem?_eq_getElem (by omega)⟩
    obtain ⟨e3, cs3, hE3⟩ := g1.elm hy
    obtain rfl := kApiReloc_open hE3.K
    have hy' : (d.fRelocs.getD (i - 1) default) = y := by rw [List.getD_eq_getElem?_getD, hy]; rfl
    refine oWant rfl rfl (oFld (n := 0) (m := 0) rfl rfl rfl (oWant rfl rfl (oLd rfl (by repeat constructor) rfl rfl ?_)))
    refine oWant rfl rfl (oFld (n := 2) (m := 2) rfl rfl rfl (oWant rfl rfl (oLd rfl (by repeat constructor) rfl rfl ?_)))
    refine oWant rfl rfl (oMove rfl (oWant rfl rfl (oSub rfl rfl (by omega) ?_)))
    refine oSet (t := 71) (v' := .int .i64 ((i - 1 : Nat) : Int)) rfl (by congr 1; omega) ?_
    refine oWant rfl rfl (oIdxE rfl rfl (hE3) (by omega) rfl rfl ?_)
    have hc72 := (hE3).cell
    refine oWant rfl rfl ?_
    first | refine oFldX (n := 0) (m := 0) rfl rfl rfl ?_ | refine oFldR (n := 0) (m := 0) rfl rfl rfl ?_ | refine oFldD (n := 0) (m := 0) rfl rfl rfl ?_
    refine oWant rfl rfl ?_
    first | refine oLdX rfl hc72 rfl rfl ?_ | refine oLdXA rfl hc72 rfl (by repeat constructor) ?_ | (refine oLdR1 rfl (by repeat constructor) (by omega) rfl (fun u74 hu74 => ?_))
    refine oWant rfl rfl (oLeq rfl rfl (oWant rfl rfl (oPickT rfl rfl (oPickF rfl rfl (oMove rfl ?_)))))
    first | refine oSplit (t := 78) rfl (fun h78 => ?_) (fun h78 => ?_) | refine oSplitB (t := 78) rfl (fun h78 => ?_) (fun h78 => ?_)
    ·
     refine oSkip rfl rfl rfl rfl (oSkip rfl rfl rfl rfl (oSkip rfl rfl rfl rfl (oPickT rfl rfl (oMove rfl (oSkip rfl rfl rfl rfl (oSkip rfl rfl rfl rfl (oSkip rfl rfl rfl rfl (oSkip rfl rfl rfl rfl (oSkip rfl rfl rfl rfl (oHead (oPickT rfl rfl ?_)))))))))))
     refine oNilT (thn_n ?_)
     first | refine wCondT rfl ?_ | refine wCondTd h89 rfl ?_ | refine wCondTb h89 rfl ?_
     refine wSeq (wRegion' (oAssign rfl (oNil (thn_n (wRet (thn_r (blk_r (thn_r (thn_r (blk_r (thn_r ?_)))))))))))
     refine fin_r (fi1 rfl ?_)
     exact ⟨(), trivial, by rw [hdF, fstE_stop hs hre (by rw [hrx]; unfold dRelE; rw [if_pos (by first | omega | (rw [hy']; omega))]; decide), hrx]; unfold dRelE; rw [if_pos (by first | omega | (rw [hy']; omega))]; rfl, Lh⟩
    refine oWant rfl rfl (oFld (n := 1) (m := 1) rfl rfl rfl (oWant rfl rfl (oLd rfl (by repeat constructor) rfl rfl ?_)))
    refine oWant rfl rfl (oLss rfl rfl (oPickF rfl rfl (oMove rfl ?_)))
    first | refine oSplit (t := 83) rfl (fun h83 => ?_) (fun h83 => ?_) | refine oSplitB (t := 83) rfl (fun h83 => ?_) (fun h83 => ?_)
    ·
     refine oSkip rfl rfl rfl rfl (oSkip rfl rfl rfl rfl (oSkip rfl rfl rfl rfl (oSkip rfl rfl rfl rfl (oSkip rfl rfl rfl rfl (oHead (oPickT rfl rfl (oNilT (thn_n ?_))))))))
     first | refine wCondT rfl ?_ | refine wCondTd h89 rfl ?_ | refine wCondTb h89 rfl ?_
     refine wSeq (wRegion' (oAssign rfl (oNil (thn_n (wRet (thn_r (blk_r (thn_r (thn_r (blk_r (thn_r ?_)))))))))))
     refine fin_r (fi1 rfl ?_)
     exact ⟨(), trivial, by rw [hdF, fstE_stop hs hre (by rw [hrx]; unfold dRelE; rw [if_pos (by first | omega | (rw [hy']; omega))]; decide), hrx]; unfold dRelE; rw [if_pos (by first | omega | (rw [hy']; omega))]; rfl, Lh⟩
    refine oWant rfl rfl (oFld (n := 1) (m := 1) rfl rfl rfl (oWant rfl rfl (oLd rfl (by repeat constructor) rfl rfl ?_)))
    refine oWant rfl rfl (oMove rfl (oWant rfl rfl (oLenS rfl rfl (oWant rfl rfl (oGeq rfl rfl (oHead (oPickF rfl rfl (oNilT (thn_n (wC (fun h89 => ?_) (fun h89 => ?_)))))))))))
    ·
     refine wSeq (wRegion' (oAssign rfl (oNil (thn_n (wRet (thn_r (blk_r (thn_r (thn_r (blk_r (thn_r ?_)))))))))))
     refine fin_r (fi1 rfl ?_)
     exact ⟨(), trivial, by rw [hdF, fstE_stop hs hre (by rw [hrx]; unfold dRelE; rw [if_pos (by first | omega | (rw [hy']; omega))]; decide), hrx]; unfold dRelE; rw [if_pos (by first | omega | (rw [hy']; omega))]; rfl, Lh⟩
    obtain ⟨s, hsm⟩ := Int.eq_ofNat_of_zero_le (show 0 ≤ x.fSym by omega)
    obtain ⟨sy, hsy⟩ : ∃ sy, l[s]? = some sy := ⟨_, List.getElem?_eq_getElem (by omega)⟩
    obtain ⟨e4, cs4, hE4⟩ := hC.elm hsy
    obtain rfl := kApiSymbol_open hE4.K
    have hlg : l.getD x.fSym.toNat default = sy := by rw [hsm, Int.toNat_natCast, List.getD_eq_getElem?_getD, hsy]; rfl
    refine wSkip (thn_n (wSeq (wDraw2 rfl rfl [0] [1, 2, 3, 4, 5, 6, 7, 8, 9, 10, 11, 12, 13, 14, 15, 16, 17] 18 (by kernel_rfl) rfl rfl rfl (fun w0 => ?_))))
    refine oFld (n := 1) (m := 1) rfl rfl rfl (oLd rfl (by repeat constructor) rfl rfl ?_)
    refine oSet (t := 92) (v' := .int .i64 (s : Int)) rfl (by rw [hsm]) ?_
    refine oIdxE rfl rfl (hE4) (by omega) rfl rfl ?_
    have hc93 := (hE4).cell
    first | refine oFldX (n := 2) (m := 2) rfl rfl rfl ?_ | refine oFldR (n := 2) (m := 2) rfl rfl rfl ?_ | refine oFldD (n := 2) (m := 2) rfl rfl rfl ?_
    first | refine oLdX rfl hc93 rfl rfl ?_ | refine oLdXA rfl hc93 rfl (by repeat constructor) ?_ | (refine oLdR1 rfl (by repeat constructor) (by omega) rfl (fun u95 hu95 => ?_))
    refine oNeq rfl rfl (oMove rfl ?_)
    first | refine oSplit (t := 97) rfl (fun h97 => ?_) (fun h97 => ?_) | refine oSplitB (t := 97) rfl (fun h97 => ?_) (fun h97 => ?_)
    ·
     refine oSkip rfl rfl rfl rfl (oSkip rfl rfl rfl rfl (oSkip rfl rfl rfl rfl (oSkip rfl rfl rfl rfl (oSkip rfl rfl rfl rfl (oSkip rfl rfl rfl rfl (oSkip rfl rfl rfl rfl (oSkip rfl rfl rfl rfl (oSkip rfl rfl rfl rfl (oSkip rfl rfl rfl rfl (oHead (oPickT rfl rfl ?_)))))))))))
     refine oNilT (thn_n ?_)
     first | refine wCondT rfl ?_ | refine wCondTd h108 rfl ?_ | refine wCondTb h108 rfl ?_
     refine wSeq (wRegion' (oAssign rfl (oNil (thn_n (wRet (blk_r (thn_r (thn_r (blk_r (thn_r (fin_r ?_)))))))))))
     refine fi1 rfl ?_
     exact ⟨(), trivial, by rw [hdF, fstE_stop hs hre (by rw [hrx]; unfold dRelE; rw [if_neg (by first | omega | (rw [hy']; omega)), hlg, if_pos (by simp_all <;> omega)]; decide), hrx]; unfold dRelE; rw [if_neg (by first | omega | (rw [hy']; omega)), hlg, if_pos (by simp_all <;> omega)]; rfl, Lh⟩
    refine oWant rfl rfl (oMove rfl (oWant rfl rfl (oFld (n := 1) (m := 1) rfl rfl rfl (oWant rfl rfl (oLd rfl (by repeat constructor) rfl rfl ?_)))))
    refine oSet (t := 100) (v' := .int .i64 (s : Int)) rfl (by rw [hsm]) ?_
    refine oWant rfl rfl (oIdxE rfl rfl (hE4) (by omega) rfl rfl ?_)
    have hc101 := (hE4).cell
    refine oWant rfl rfl ?_
    first | refine oFldX (n := 3) (m := 3) rfl rfl rfl ?_ | refine oFldR (n := 3) (m := 3) rfl rfl rfl ?_ | refine oFldD (n := 3) (m := 3) rfl rfl rfl ?_
    refine oWant rfl rfl ?_
    first | refine oLdX rfl hc101 rfl rfl ?_ | refine oLdXA rfl hc101 rfl (by repeat constructor) ?_ | (refine oLdR1 rfl (by repeat constructor) (by omega) rfl (fun u103 hu103 => ?_))
    refine oWant rfl rfl (oFld (n := 0) (m := 0) rfl rfl rfl (oWant rfl rfl (oLd rfl (by repeat constructor) rfl rfl ?_)))
    refine oWant rfl rfl ?_
    refine oSub rfl rfl (by unfold in64 at hk; omega) ?_
    refine oWant rfl rfl (oNeq rfl rfl (oHead (oPickF rfl rfl (oNilT (thn_n (wC (fun h108 => ?_) (fun h108 => ?_)))))))
    ·
     refine wSeq (wRegion' (oAssign rfl (oNil (thn_n (wRet (blk_r (thn_r (thn_r (blk_r (thn_r (fin_r ?_)))))))))))
     refine fi1 rfl ?_
     exact ⟨(), trivial, by rw [hdF, fstE_stop hs hre (by rw [hrx]; unfold dRelE; rw [if_neg (by first | omega | (rw [hy']; omega)), hlg, if_pos (by simp_all <;> omega)]; decide), hrx]; unfold dRelE; rw [if_neg (by first | omega | (rw [hy']; omega)), hlg, if_pos (by simp_all <;> omega)]; rfl, Lh⟩
    refine wSkip (blk_n (thn_n (wRegion' (oMove rfl (oSucc rfl rfl (by omega) ?_)))))
    refine oAssign rfl (oNil (thn_n ?_))
    exact ⟨rfl, i + 1, ⟨by omega, fstE_next hs hre (by rw [hrx]; unfold dRelE; rw [if_neg (by first | omega | (rw [hy']; omega)), hlg, if_neg (by simp_all <;> omega)])⟩, by omega, cv, Lh⟩
   refine oSkip rfl rfl rfl rfl (oSkip rfl rfl rfl rfl (oSkip rfl rfl rfl rfl (oSkip rfl rfl rfl rfl (oSkip rfl rfl rfl rfl (oSkip rfl rfl rfl rfl (oSkip rfl rfl rfl rfl (oSkip rfl rfl rfl rfl (oSkip rfl rfl rfl rfl (oSkip rfl rfl rfl rfl (oWant rfl rfl (oPickF rfl rfl ?_)))))))))))
   refine oPickF rfl rfl (oMove rfl (oWant rfl rfl (oFld (n := 1) (m := 1) rfl rfl rfl (oWant rfl rfl (oLd rfl (by repeat constructor) rfl rfl ?_)))))
   refine oWant rfl rfl (oLss rfl rfl (oPickF rfl rfl (oMove rfl ?_)))
   first | refine oSplit (t := 83) rfl (fun h83 => ?_) (fun h83 => ?_) | refine oSplitB (t := 83) rfl (fun h83 => ?_) (fun h83 => ?_)
   ·
    refine oSkip rfl rfl rfl rfl (oSkip rfl rfl rfl rfl (oSkip rfl rfl rfl rfl (oSkip rfl rfl rfl rfl (oSkip rfl rfl rfl rfl (oHead (oPickT rfl rfl (oNilT (thn_n ?_))))))))
    first | refine wCondT rfl ?_ | refine wCondTd h89 rfl ?_ | refine wCondTb h89 rfl ?_
    refine wSeq (wRegion' (oAssign rfl (oNil (thn_n (wRet (thn_r (blk_r (thn_r (thn_r (blk_r (thn_r ?_)))))))))))
    refine fin_r (fi1 rfl ?_)
    exact ⟨(), trivial, by rw [hdF, fstE_stop hs hre (by rw [hrx]; unfold dRelE; rw [if_pos (by first | omega | (rw [hy']; omega))]; decide), hrx]; unfold dRelE; rw [if_pos (by first | omega | (rw [hy']; omega))]; rfl, Lh⟩
   refine oWant rfl rfl (oFld (n := 1) (m := 1) rfl rfl rfl (oWant rfl rfl (oLd rfl (by repeat constructor) rfl rfl ?_)))
   refine oWant rfl rfl (oMove rfl (oWant rfl rfl (oLenS rfl rfl (oWant rfl rfl (oGeq rfl rfl (oHead (oPickF rfl rfl (oNilT (thn_n (wC (fun h89 => ?_) (fun h89 => ?_)))))))))))
   ·
    refine wSeq (wRegion' (oAssign rfl (oNil (thn_n (wRet (thn_r (blk_r (thn_r (thn_r (blk_r (thn_r ?_)))))))))))
    refine fin_r (fi1 rfl ?_)
    exact ⟨(), trivial, by rw [hdF, fstE_stop hs hre (by rw [hrx]; unfold dRelE; rw [if_pos (by first | omega | (rw [hy']; omega))]; decide), hrx]; unfold dRelE; rw [if_pos (by first | omega | (rw [hy']; omega))]; rfl, Lh⟩
   obtain ⟨s, hsm⟩ := Int.eq_ofNat_of_zero_le (show 0 ≤ x.fSym by omega)
   obtain ⟨sy, hsy⟩ : ∃ sy, l[s]? = some sy := ⟨_, List.getElem?_eq_getElem (by omega)⟩
   obtain ⟨e4, cs4, hE4⟩ := hC.elm hsy
   obtain rfl := kApiSymbol_open hE4.K
   have hlg : l.getD x.fSym.toNat default = sy := by rw [hsm, Int.toNat_natCast, List.getD_eq_getElem?_getD, hsy]; rfl
   refine wSkip (thn_n (wSeq (wDraw2 rfl rfl [0] [1, 2, 3, 4, 5, 6, 7, 8, 9, 10, 11, 12, 13, 14, 15, 16, 17] 18 (by kernel_rfl) rfl rfl rfl (fun w0 => ?_))))
   refine oFld (n := 1) (m := 1) rfl rfl rfl (oLd rfl (by repeat constructor) rfl rfl ?_)
   refine oSet (t := 92) (v' := .int .i64 (s : Int)) rfl (by rw [hsm]) ?_
   refine oIdxE rfl rfl (hE4) (by omega) rfl rfl ?_
   have hc93 := (hE4).cell
   first | refine oFldX (n := 2) (m := 2) rfl rfl rfl ?_ | refine oFldR (n := 2) (m := 2) rfl rfl rfl ?_ | refine oFldD (n := 2) (m := 2) rfl rfl rfl ?_
   first | refine oLdX rfl hc93 rfl rfl ?_ | refine oLdXA rfl hc93 rfl (by repeat constructor) ?_ | (refine oLdR1 rfl (by repeat constructor) (by omega) rfl (fun u95 hu95 => ?_))
   refine oNeq rfl rfl (oMove rfl ?_)
   first | refine oSplit (t := 97) rfl (fun h97 => ?_) (fun h97 => ?_) | refine oSplitB (t := 97) rfl (fun h97 => ?_) (fun h97 => ?_)
   ·
    refine oSkip rfl rfl rfl rfl (oSkip rfl rfl rfl rfl (oSkip rfl rfl rfl rfl (oSkip rfl rfl rfl rfl (oSkip rfl rfl rfl rfl (oSkip rfl rfl rfl rfl (oSkip rfl rfl rfl rfl (oSkip rfl rfl rfl rfl (oSkip rfl rfl rfl rfl (oSkip rfl rfl rfl rfl (oHead (oPickT rfl rfl ?_)))))))))))
    refine oNilT (thn_n ?_)
    first | refine wCondT rfl ?_ | refine wCondTd h108 rfl ?_ | refine wCondTb h108 rfl ?_
    refine wSeq (wRegion' (oAssign rfl (oNil (thn_n (wRet (blk_r (thn_r (thn_r (blk_r (thn_r (fin_r ?_)))))))))))
    refine fi1 rfl ?_
    exact ⟨(), trivial, by rw [hdF, fstE_stop hs hre (by rw [hrx]; unfold dRelE; rw [if_neg (by first | omega | (rw [hy']; omega)), hlg, if_pos (by simp_all <;> omega)]; decide), hrx]; unfold dRelE; rw [if_neg (by first | omega | (rw [hy']; omega)), hlg, if_pos (by simp_all <;> omega)]; rfl, Lh⟩
   refine oWant rfl rfl (oMove rfl (oWant rfl rfl (oFld (n := 1) (m := 1) rfl rfl rfl (oWant rfl rfl (oLd rfl (by repeat constructor) rfl rfl ?_)))))
   refine oSet (t := 100) (v' := .int .i64 (s : Int)) rfl (by rw [hsm]) ?_
   refine oWant rfl rfl (oIdxE rfl rfl (hE4) (by omega) rfl rfl ?_)
   have hc101 := (hE4).cell
   refine oWant rfl rfl ?_
   first | refine oFldX (n := 3) (m := 3) rfl rfl rfl ?_ | refine oFldR (n := 3) (m := 3) rfl rfl rfl ?_ | refine oFldD (n := 3) (m := 3) rfl rfl rfl ?_
   refine oWant rfl rfl ?_
   first | refine oLdX rfl hc101 rfl rfl ?_ | refine oLdXA rfl hc101 rfl (by repeat constructor) ?_ | (refine oLdR1 rfl (by repeat constructor) (by omega) rfl (fun u103 hu103 => ?_))
   refine oWant rfl rfl (oFld (n := 0) (m := 0) rfl rfl rfl (oWant rfl rfl (oLd rfl (by repeat constructor) rfl rfl ?_)))
   refine oWant rfl rfl ?_
   refine oSub rfl rfl (by unfold in64 at hk; omega) ?_
   refine oWant rfl rfl (oNeq rfl rfl (oHead (oPickF rfl rfl (oNilT (thn_n (wC (fun h108 => ?_) (fun h108 => ?_)))))))
   ·
    refine wSeq (wRegion' (oAssign rfl (oNil (thn_n (wRet (blk_r (thn_r (thn_r (blk_r (thn_r (fin_r ?_)))))))))))
    refine fi1 rfl ?_
    exact ⟨(), trivial, by rw [hdF, fstE_stop hs hre (by rw [hrx]; unfold dRelE; rw [if_neg (by first | omega | (rw [hy']; omega)), hlg, if_pos (by simp_all <;> omega)]; decide), hrx]; unfold dRelE; rw [if_neg (by first | omega | (rw [hy']; omega)), hlg, if_pos (by simp_all <;> omega)]; rfl, Lh⟩
   refine wSkip (blk_n (thn_n (wRegion' (oMove rfl (oSucc rfl rfl (by omega) ?_)))))
   refine oAssign rfl (oNil (thn_n ?_))
   exact ⟨rfl, i + 1, ⟨by omega, fstE_next hs hre (by rw [hrx]; unfold dRelE; rw [if_neg (by first | omega | (rw [hy']; omega)), hlg, if_neg (by simp_all <;> omega)])⟩, by omega, cv, Lh⟩
  refine wExit (thn_x (thn_x (blk_x (thn_n (wSeq (wRegion' (oAssign rfl (oNil (thn_n (wRet (fin_r ?_)))))))))))
  refine fi1 rfl ?_
  obtain rfl : i = d.fRelocs.length := by omega
  rw [rmap_all] at hs
  exact ⟨(), trivial, by rw [hdF, hs]; rfl, Lh⟩
end Go.Proofs.YtogaiijhicfoaaaGreatW
