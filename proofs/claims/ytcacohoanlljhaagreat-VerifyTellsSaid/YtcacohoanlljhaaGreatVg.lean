import Derived.Test.YtcacohoanlljhaaGreatVf

/-
  Package verify: references, Instr, Check, Class.
-/
namespace Go.Proofs.YtcacohoanlljhaaGreatV
set_option linter.unusedVariables false
set_option linter.unusedSimpArgs false
open Go.RowKit Go.Proofs.YtcacohoanlljhaaGreatK Go.Proofs.YtcacohoanlljhaaGreatT Go.Proofs.YtcacohoanlljhaaGreatL

def fitsF (need : Int) (s : ApiSymbol) : Bool := if need = 3 then decide (s.fSort = 2) && decide (s.fKind = 0) else if need = 4 then decide (s.fSort = 2) && isC (IntKind.i64.wrap (s.fKind - 1)) else decide (s.fSort = 1)
set_option maxRecDepth 100000 in
theorem verify_fits {B : Base} {w : World} (hS : St B [] w) (need : Int) (s : ApiSymbol) (sc : List Value) (hs : kApiSymbol.K B.e s sc) :
    CallsIn Fence.wide 0 Tryz.prog 102 #[.int .i64 need, .agg sc.toArray] w (Ret B (fun _ : Unit => True) (fun _ => .bool (fitsF need s)) (fun _ => [])) := by
  obtain rfl := kApiSymbol_open hs
  (refine enter Tryz.func102 rfl rfl hS ?_; simp only [List.zipIdx_cons, List.zipIdx_nil, List.map_cons, List.map_nil, Nat.reduceAdd, Nat.zero_add])
  refine wSeq ?_
  refine wRegion' ?_
  refine oBox rfl (by first | exact CellsOf.agg | exact CellsOf.one rfl) (fun b3 => ?_)
  refine oAssign rfl ?_
  refine oNil ?_
  refine thn_n ?_
  refine wSeq ?_
  refine wSeq ?_
  refine wRegion' ?_
  refine oMove rfl ?_
  refine oNil ?_
  refine thn_n ?_
  refine wBlock ?_
  refine wSeq ?_
  refine wRegion' ?_
  refine oEql rfl rfl ?_
  refine oAssign rfl ?_
  refine oNil ?_
  refine thn_n ?_
  first | refine wCond rfl (fun h8 => ?_) (fun h8 => ?_) | refine wCondB rfl (fun h8 => ?_) (fun h8 => ?_)
  ·
    refine wSeq ?_
    refine wRegion' ?_
    refine oFld (n := 2) (m := 2) rfl rfl rfl ?_
    refine oLd rfl (by repeat (first | exact Pick.here | apply Pick.there)) rfl rfl ?_
    refine oEql rfl rfl ?_
    refine oMove rfl ?_
    first | refine oSplit (t := 13) rfl (fun h13 => ?_) (fun h13 => ?_) | refine oSplitB (t := 13) rfl (fun h13 => ?_) (fun h13 => ?_)
    ·
      refine oWant rfl rfl ?_
      refine oFld (n := 3) (m := 3) rfl rfl rfl ?_
      refine oWant rfl rfl ?_
      refine oLd rfl (by repeat (first | exact Pick.here | apply Pick.there)) rfl rfl ?_
      refine oWant rfl rfl ?_
      refine oEql rfl rfl ?_
      refine oPickT rfl rfl ?_
      refine oAssign rfl ?_
      refine oNil ?_
      refine thn_n ?_
      refine wRet ?_
      refine blk_r ?_
      refine thn_r ?_
      refine fin_r ?_
      refine ⟨rfl, _, (ResL.cons (ResR.tmp rfl) ResL.nil), ?_⟩
      exact ⟨(), trivial, by simp_all [resVal, fitsF], (Leads.has (by repeat' (first | exact Has.nil | exact Pick.here | apply Has.cons | apply Pick.there)))⟩
    ·
      refine oSkip rfl rfl rfl rfl ?_
      refine oSkip rfl rfl rfl rfl ?_
      refine oSkip rfl rfl rfl rfl ?_
      refine oPickF rfl rfl ?_
      refine oAssign rfl ?_
      refine oNil ?_
      refine thn_n ?_
      refine wRet ?_
      refine blk_r ?_
      refine thn_r ?_
      refine fin_r ?_
      refine ⟨rfl, _, (ResL.cons (ResR.tmp rfl) ResL.nil), ?_⟩
      exact ⟨(), trivial, by simp_all [resVal, fitsF], (Leads.has (by repeat' (first | exact Has.nil | exact Pick.here | apply Has.cons | apply Pick.there)))⟩
  ·
    refine wSeq ?_
    refine wRegion' ?_
    refine oEql rfl rfl ?_
    refine oAssign rfl ?_
    refine oNil ?_
    refine thn_n ?_
    first | refine wCond rfl (fun h18 => ?_) (fun h18 => ?_) | refine wCondB rfl (fun h18 => ?_) (fun h18 => ?_)
    ·
      refine wSeq ?_
      refine wRegion' ?_
      refine oFld (n := 3) (m := 3) rfl rfl rfl ?_
      refine oLd rfl (by repeat (first | exact Pick.here | apply Pick.there)) rfl rfl ?_
      (refine oCall rfl (by kernel_rfl) (fun w hS => frame hS (by repeat' (first | exact Split.nil | exact Pick.here | apply Split.cons | apply Pick.there)) (fun B' hB hS' => sig_Class hS' s.fKind)) ?_; rintro ⟨⟩ -)
      refine oMove rfl ?_
      refine oExt rfl (by repeat (first | exact GetAt.here | apply GetAt.there)) ?_
      refine oExt rfl (by repeat (first | exact GetAt.here | apply GetAt.there)) ?_
      refine oAssign rfl ?_
      refine oAssign rfl ?_
      refine oNil ?_
      refine thn_n ?_
      refine wSeq ?_
      refine wRegion' ?_
      refine oFld (n := 2) (m := 2) rfl rfl rfl ?_
      refine oLd rfl (by repeat (first | exact Pick.here | apply Pick.there)) rfl rfl ?_
      refine oEql rfl rfl ?_
      refine oMove rfl ?_
      first | refine oSplit (t := 29) rfl (fun h29 => ?_) (fun h29 => ?_) | refine oSplitB (t := 29) rfl (fun h29 => ?_) (fun h29 => ?_)
      ·
        refine oWant rfl rfl ?_
        refine oMove rfl ?_
        refine oPickT rfl rfl ?_
        refine oAssign rfl ?_
        refine oNil ?_
        refine thn_n ?_
        refine wRet ?_
        refine blk_r ?_
        refine thn_r ?_
        refine fin_r ?_
        refine ⟨rfl, _, (ResL.cons (ResR.tmp rfl) ResL.nil), ?_⟩
        exact ⟨(), trivial, by simp_all [resVal, fitsF], (Leads.has (by repeat' (first | exact Has.nil | exact Pick.here | apply Has.cons | apply Pick.there)))⟩
      ·
        refine oSkip rfl rfl rfl rfl ?_
        refine oPickF rfl rfl ?_
        refine oAssign rfl ?_
        refine oNil ?_
        refine thn_n ?_
        refine wRet ?_
        refine blk_r ?_
        refine thn_r ?_
        refine fin_r ?_
        refine ⟨rfl, _, (ResL.cons (ResR.tmp rfl) ResL.nil), ?_⟩
        exact ⟨(), trivial, by simp_all [resVal, fitsF], (Leads.has (by repeat' (first | exact Has.nil | exact Pick.here | apply Has.cons | apply Pick.there)))⟩
    ·
      refine wSkip ?_
      refine blk_n ?_
      refine thn_n ?_
      refine wSeq ?_
      refine wRegion' ?_
      refine oFld (n := 2) (m := 2) rfl rfl rfl ?_
      refine oLd rfl (by repeat (first | exact Pick.here | apply Pick.there)) rfl rfl ?_
      refine oEql rfl rfl ?_
      refine oAssign rfl ?_
      refine oNil ?_
      refine thn_n ?_
      refine wRet ?_
      refine fin_r ?_
      refine ⟨rfl, _, (ResL.cons (ResR.tmp rfl) ResL.nil), ?_⟩
      exact ⟨(), trivial, by simp_all [resVal, fitsF], (Leads.has (by repeat' (first | exact Has.nil | exact Pick.here | apply Has.cons | apply Pick.there)))⟩
/-! ### references -/
abbrev atR (i : Int) (r : ApiReloc) : Bool := decide (r.fAt = i)
def markF (f : ApiFunc) (i : Int) : Int := idxI (atR i) f.fRelocs
def symF (f : ApiFunc) (i : Int) : Int := if markF f i < 0 then -1 else (f.fRelocs.getD (markF f i).toNat default).fSym
set_option maxRecDepth 100000 in
theorem indexFunc_rel {B : Base} {w : World} {R : Res} (hS : St B [R] w) (l : List ApiReloc) (A : Option Addr) (cp : Nat) (hC : kApiReloc.C B.e A l) (gf : Nat) (lb : Array Value) (p : ApiReloc → Bool) (hg : goodF Tryz.prog gf = true)
    (hh : ∀ B' w (x : ApiReloc), Grow B.e B'.e → St B' [R] w → CallsIn Fence.wide 0 Tryz.prog gf (#[] ++ [Value.agg #[.int .i64 x.fAt, .int .i64 x.fSym, .bool x.fWide]].toArray ++ lb) w (Ret B' (fun _ : Unit => True) (fun _ => .bool (p x)) (fun _ => [R]))) :
    CallsIn Fence.wide 0 Tryz.prog 132 #[.slice A l.length cp, .func (.func gf) #[] lb] w (Ret B (fun _ : Unit => True) (fun _ => .int .i64 (idxI p l)) (fun _ => [R])) := by
  have hl := hC.1
  (refine enter Tryz.func132 rfl rfl hS ?_; simp only [List.zipIdx_cons, List.zipIdx_nil, List.map_cons, List.map_nil, Nat.reduceAdd, Nat.zero_add])
  refine wSeq ?_
  refine wRegion' ?_
  refine oAssign rfl ?_
  refine oNil ?_
  refine thn_n ?_
  refine wSeq ?_
  refine wSeq ?_
  refine wRegion' ?_
  refine oMove rfl ?_
  refine oLenS rfl rfl ?_
  refine oMove rfl ?_
  refine oNil ?_
  refine thn_n ?_
  refine wBlock ?_
  refine wLoop (ι := Nat) (fun i => [(0, .slice A l.length cp), (1, .func (.func gf) #[] lb), (7, .int .i64 (l.length : Int)), (8, .int .i64 (i : Int))]) (fun i => [R]) (fun i => i ≤ l.length ∧ ∀ y ∈ l.take i, p y = false) (fun i => l.length - i) 0 ?_ (by repeat (first | exact trivial | refine And.intro rfl ?_)) (Leads.has (by repeat' (first | exact Has.nil | exact Pick.here | apply Has.cons | apply Pick.there))) ?_
  ·
    exact ⟨Nat.zero_le _, by simp⟩
  ·
    rintro i ⟨hi, hs⟩
    try dsimp only
    refine wSeq ?_
    refine wRegion' ?_
    refine oLss rfl rfl ?_
    refine oNil ?_
    refine thn_n ?_
    refine wSeq ?_
    first | refine wCond rfl (fun h9 => ?_) (fun h9 => ?_) | refine wCondB rfl (fun h9 => ?_) (fun h9 => ?_)
    ·
      obtain ⟨x, hx⟩ : ∃ x, l[i]? = some x := ⟨_, List.getElem?_eq_getElem (by omega)⟩
      obtain ⟨e1, cs1, hE⟩ := hC.elm hx
      obtain rfl := kApiReloc_open hE.K
      refine wSkip ?_
      refine thn_n ?_
      refine wSeq ?_
      refine wBlock ?_
      refine wSeq ?_
      refine wRegion' ?_
      refine oMove rfl ?_
      refine oAssign rfl ?_
      refine oNil ?_
      refine thn_n ?_
      refine wSeq ?_
      refine wRegion' ?_
      refine oMove rfl ?_
      refine oMove rfl ?_
      refine oMove rfl ?_
      refine oIdxE rfl rfl (hE) (by omega) rfl rfl ?_
      have hc14 := (hE).cell
      first | refine oLdX rfl hc14 rfl rfl ?_ | refine oLdXA rfl hc14 rfl (by repeat (first | exact SubL.done | apply SubL.take | apply SubL.drop)) ?_ | (refine oLdR1 rfl (by repeat (first | exact Pick.here | apply Pick.there)) (by omega) rfl (fun u15 hu15 => ?_))
      (refine oCallV rfl rfl rfl hg (fun w hS => frame hS (by repeat' (first | exact Split.nil | exact Pick.here | apply Split.cons | apply Pick.there)) (fun B' hB hS' => hh B' w x hB hS')) ?_; rintro ⟨⟩ -)
      refine oNil ?_
      refine thn_n ?_
      first | refine wCond rfl (fun h16 => ?_) (fun h16 => ?_) | refine wCondB rfl (fun h16 => ?_) (fun h16 => ?_)
      ·
        refine wSeq ?_
        refine wRegion' ?_
        refine oMove rfl ?_
        refine oAssign rfl ?_
        refine oNil ?_
        refine thn_n ?_
        refine wRet ?_
        refine blk_r ?_
        refine thn_r ?_
        refine thn_r ?_
        refine blk_r ?_
        refine thn_r ?_
        refine fin_r ?_
        refine ⟨rfl, _, (ResL.cons (ResR.tmp rfl) ResL.nil), ?_⟩
        exact ⟨(), trivial, by rw [idxI_stop hs hx (by simpa using h16)]; rfl, (Leads.has (by repeat' (first | exact Has.nil | exact Pick.here | apply Has.cons | apply Pick.there)))⟩
      ·
        refine wSkip ?_
        refine blk_n ?_
        refine thn_n ?_
        refine wRegion' ?_
        refine oSucc rfl rfl (by omega) ?_
        refine oMove rfl ?_
        refine oNil ?_
        refine thn_n ?_
        exact ⟨rfl, i + 1, ⟨by omega, take_not hs hx (by simpa using h16)⟩, by omega, (by repeat (first | exact trivial | refine And.intro rfl ?_)), (Leads.has (by repeat' (first | exact Has.nil | exact Pick.here | apply Has.cons | apply Pick.there)))⟩
    ·
      refine wExit ?_
      refine thn_x ?_
      refine thn_x ?_
      refine blk_x ?_
      refine thn_n ?_
      refine wSeq ?_
      refine wRegion' ?_
      refine oAssign rfl ?_
      refine oNil ?_
      refine thn_n ?_
      refine wRet ?_
      refine fin_r ?_
      refine ⟨rfl, _, (ResL.cons (ResR.tmp rfl) ResL.nil), ?_⟩
      obtain rfl : i = l.length := by omega
      rw [List.take_length] at hs
      exact ⟨(), trivial, by rw [idxI_none hs]; rfl, (Leads.has (by repeat' (first | exact Has.nil | exact Pick.here | apply Has.cons | apply Pick.there)))⟩
set_option maxRecDepth 100000 in
theorem mark1 {B : Base} {w : World} {b1 : Nat} {i : Int} (hS : St B [blk b1 3 [.int .i64 i]] w) (x : ApiReloc) :
    CallsIn Fence.wide 0 Tryz.prog 133 #[.agg #[.int .i64 x.fAt, .int .i64 x.fSym, .bool x.fWide], .pointer (some ⟨b1, 0, none⟩)] w (Ret B (fun _ : Unit => True) (fun _ => .bool (atR i x)) (fun _ => [blk b1 3 [.int .i64 i]])) := by
  (refine enter Tryz.func133 rfl rfl hS ?_; simp only [List.zipIdx_cons, List.zipIdx_nil, List.map_cons, List.map_nil, Nat.reduceAdd, Nat.zero_add])
  refine wSeq ?_
  refine wRegion' ?_
  refine oBox rfl (by first | exact CellsOf.agg | exact CellsOf.one rfl) (fun b2 => ?_)
  refine oAssign rfl ?_
  refine oNil ?_
  refine thn_n ?_
  refine wSeq ?_
  refine wRegion' ?_
  refine oFld (n := 0) (m := 0) rfl rfl rfl ?_
  refine oLd rfl (by repeat (first | exact Pick.here | apply Pick.there)) rfl rfl ?_
  refine oLd rfl (by repeat (first | exact Pick.here | apply Pick.there)) rfl rfl ?_
  refine oEql rfl rfl ?_
  refine oAssign rfl ?_
  refine oNil ?_
  refine thn_n ?_
  refine wRet ?_
  refine fin_r ?_
  refine ⟨rfl, _, (ResL.cons (ResR.tmp rfl) ResL.nil), ?_⟩
  exact ⟨(), trivial, rfl, (Leads.has (by repeat' (first | exact Has.nil | exact Pick.here | apply Has.cons | apply Pick.there)))⟩
set_option maxRecDepth 100000 in
theorem verify_mark {B : Base} {w : World} (hS : St B [] w) (f : ApiFunc) (fc : List Value) (hf : kApiFunc.K B.e f fc) (i : Int) :
    CallsIn Fence.wide 0 Tryz.prog 93 #[.agg fc.toArray, .int .i64 i] w (Ret B (fun _ : Unit => True) (fun _ => .int .i64 (markF f i)) (fun _ => [])) := by
  obtain ⟨A0, c0, A1, c1, A2, c2, A3, c3, rfl, l0, g0, l1, g1, l2, g2, l3, g3⟩ := kApiFunc_open hf
  (refine enter Tryz.func93 rfl rfl hS ?_; simp only [List.zipIdx_cons, List.zipIdx_nil, List.map_cons, List.map_nil, Nat.reduceAdd, Nat.zero_add])
  refine wSeq ?_
  refine wRegion' ?_
  refine oBox rfl (by first | exact CellsOf.agg | exact CellsOf.one rfl) (fun b2 => ?_)
  refine oBox rfl (by first | exact CellsOf.agg | exact CellsOf.one rfl) (fun b3 => ?_)
  refine oAssign rfl ?_
  refine oNil ?_
  refine thn_n ?_
  refine wSeq ?_
  refine wRegion' ?_
  refine oFld (n := 8) (m := 8) rfl rfl rfl ?_
  refine oLd rfl (by repeat (first | exact Pick.here | apply Pick.there)) rfl rfl ?_
  refine oMakeFunc rfl ?_
  (refine oCall rfl (by kernel_rfl) (fun w hS => frame hS (by repeat' (first | exact Split.nil | exact Pick.here | apply Split.cons | apply Pick.there)) (fun B' hB hS' => indexFunc_rel hS' f.fRelocs A3 c3 (Kd.C_grow hB g3) _ _ (atR i) (by kernel_rfl) (fun B2 w2 x hB2 hS2 => mark1 hS2 x))) ?_; rintro ⟨⟩ -)
  refine oAssign rfl ?_
  refine oNil ?_
  refine thn_n ?_
  refine wRet ?_
  refine fin_r ?_
  refine ⟨rfl, _, (ResL.cons (ResR.tmp rfl) ResL.nil), ?_⟩
  exact ⟨(), trivial, rfl, (Leads.has (by repeat' (first | exact Has.nil | exact Pick.here | apply Has.cons | apply Pick.there)))⟩
theorem mark_at {f : ApiFunc} {i : Int} (h : 0 ≤ markF f i) : ∃ (m : Nat) (r : ApiReloc), markF f i = (m : Int) ∧ f.fRelocs[m]? = some r ∧ symF f i = r.fSym := by
  obtain ⟨m, r, hm, hr, _⟩ := idxI_at h
  refine ⟨m, r, hm, hr, ?_⟩
  unfold symF
  rw [if_neg (by omega), show markF f i = (m : Int) from hm, Int.toNat_natCast, List.getD_eq_getElem?_getD, hr]; rfl
set_option maxRecDepth 100000 in
theorem verify_Sym {B : Base} {w : World} (hS : St B [] w) (f : ApiFunc) (fc : List Value) (hf : kApiFunc.K B.e f fc) (i : Int) :
    CallsIn Fence.wide 0 Tryz.prog 49 #[.agg fc.toArray, .int .i64 i] w (Ret B (fun _ : Unit => True) (fun _ => .int .i64 (symF f i)) (fun _ => [])) := by
  obtain ⟨A0, c0, A1, c1, A2, c2, A3, c3, rfl, l0, g0, l1, g1, l2, g2, l3, g3⟩ := kApiFunc_open hf
  (refine enter Tryz.func49 rfl rfl hS ?_; simp only [List.zipIdx_cons, List.zipIdx_nil, List.map_cons, List.map_nil, Nat.reduceAdd, Nat.zero_add])
  refine wSeq ?_
  refine wRegion' ?_
  refine oBox rfl (by first | exact CellsOf.agg | exact CellsOf.one rfl) (fun b2 => ?_)
  refine oAssign rfl ?_
  refine oNil ?_
  refine thn_n ?_
  refine wSeq ?_
  refine wRegion' ?_
  refine oLdA rfl (by repeat (first | exact Pick.here | apply Pick.there)) rfl (by repeat (first | exact SubL.done | apply SubL.take | apply SubL.drop)) ?_
  refine oMove rfl ?_
  (refine oCall rfl (by kernel_rfl) (fun w hS => frame hS (by repeat' (first | exact Split.nil | exact Pick.here | apply Split.cons | apply Pick.there)) (fun B' hB hS' => verify_mark hS' f _ (kApiFunc.K_grow hB hf) i)) ?_; rintro ⟨⟩ -)
  refine oAssign rfl ?_
  refine oNil ?_
  refine thn_n ?_
  refine wSeq ?_
  refine wSeq ?_
  refine wRegion' ?_
  refine oMove rfl ?_
  refine oLss rfl rfl ?_
  refine oNil ?_
  refine thn_n ?_
  first | refine wCond rfl (fun h10 => ?_) (fun h10 => ?_) | refine wCondB rfl (fun h10 => ?_) (fun h10 => ?_)
  ·
    refine wSeq ?_
    refine wRegion' ?_
    refine oAssign rfl ?_
    refine oNil ?_
    refine thn_n ?_
    refine wRet ?_
    refine thn_r ?_
    refine fin_r ?_
    refine ⟨rfl, _, (ResL.cons (ResR.tmp rfl) ResL.nil), ?_⟩
    exact ⟨(), trivial, by unfold symF; rw [if_pos h10]; rfl, (Leads.has (by repeat' (first | exact Has.nil | exact Pick.here | apply Has.cons | apply Pick.there)))⟩
  ·
    obtain ⟨m, r, hm, hr, hsy⟩ := mark_at (show 0 ≤ markF f i by omega)
    rw [hm]
    obtain ⟨e1, cs1, hE⟩ := g3.elm hr
    obtain rfl := kApiReloc_open hE.K
    refine wSkip ?_
    refine thn_n ?_
    refine wSeq ?_
    refine wRegion' ?_
    refine oFld (n := 8) (m := 8) rfl rfl rfl ?_
    refine oLd rfl (by repeat (first | exact Pick.here | apply Pick.there)) rfl rfl ?_
    refine oMove rfl ?_
    refine oIdxE rfl rfl (hE) (by obtain ⟨h, _⟩ := List.getElem?_eq_some_iff.1 hr; exact h) rfl rfl ?_
    have hc14 := (hE).cell
    first | refine oFldX (n := 1) (m := 1) rfl rfl rfl ?_ | refine oFldR (n := 1) (m := 1) rfl rfl rfl ?_ | refine oFldD (n := 1) (m := 1) rfl rfl rfl ?_
    first | refine oLdX rfl hc14 rfl rfl ?_ | refine oLdXA rfl hc14 rfl (by repeat (first | exact SubL.done | apply SubL.take | apply SubL.drop)) ?_ | (refine oLdR1 rfl (by repeat (first | exact Pick.here | apply Pick.there)) (by obtain ⟨h, _⟩ := List.getElem?_eq_some_iff.1 hr; exact h) rfl (fun u16 hu16 => ?_))
    refine oAssign rfl ?_
    refine oNil ?_
    refine thn_n ?_
    refine wRet ?_
    refine fin_r ?_
    refine ⟨rfl, _, (ResL.cons (ResR.tmp rfl) ResL.nil), ?_⟩
    exact ⟨(), trivial, by rw [hsy]; rfl, (Leads.has (by repeat' (first | exact Has.nil | exact Pick.here | apply Has.cons | apply Pick.there)))⟩
def symAtF (f : ApiFunc) (l : List ApiSymbol) (i : Int) : ApiSymbol := l.getD (symF f i).toNat default
def codeAt (f : ApiFunc) (i : Int) : ApiInstr := f.fCode.getD i.toNat default
def refE (f : ApiFunc) (l : List ApiSymbol) (i : Int) : Int := if needF (codeAt f i).fOp = 0 ∧ markF f i < 0 then 0 else if needF (codeAt f i).fOp = 0 ∨ markF f i < 0 ∨ symF f i < 0 ∨ (l.length : Int) ≤ symF f i then 11 else if fitsF (needF (codeAt f i).fOp) (symAtF f l i) then 0 else 8
def refS (f : ApiFunc) (l : List ApiSymbol) (i : Int) : ApiSymbol := if needF (codeAt f i).fOp = 0 ∨ refE f l i ≠ 0 then default else symAtF f l i
set_option maxRecDepth 100000 in
set_option maxHeartbeats 1000000 in
theorem verify_refers {B : Base} {w : World} (hS : St B [] w) (f : ApiFunc) (fc : List Value) (hf : kApiFunc.K B.e f fc) (Al : Option Addr) (cl : Nat) (l : List ApiSymbol) (hl : kApiSymbol.C B.e Al l) (i : Nat) (hi : i < f.fCode.length) :
    CallsIn Fence.wide 0 Tryz.prog 52 #[.agg fc.toArray, .slice Al l.length cl, .int .i64 (i : Int)] w (Ret B (fun _ : Unit => True) (fun _ => .tuple #[.agg (symL (refS f l i)).toArray, .int .i64 (refE f l i)]) (fun _ => [])) := by
  obtain ⟨A0, c0, A1, c1, A2, c2, A3, c3, rfl, l0, g0, l1, g1, l2, g2, l3, g3⟩ := kApiFunc_open hf
  obtain ⟨x, hx⟩ : ∃ x, f.fCode[i]? = some x := ⟨_, List.getElem?_eq_getElem hi⟩
  have hca : codeAt f (i : Int) = x := by unfold codeAt; rw [Int.toNat_natCast, List.getD_eq_getElem?_getD, hx]; rfl
  obtain ⟨e0, cs0, hE0⟩ := g2.elm hx
  obtain rfl := kApiInstr_open hE0.K
  generalize hne : needF x.fOp = need
  (refine enter Tryz.func52 rfl rfl hS ?_; simp only [List.zipIdx_cons, List.zipIdx_nil, List.map_cons, List.map_nil, Nat.reduceAdd, Nat.zero_add])
  refine wSeq ?_
  refine wRegion' ?_
  refine oBox rfl (by first | exact CellsOf.agg | exact CellsOf.one rfl) (fun b3 => ?_)
  refine oAlloc rfl (by first | exact CellsOf.agg | exact CellsOf.one rfl) (fun b6 => ?_)
  refine oAssign rfl ?_
  refine oNil ?_
  refine thn_n ?_
  refine wSeq ?_
  refine wDrawG rfl [0, 1, 2, 3, 4, 5, 7, 8] [(6, [7, 8], []), (9, [], [])] [10, 11] 24 (by kernel_rfl) rfl rfl (fun w0 => ?_)
  refine oFld (n := 7) (m := 7) rfl rfl rfl ?_
  refine oLd rfl (by repeat (first | exact Pick.here | apply Pick.there)) rfl rfl ?_
  refine oMove rfl ?_
  refine oIdxE rfl rfl (hE0) (by omega) rfl rfl ?_
  have hc14 := (hE0).cell
  first | refine oFldX (n := 0) (m := 0) rfl rfl rfl ?_ | refine oFldR (n := 0) (m := 0) rfl rfl rfl ?_ | refine oFldD (n := 0) (m := 0) rfl rfl rfl ?_
  first | refine oLdX rfl hc14 rfl rfl ?_ | refine oLdXA rfl hc14 rfl (by repeat (first | exact SubL.done | apply SubL.take | apply SubL.drop)) ?_ | (refine oLdR1 rfl (by repeat (first | exact Pick.here | apply Pick.there)) (by omega) rfl (fun u16 hu16 => ?_))
  refine oLdA rfl (by repeat (first | exact Pick.here | apply Pick.there)) rfl (by repeat (first | exact SubL.done | apply SubL.take | apply SubL.drop)) ?_
  refine oMove rfl ?_
  refine oLkSegG ?_
  refine oSegG rfl ?_
  (refine oCall rfl (by kernel_rfl) (fun w hS => frame hS (by repeat' (first | exact Split.nil | exact Pick.here | apply Split.cons | apply Pick.there)) (fun B' hB hS' => op_Need hS' x.fOp)) ?_; rintro ⟨⟩ -)
  rw [hne]
  refine oAgainG ?_ rfl (fun w0 => ?_)
  ·
    refine AgainG.cons rfl rfl rfl rfl (fun w0 => ?_) ?_
    ·
      refine oLdA rfl (by repeat (first | exact Pick.here | apply Pick.there)) rfl (by repeat (first | exact SubL.done | apply SubL.take | apply SubL.drop)) ?_
      exact oLkHas rfl
    ·
      refine AgainG.cons rfl rfl rfl rfl (fun w0 => ?_) ?_
      ·
        refine oMove rfl ?_
        exact oLkHas rfl
      ·
        exact AgainG.nil
  ·
    refine oLkSegG ?_
    refine oSegG rfl ?_
    (refine oCall rfl (by kernel_rfl) (fun w hS => frame hS (by repeat' (first | exact Split.nil | exact Pick.here | apply Split.cons | apply Pick.there)) (fun B' hB hS' => verify_mark hS' f _ (kApiFunc.K_grow hB hf) (i : Int))) ?_; rintro ⟨⟩ -)
    refine oAgainG ?_ rfl (fun w0 => ?_)
    ·
      exact AgainG.nil
    ·
      refine oTailG ?_
      refine oAssign rfl ?_
      refine oAssign rfl ?_
      refine oNil ?_
      refine thn_n ?_
      refine wSeq ?_
      refine wBlock ?_
      refine wSeq ?_
      refine wRegion' ?_
      refine oMove rfl ?_
      refine oEql rfl rfl ?_
      refine oMove rfl ?_
      first | refine oSplit (t := 24) rfl (fun h24 => ?_) (fun h24 => ?_) | refine oSplitB (t := 24) rfl (fun h24 => ?_) (fun h24 => ?_)
      ·
        refine oWant rfl rfl ?_
        refine oMove rfl ?_
        refine oWant rfl rfl ?_
        refine oLss rfl rfl ?_
        refine oPickT rfl rfl ?_
        refine oAssign rfl ?_
        refine oNil ?_
        refine thn_n ?_
        first | refine wCond rfl (fun h21 => ?_) (fun h21 => ?_) | refine wCondB rfl (fun h21 => ?_) (fun h21 => ?_)
        ·
          refine wSeq ?_
          refine wRegion' ?_
          refine oBuild Parts.nil rfl rfl Built.nil ?_
          refine oStA rfl rfl rfl rfl (by repeat (first | exact Pick.here | apply Pick.there)) (by rfl) ?_
          refine oAssign rfl ?_
          refine oNil ?_
          refine thn_n ?_
          refine wRet ?_
          refine blk_r ?_
          refine thn_r ?_
          refine fin_r ?_
          refine ⟨rfl, _, (ResL.cons (by first | exact ResR.cell rfl (by repeat (first | exact Pick.here | apply Pick.there)) rfl | exact ResR.agg rfl (by repeat (first | exact Pick.here | apply Pick.there)) rfl rfl) (ResL.cons (ResR.tmp rfl) ResL.nil)), ?_⟩
          have he : refE f l i = 0 := by unfold refE; rw [hca, hne, if_pos ⟨h24, h21⟩]
          have hr : refS f l i = default := by unfold refS; rw [hca, hne, if_pos (.inl h24)]
          exact ⟨(), trivial, by rw [he, hr]; rfl, (Leads.has (by repeat' (first | exact Has.nil | exact Pick.here | apply Has.cons | apply Pick.there)))⟩
        ·
          refine wSeq ?_
          refine wSeq ?_
          refine wRegion' ?_
          refine oMove rfl ?_
          refine oEql rfl rfl ?_
          refine oAssign rfl ?_
          refine oNil ?_
          refine thn_n ?_
          first | refine wCond rfl (fun h29 => ?_) (fun h29 => ?_) | refine wCondB rfl (fun h29 => ?_) (fun h29 => ?_)
          ·
            refine wSkip ?_
            refine thn_n ?_
            first | refine wCondT rfl ?_ | refine wCondTd h29 rfl ?_ | refine wCondTb h29 rfl ?_
            refine wSeq ?_
            refine wRegion' ?_
            refine oBuild Parts.nil rfl rfl Built.nil ?_
            refine oStA rfl rfl rfl rfl (by repeat (first | exact Pick.here | apply Pick.there)) (by rfl) ?_
            refine oAssign rfl ?_
            refine oNil ?_
            refine thn_n ?_
            refine wRet ?_
            refine blk_r ?_
            refine thn_r ?_
            refine fin_r ?_
            refine ⟨rfl, _, (ResL.cons (by first | exact ResR.cell rfl (by repeat (first | exact Pick.here | apply Pick.there)) rfl | exact ResR.agg rfl (by repeat (first | exact Pick.here | apply Pick.there)) rfl rfl) (ResL.cons (ResR.tmp rfl) ResL.nil)), ?_⟩
            have he : refE f l i = 11 := by unfold refE; rw [hca, hne, if_neg (by omega), if_pos (by omega)]
            have hr : refS f l i = default := by unfold refS; rw [he, if_pos (.inr (by decide))]
            exact ⟨(), trivial, by rw [he, hr]; rfl, (Leads.has (by repeat' (first | exact Has.nil | exact Pick.here | apply Has.cons | apply Pick.there)))⟩
          ·
            refine wSeq ?_
            refine wRegion' ?_
            refine oMove rfl ?_
            refine oLss rfl rfl ?_
            refine oAssign rfl ?_
            refine oNil ?_
            refine thn_n ?_
            first | refine wCond rfl (fun h29 => ?_) (fun h29 => ?_) | refine wCondB rfl (fun h29 => ?_) (fun h29 => ?_)
            ·
              refine wSkip ?_
              refine thn_n ?_
              first | refine wCondT rfl ?_ | refine wCondTd h29 rfl ?_ | refine wCondTb h29 rfl ?_
              refine wSeq ?_
              refine wRegion' ?_
              refine oBuild Parts.nil rfl rfl Built.nil ?_
              refine oStA rfl rfl rfl rfl (by repeat (first | exact Pick.here | apply Pick.there)) (by rfl) ?_
              refine oAssign rfl ?_
              refine oNil ?_
              refine thn_n ?_
              refine wRet ?_
              refine blk_r ?_
              refine thn_r ?_
              refine fin_r ?_
              refine ⟨rfl, _, (ResL.cons (by first | exact ResR.cell rfl (by repeat (first | exact Pick.here | apply Pick.there)) rfl | exact ResR.agg rfl (by repeat (first | exact Pick.here | apply Pick.there)) rfl rfl) (ResL.cons (ResR.tmp rfl) ResL.nil)), ?_⟩
              have he : refE f l i = 11 := by unfold refE; rw [hca, hne, if_neg (by omega), if_pos (by omega)]
              have hr : refS f l i = default := by unfold refS; rw [he, if_pos (.inr (by decide))]
              exact ⟨(), trivial, by rw [he, hr]; rfl, (Leads.has (by repeat' (first | exact Has.nil | exact Pick.here | apply Has.cons | apply Pick.there)))⟩
            ·
              refine wSeq ?_
              refine wRegion' ?_
              refine oFld (n := 8) (m := 8) rfl rfl rfl ?_
              obtain ⟨m, r, hm, hr, hsy⟩ := mark_at (show 0 ≤ markF f i by omega)
              rw [hm]
              obtain ⟨e1, cs1, hE1⟩ := g3.elm hr
              obtain rfl := kApiReloc_open hE1.K
              have hml := (List.getElem?_eq_some_iff.1 hr).1
              refine oLd rfl (by repeat (first | exact Pick.here | apply Pick.there)) rfl rfl ?_
              refine oMove rfl ?_
              refine oIdxE rfl rfl (hE1) (by omega) rfl rfl ?_
              have hc37 := (hE1).cell
              first | refine oFldX (n := 1) (m := 1) rfl rfl rfl ?_ | refine oFldR (n := 1) (m := 1) rfl rfl rfl ?_ | refine oFldD (n := 1) (m := 1) rfl rfl rfl ?_
              first | refine oLdX rfl hc37 rfl rfl ?_ | refine oLdXA rfl hc37 rfl (by repeat (first | exact SubL.done | apply SubL.take | apply SubL.drop)) ?_ | (refine oLdR1 rfl (by repeat (first | exact Pick.here | apply Pick.there)) (by omega) rfl (fun u39 hu39 => ?_))
              refine oLss rfl rfl ?_
              refine oAssign rfl ?_
              refine oNil ?_
              refine thn_n ?_
              first | refine wCond rfl (fun h29 => ?_) (fun h29 => ?_) | refine wCondB rfl (fun h29 => ?_) (fun h29 => ?_)
              ·
                refine wSkip ?_
                refine thn_n ?_
                first | refine wCondT rfl ?_ | refine wCondTd h29 rfl ?_ | refine wCondTb h29 rfl ?_
                refine wSeq ?_
                refine wRegion' ?_
                refine oBuild Parts.nil rfl rfl Built.nil ?_
                refine oStA rfl rfl rfl rfl (by repeat (first | exact Pick.here | apply Pick.there)) (by rfl) ?_
                refine oAssign rfl ?_
                refine oNil ?_
                refine thn_n ?_
                refine wRet ?_
                refine blk_r ?_
                refine thn_r ?_
                refine fin_r ?_
                refine ⟨rfl, _, (ResL.cons (by first | exact ResR.cell rfl (by repeat (first | exact Pick.here | apply Pick.there)) rfl | exact ResR.agg rfl (by repeat (first | exact Pick.here | apply Pick.there)) rfl rfl) (ResL.cons (ResR.tmp rfl) ResL.nil)), ?_⟩
                have he : refE f l i = 11 := by unfold refE; rw [hca, hne, if_neg (by omega), if_pos (by omega)]
                have hr : refS f l i = default := by unfold refS; rw [he, if_pos (.inr (by decide))]
                exact ⟨(), trivial, by rw [he, hr]; rfl, (Leads.has (by repeat' (first | exact Has.nil | exact Pick.here | apply Has.cons | apply Pick.there)))⟩
              ·
                refine wRegion' ?_
                refine oFld (n := 8) (m := 8) rfl rfl rfl ?_
                refine oLd rfl (by repeat (first | exact Pick.here | apply Pick.there)) rfl rfl ?_
                refine oMove rfl ?_
                refine oIdxE rfl rfl (hE1) (by omega) rfl rfl ?_
                have hc44 := (hE1).cell
                first | refine oFldX (n := 1) (m := 1) rfl rfl rfl ?_ | refine oFldR (n := 1) (m := 1) rfl rfl rfl ?_ | refine oFldD (n := 1) (m := 1) rfl rfl rfl ?_
                first | refine oLdX rfl hc44 rfl rfl ?_ | refine oLdXA rfl hc44 rfl (by repeat (first | exact SubL.done | apply SubL.take | apply SubL.drop)) ?_ | (refine oLdR1 rfl (by repeat (first | exact Pick.here | apply Pick.there)) (by omega) rfl (fun u46 hu46 => ?_))
                refine oMove rfl ?_
                refine oLenS rfl rfl ?_
                refine oGeq rfl rfl ?_
                refine oAssign rfl ?_
                refine oNil ?_
                refine thn_n ?_
                first | refine wCond rfl (fun h29 => ?_) (fun h29 => ?_) | refine wCondB rfl (fun h29 => ?_) (fun h29 => ?_)
                ·
                  refine wSeq ?_
                  refine wRegion' ?_
                  refine oBuild Parts.nil rfl rfl Built.nil ?_
                  refine oStA rfl rfl rfl rfl (by repeat (first | exact Pick.here | apply Pick.there)) (by rfl) ?_
                  refine oAssign rfl ?_
                  refine oNil ?_
                  refine thn_n ?_
                  refine wRet ?_
                  refine blk_r ?_
                  refine thn_r ?_
                  refine fin_r ?_
                  refine ⟨rfl, _, (ResL.cons (by first | exact ResR.cell rfl (by repeat (first | exact Pick.here | apply Pick.there)) rfl | exact ResR.agg rfl (by repeat (first | exact Pick.here | apply Pick.there)) rfl rfl) (ResL.cons (ResR.tmp rfl) ResL.nil)), ?_⟩
                  have he : refE f l i = 11 := by unfold refE; rw [hca, hne, if_neg (by omega), if_pos (by omega)]
                  have hr : refS f l i = default := by unfold refS; rw [he, if_pos (.inr (by decide))]
                  exact ⟨(), trivial, by rw [he, hr]; rfl, (Leads.has (by repeat' (first | exact Has.nil | exact Pick.here | apply Has.cons | apply Pick.there)))⟩
                ·
                  refine wSkip ?_
                  refine blk_n ?_
                  refine thn_n ?_
                  refine wSeq ?_
                  refine wRegion' ?_
                  refine oMove rfl ?_
                  obtain ⟨n, hn⟩ := Int.eq_ofNat_of_zero_le (show 0 ≤ r.fSym by omega)
                  obtain ⟨s, hs⟩ : ∃ s, l[n]? = some s := ⟨_, List.getElem?_eq_getElem (by omega)⟩
                  obtain ⟨e2, cs2, hE2⟩ := hl.elm hs
                  obtain rfl := kApiSymbol_open hE2.K
                  have hsa : symAtF f l i = s := by unfold symAtF; rw [hsy, hn, Int.toNat_natCast, List.getD_eq_getElem?_getD, hs]; rfl
                  refine oFld (n := 8) (m := 8) rfl rfl rfl ?_
                  refine oLd rfl (by repeat (first | exact Pick.here | apply Pick.there)) rfl rfl ?_
                  refine oMove rfl ?_
                  refine oIdxE rfl rfl (hE1) (by omega) rfl rfl ?_
                  have hc55 := (hE1).cell
                  first | refine oFldX (n := 1) (m := 1) rfl rfl rfl ?_ | refine oFldR (n := 1) (m := 1) rfl rfl rfl ?_ | refine oFldD (n := 1) (m := 1) rfl rfl rfl ?_
                  first | refine oLdX rfl hc55 rfl rfl ?_ | refine oLdXA rfl hc55 rfl (by repeat (first | exact SubL.done | apply SubL.take | apply SubL.drop)) ?_ | (refine oLdR1 rfl (by repeat (first | exact Pick.here | apply Pick.there)) (by omega) rfl (fun u57 hu57 => ?_))
                  rw [hn]
                  refine oIdxE rfl rfl (hE2) (by obtain ⟨h, _⟩ := List.getElem?_eq_some_iff.1 hs; exact h) rfl rfl ?_
                  have hc58 := (hE2).cell
                  first | refine oLdX rfl hc58 rfl rfl ?_ | refine oLdXA rfl hc58 rfl (by repeat (first | exact SubL.done | apply SubL.take | apply SubL.drop)) ?_ | (refine oLdR1 rfl (by repeat (first | exact Pick.here | apply Pick.there)) (by obtain ⟨h, _⟩ := List.getElem?_eq_some_iff.1 hs; exact h) rfl (fun u59 hu59 => ?_))
                  refine oAlloc rfl (by first | exact CellsOf.agg | exact CellsOf.one rfl) (fun b10 => ?_)
                  refine oStA rfl rfl rfl rfl (by repeat (first | exact Pick.here | apply Pick.there)) (by rfl) ?_
                  refine oNil ?_
                  refine thn_n ?_
                  refine wSeq ?_
                  refine wSeq ?_
                  refine wRegion' ?_
                  refine oMove rfl ?_
                  refine oLdA rfl (by repeat (first | exact Pick.here | apply Pick.there)) rfl (by repeat (first | exact SubL.done | apply SubL.take | apply SubL.drop)) ?_
                  (refine oCall rfl (by kernel_rfl) (fun w hS => frame hS (by repeat' (first | exact Split.nil | exact Pick.here | apply Split.cons | apply Pick.there)) (fun B' hB hS' => verify_fits hS' need s _ (kApiSymbol_mk _ s))) ?_; rintro ⟨⟩ -)
                  first | refine oNot rfl ?_ | refine oNotB rfl ?_
                  refine oNil ?_
                  refine thn_n ?_
                  first | refine wCond rfl (fun h63 => ?_) (fun h63 => ?_) | refine wCondB rfl (fun h63 => ?_) (fun h63 => ?_)
                  ·
                    refine wSeq ?_
                    refine wRegion' ?_
                    refine oBuild Parts.nil rfl rfl Built.nil ?_
                    refine oStA rfl rfl rfl rfl (by repeat (first | exact Pick.here | apply Pick.there)) (by rfl) ?_
                    refine oAssign rfl ?_
                    refine oNil ?_
                    refine thn_n ?_
                    refine wRet ?_
                    refine thn_r ?_
                    refine fin_r ?_
                    refine ⟨rfl, _, (ResL.cons (by first | exact ResR.cell rfl (by repeat (first | exact Pick.here | apply Pick.there)) rfl | exact ResR.agg rfl (by repeat (first | exact Pick.here | apply Pick.there)) rfl rfl) (ResL.cons (ResR.tmp rfl) ResL.nil)), ?_⟩
                    have he : refE f l i = 8 := by unfold refE; rw [hca, hne, hsa, if_neg (by omega), if_neg (by omega), if_neg (by simpa using h63)]
                    have hr : refS f l i = default := by unfold refS; rw [he, if_pos (.inr (by decide))]
                    exact ⟨(), trivial, by rw [he, hr]; rfl, (Leads.has (by repeat' (first | exact Has.nil | exact Pick.here | apply Has.cons | apply Pick.there)))⟩
                  ·
                    refine wSkip ?_
                    refine thn_n ?_
                    refine wSeq ?_
                    refine wRegion' ?_
                    refine oLdA rfl (by repeat (first | exact Pick.here | apply Pick.there)) rfl (by repeat (first | exact SubL.done | apply SubL.take | apply SubL.drop)) ?_
                    refine oStA rfl rfl rfl rfl (by repeat (first | exact Pick.here | apply Pick.there)) (by rfl) ?_
                    refine oAssign rfl ?_
                    refine oNil ?_
                    refine thn_n ?_
                    refine wRet ?_
                    refine fin_r ?_
                    refine ⟨rfl, _, (ResL.cons (by first | exact ResR.cell rfl (by repeat (first | exact Pick.here | apply Pick.there)) rfl | exact ResR.agg rfl (by repeat (first | exact Pick.here | apply Pick.there)) rfl rfl) (ResL.cons (ResR.tmp rfl) ResL.nil)), ?_⟩
                    have he : refE f l i = 0 := by unfold refE; rw [hca, hne, hsa, if_neg (by omega), if_neg (by omega), if_pos (by simpa using h63)]
                    have hr : refS f l i = s := by unfold refS; rw [he, hca, hne, hsa, if_neg (by omega)]
                    exact ⟨(), trivial, by rw [he, hr]; rfl, (Leads.has (by repeat' (first | exact Has.nil | exact Pick.here | apply Has.cons | apply Pick.there)))⟩
      ·
        refine oSkip rfl rfl rfl rfl ?_
        refine oSkip rfl rfl rfl rfl ?_
        refine oPickF rfl rfl ?_
        refine oAssign rfl ?_
        refine oNil ?_
        refine thn_n ?_
        first | refine wCondF rfl ?_ | refine wCondFd h21 rfl ?_ | refine wCondFb h21 rfl ?_
        refine wSeq ?_
        refine wSeq ?_
        refine wRegion' ?_
        refine oMove rfl ?_
        refine oEql rfl rfl ?_
        refine oAssign rfl ?_
        refine oNil ?_
        refine thn_n ?_
        first | refine wCond rfl (fun h29 => ?_) (fun h29 => ?_) | refine wCondB rfl (fun h29 => ?_) (fun h29 => ?_)
        ·
          refine wSkip ?_
          refine thn_n ?_
          first | refine wCondT rfl ?_ | refine wCondTd h29 rfl ?_ | refine wCondTb h29 rfl ?_
          refine wSeq ?_
          refine wRegion' ?_
          refine oBuild Parts.nil rfl rfl Built.nil ?_
          refine oStA rfl rfl rfl rfl (by repeat (first | exact Pick.here | apply Pick.there)) (by rfl) ?_
          refine oAssign rfl ?_
          refine oNil ?_
          refine thn_n ?_
          refine wRet ?_
          refine blk_r ?_
          refine thn_r ?_
          refine fin_r ?_
          refine ⟨rfl, _, (ResL.cons (by first | exact ResR.cell rfl (by repeat (first | exact Pick.here | apply Pick.there)) rfl | exact ResR.agg rfl (by repeat (first | exact Pick.here | apply Pick.there)) rfl rfl) (ResL.cons (ResR.tmp rfl) ResL.nil)), ?_⟩
          have he : refE f l i = 11 := by unfold refE; rw [hca, hne, if_neg (by omega), if_pos (by omega)]
          have hr : refS f l i = default := by unfold refS; rw [he, if_pos (.inr (by decide))]
          exact ⟨(), trivial, by rw [he, hr]; rfl, (Leads.has (by repeat' (first | exact Has.nil | exact Pick.here | apply Has.cons | apply Pick.there)))⟩
        ·
          refine wSeq ?_
          refine wRegion' ?_
          refine oMove rfl ?_
          refine oLss rfl rfl ?_
          refine oAssign rfl ?_
          refine oNil ?_
          refine thn_n ?_
          first | refine wCond rfl (fun h29 => ?_) (fun h29 => ?_) | refine wCondB rfl (fun h29 => ?_) (fun h29 => ?_)
          ·
            refine wSkip ?_
            refine thn_n ?_
            first | refine wCondT rfl ?_ | refine wCondTd h29 rfl ?_ | refine wCondTb h29 rfl ?_
            refine wSeq ?_
            refine wRegion' ?_
            refine oBuild Parts.nil rfl rfl Built.nil ?_
            refine oStA rfl rfl rfl rfl (by repeat (first | exact Pick.here | apply Pick.there)) (by rfl) ?_
            refine oAssign rfl ?_
            refine oNil ?_
            refine thn_n ?_
            refine wRet ?_
            refine blk_r ?_
            refine thn_r ?_
            refine fin_r ?_
            refine ⟨rfl, _, (ResL.cons (by first | exact ResR.cell rfl (by repeat (first | exact Pick.here | apply Pick.there)) rfl | exact ResR.agg rfl (by repeat (first | exact Pick.here | apply Pick.there)) rfl rfl) (ResL.cons (ResR.tmp rfl) ResL.nil)), ?_⟩
            have he : refE f l i = 11 := by unfold refE; rw [hca, hne, if_neg (by omega), if_pos (by omega)]
            have hr : refS f l i = default := by unfold refS; rw [he, if_pos (.inr (by decide))]
            exact ⟨(), trivial, by rw [he, hr]; rfl, (Leads.has (by repeat' (first | exact Has.nil | exact Pick.here | apply Has.cons | apply Pick.there)))⟩
          ·
            refine wSeq ?_
            refine wRegion' ?_
            refine oFld (n := 8) (m := 8) rfl rfl rfl ?_
            obtain ⟨m, r, hm, hr, hsy⟩ := mark_at (show 0 ≤ markF f i by omega)
            rw [hm]
            obtain ⟨e1, cs1, hE1⟩ := g3.elm hr
            obtain rfl := kApiReloc_open hE1.K
            have hml := (List.getElem?_eq_some_iff.1 hr).1
            refine oLd rfl (by repeat (first | exact Pick.here | apply Pick.there)) rfl rfl ?_
            refine oMove rfl ?_
            refine oIdxE rfl rfl (hE1) (by omega) rfl rfl ?_
            have hc37 := (hE1).cell
            first | refine oFldX (n := 1) (m := 1) rfl rfl rfl ?_ | refine oFldR (n := 1) (m := 1) rfl rfl rfl ?_ | refine oFldD (n := 1) (m := 1) rfl rfl rfl ?_
            first | refine oLdX rfl hc37 rfl rfl ?_ | refine oLdXA rfl hc37 rfl (by repeat (first | exact SubL.done | apply SubL.take | apply SubL.drop)) ?_ | (refine oLdR1 rfl (by repeat (first | exact Pick.here | apply Pick.there)) (by omega) rfl (fun u39 hu39 => ?_))
            refine oLss rfl rfl ?_
            refine oAssign rfl ?_
            refine oNil ?_
            refine thn_n ?_
            first | refine wCond rfl (fun h29 => ?_) (fun h29 => ?_) | refine wCondB rfl (fun h29 => ?_) (fun h29 => ?_)
            ·
              refine wSkip ?_
              refine thn_n ?_
              first | refine wCondT rfl ?_ | refine wCondTd h29 rfl ?_ | refine wCondTb h29 rfl ?_
              refine wSeq ?_
              refine wRegion' ?_
              refine oBuild Parts.nil rfl rfl Built.nil ?_
              refine oStA rfl rfl rfl rfl (by repeat (first | exact Pick.here | apply Pick.there)) (by rfl) ?_
              refine oAssign rfl ?_
              refine oNil ?_
              refine thn_n ?_
              refine wRet ?_
              refine blk_r ?_
              refine thn_r ?_
              refine fin_r ?_
              refine ⟨rfl, _, (ResL.cons (by first | exact ResR.cell rfl (by repeat (first | exact Pick.here | apply Pick.there)) rfl | exact ResR.agg rfl (by repeat (first | exact Pick.here | apply Pick.there)) rfl rfl) (ResL.cons (ResR.tmp rfl) ResL.nil)), ?_⟩
              have he : refE f l i = 11 := by unfold refE; rw [hca, hne, if_neg (by omega), if_pos (by omega)]
              have hr : refS f l i = default := by unfold refS; rw [he, if_pos (.inr (by decide))]
              exact ⟨(), trivial, by rw [he, hr]; rfl, (Leads.has (by repeat' (first | exact Has.nil | exact Pick.here | apply Has.cons | apply Pick.there)))⟩
            ·
              refine wRegion' ?_
              refine oFld (n := 8) (m := 8) rfl rfl rfl ?_
              refine oLd rfl (by repeat (first | exact Pick.here | apply Pick.there)) rfl rfl ?_
              refine oMove rfl ?_
              refine oIdxE rfl rfl (hE1) (by omega) rfl rfl ?_
              have hc44 := (hE1).cell
              first | refine oFldX (n := 1) (m := 1) rfl rfl rfl ?_ | refine oFldR (n := 1) (m := 1) rfl rfl rfl ?_ | refine oFldD (n := 1) (m := 1) rfl rfl rfl ?_
              first | refine oLdX rfl hc44 rfl rfl ?_ | refine oLdXA rfl hc44 rfl (by repeat (first | exact SubL.done | apply SubL.take | apply SubL.drop)) ?_ | (refine oLdR1 rfl (by repeat (first | exact Pick.here | apply Pick.there)) (by omega) rfl (fun u46 hu46 => ?_))
              refine oMove rfl ?_
              refine oLenS rfl rfl ?_
              refine oGeq rfl rfl ?_
              refine oAssign rfl ?_
              refine oNil ?_
              refine thn_n ?_
              first | refine wCond rfl (fun h29 => ?_) (fun h29 => ?_) | refine wCondB rfl (fun h29 => ?_) (fun h29 => ?_)
              ·
                refine wSeq ?_
                refine wRegion' ?_
                refine oBuild Parts.nil rfl rfl Built.nil ?_
                refine oStA rfl rfl rfl rfl (by repeat (first | exact Pick.here | apply Pick.there)) (by rfl) ?_
                refine oAssign rfl ?_
                refine oNil ?_
                refine thn_n ?_
                refine wRet ?_
                refine blk_r ?_
                refine thn_r ?_
                refine fin_r ?_
                refine ⟨rfl, _, (ResL.cons (by first | exact ResR.cell rfl (by repeat (first | exact Pick.here | apply Pick.there)) rfl | exact ResR.agg rfl (by repeat (first | exact Pick.here | apply Pick.there)) rfl rfl) (ResL.cons (ResR.tmp rfl) ResL.nil)), ?_⟩
                have he : refE f l i = 11 := by unfold refE; rw [hca, hne, if_neg (by omega), if_pos (by omega)]
                have hr : refS f l i = default := by unfold refS; rw [he, if_pos (.inr (by decide))]
                exact ⟨(), trivial, by rw [he, hr]; rfl, (Leads.has (by repeat' (first | exact Has.nil | exact Pick.here | apply Has.cons | apply Pick.there)))⟩
              ·
                refine wSkip ?_
                refine blk_n ?_
                refine thn_n ?_
                refine wSeq ?_
                refine wRegion' ?_
                refine oMove rfl ?_
                obtain ⟨n, hn⟩ := Int.eq_ofNat_of_zero_le (show 0 ≤ r.fSym by omega)
                obtain ⟨s, hs⟩ : ∃ s, l[n]? = some s := ⟨_, List.getElem?_eq_getElem (by omega)⟩
                obtain ⟨e2, cs2, hE2⟩ := hl.elm hs
                obtain rfl := kApiSymbol_open hE2.K
                have hsa : symAtF f l i = s := by unfold symAtF; rw [hsy, hn, Int.toNat_natCast, List.getD_eq_getElem?_getD, hs]; rfl
                refine oFld (n := 8) (m := 8) rfl rfl rfl ?_
                refine oLd rfl (by repeat (first | exact Pick.here | apply Pick.there)) rfl rfl ?_
                refine oMove rfl ?_
                refine oIdxE rfl rfl (hE1) (by omega) rfl rfl ?_
                have hc55 := (hE1).cell
                first | refine oFldX (n := 1) (m := 1) rfl rfl rfl ?_ | refine oFldR (n := 1) (m := 1) rfl rfl rfl ?_ | refine oFldD (n := 1) (m := 1) rfl rfl rfl ?_
                first | refine oLdX rfl hc55 rfl rfl ?_ | refine oLdXA rfl hc55 rfl (by repeat (first | exact SubL.done | apply SubL.take | apply SubL.drop)) ?_ | (refine oLdR1 rfl (by repeat (first | exact Pick.here | apply Pick.there)) (by omega) rfl (fun u57 hu57 => ?_))
                rw [hn]
                refine oIdxE rfl rfl (hE2) (by obtain ⟨h, _⟩ := List.getElem?_eq_some_iff.1 hs; exact h) rfl rfl ?_
                have hc58 := (hE2).cell
                first | refine oLdX rfl hc58 rfl rfl ?_ | refine oLdXA rfl hc58 rfl (by repeat (first | exact SubL.done | apply SubL.take | apply SubL.drop)) ?_ | (refine oLdR1 rfl (by repeat (first | exact Pick.here | apply Pick.there)) (by obtain ⟨h, _⟩ := List.getElem?_eq_some_iff.1 hs; exact h) rfl (fun u59 hu59 => ?_))
                refine oAlloc rfl (by first | exact CellsOf.agg | exact CellsOf.one rfl) (fun b10 => ?_)
                refine oStA rfl rfl rfl rfl (by repeat (first | exact Pick.here | apply Pick.there)) (by rfl) ?_
                refine oNil ?_
                refine thn_n ?_
                refine wSeq ?_
                refine wSeq ?_
                refine wRegion' ?_
                refine oMove rfl ?_
                refine oLdA rfl (by repeat (first | exact Pick.here | apply Pick.there)) rfl (by repeat (first | exact SubL.done | apply SubL.take | apply SubL.drop)) ?_
                (refine oCall rfl (by kernel_rfl) (fun w hS => frame hS (by repeat' (first | exact Split.nil | exact Pick.here | apply Split.cons | apply Pick.there)) (fun B' hB hS' => verify_fits hS' need s _ (kApiSymbol_mk _ s))) ?_; rintro ⟨⟩ -)
                first | refine oNot rfl ?_ | refine oNotB rfl ?_
                refine oNil ?_
                refine thn_n ?_
                first | refine wCond rfl (fun h63 => ?_) (fun h63 => ?_) | refine wCondB rfl (fun h63 => ?_) (fun h63 => ?_)
                ·
                  refine wSeq ?_
                  refine wRegion' ?_
                  refine oBuild Parts.nil rfl rfl Built.nil ?_
                  refine oStA rfl rfl rfl rfl (by repeat (first | exact Pick.here | apply Pick.there)) (by rfl) ?_
                  refine oAssign rfl ?_
                  refine oNil ?_
                  refine thn_n ?_
                  refine wRet ?_
                  refine thn_r ?_
                  refine fin_r ?_
                  refine ⟨rfl, _, (ResL.cons (by first | exact ResR.cell rfl (by repeat (first | exact Pick.here | apply Pick.there)) rfl | exact ResR.agg rfl (by repeat (first | exact Pick.here | apply Pick.there)) rfl rfl) (ResL.cons (ResR.tmp rfl) ResL.nil)), ?_⟩
                  have he : refE f l i = 8 := by unfold refE; rw [hca, hne, hsa, if_neg (by omega), if_neg (by omega), if_neg (by simpa using h63)]
                  have hr : refS f l i = default := by unfold refS; rw [he, if_pos (.inr (by decide))]
                  exact ⟨(), trivial, by rw [he, hr]; rfl, (Leads.has (by repeat' (first | exact Has.nil | exact Pick.here | apply Has.cons | apply Pick.there)))⟩
                ·
                  refine wSkip ?_
                  refine thn_n ?_
                  refine wSeq ?_
                  refine wRegion' ?_
                  refine oLdA rfl (by repeat (first | exact Pick.here | apply Pick.there)) rfl (by repeat (first | exact SubL.done | apply SubL.take | apply SubL.drop)) ?_
                  refine oStA rfl rfl rfl rfl (by repeat (first | exact Pick.here | apply Pick.there)) (by rfl) ?_
                  refine oAssign rfl ?_
                  refine oNil ?_
                  refine thn_n ?_
                  refine wRet ?_
                  refine fin_r ?_
                  refine ⟨rfl, _, (ResL.cons (by first | exact ResR.cell rfl (by repeat (first | exact Pick.here | apply Pick.there)) rfl | exact ResR.agg rfl (by repeat (first | exact Pick.here | apply Pick.there)) rfl rfl) (ResL.cons (ResR.tmp rfl) ResL.nil)), ?_⟩
                  have he : refE f l i = 0 := by unfold refE; rw [hca, hne, hsa, if_neg (by omega), if_neg (by omega), if_pos (by simpa using h63)]
                  have hr : refS f l i = s := by unfold refS; rw [he, hca, hne, hsa, if_neg (by omega)]
                  exact ⟨(), trivial, by rw [he, hr]; rfl, (Leads.has (by repeat' (first | exact Has.nil | exact Pick.here | apply Has.cons | apply Pick.there)))⟩
end Go.Proofs.YtcacohoanlljhaaGreatV
