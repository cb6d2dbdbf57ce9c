import Derived.Test.YtcacohoanlljhaaGreatVg

/-
  Package verify: Instr, Check, Class; the reference's Sym, Class.
-/
namespace Go.Proofs.YtcacohoanlljhaaGreatV
set_option linter.unusedVariables false
set_option linter.unusedSimpArgs false
open Go.RowKit Go.Proofs.YtcacohoanlljhaaGreatK Go.Proofs.YtcacohoanlljhaaGreatT Go.Proofs.YtcacohoanlljhaaGreatL

def instrF (f : ApiFunc) (l : List ApiSymbol) (i : Int) : Int := if i < 0 ∨ (f.fCode.length : Int) ≤ i then 2 else if refE f l i ≠ 0 then refE f l i else if (codeAt f i).fOp = 20 then (if isC (codeAt f i).fC then operF f (codeAt f i) (codeAt f i).fC else 14) else if (codeAt f i).fOp = 21 then (if latF (refS f l i).fKind then operF f (codeAt f i) (refS f l i).fKind else 14) else if (codeAt f i).fOp = 18 then operF f (codeAt f i) (IntKind.i64.wrap ((refS f l i).fKind - 1)) else operF f (codeAt f i) (refS f l i).fKind
set_option maxRecDepth 100000 in
set_option maxHeartbeats 1000000 in
theorem verify_Instr {B : Base} {w : World} (hS : St B [] w) (f : ApiFunc) (fc : List Value) (hf : kApiFunc.K B.e f fc) (Al : Option Addr) (cl : Nat) (l : List ApiSymbol) (hl : kApiSymbol.C B.e Al l) (i : Int) :
    CallsIn Fence.wide 0 Tryz.prog 27 #[.agg fc.toArray, .slice Al l.length cl, .int .i64 i] w (Ret B (fun _ : Unit => True) (fun _ => .int .i64 (instrF f l i)) (fun _ => [])) := by
  obtain ⟨A0, c0, A1, c1, A2, c2, A3, c3, rfl, l0, g0, l1, g1, l2, g2, l3, g3⟩ := kApiFunc_open hf
  (refine enter Tryz.func27 rfl rfl hS ?_; simp only [List.zipIdx_cons, List.zipIdx_nil, List.map_cons, List.map_nil, Nat.reduceAdd, Nat.zero_add])
  refine wSeq ?_
  refine wRegion' ?_
  refine oBox rfl (by first | exact CellsOf.agg | exact CellsOf.one rfl) (fun b3 => ?_)
  refine oAssign rfl ?_
  refine oNil ?_
  refine thn_n ?_
  refine wSeq ?_
  refine wSeq ?_
  refine wRegion' ?_
  refine oMove rfl ?_
  refine oLss rfl rfl ?_
  refine oMove rfl ?_
  first | refine oSplit (t := 12) rfl (fun h12 => ?_) (fun h12 => ?_) | refine oSplitB (t := 12) rfl (fun h12 => ?_) (fun h12 => ?_)
  ·
    refine oSkip rfl rfl rfl rfl ?_
    refine oSkip rfl rfl rfl rfl ?_
    refine oSkip rfl rfl rfl rfl ?_
    refine oSkip rfl rfl rfl rfl ?_
    refine oSkip rfl rfl rfl rfl ?_
    refine oPickT rfl rfl ?_
    refine oNil ?_
    refine thn_n ?_
    first | refine wCondT rfl ?_ | refine wCondTd h18 rfl ?_ | refine wCondTb h18 rfl ?_
    refine wSeq ?_
    refine wRegion' ?_
    refine oAssign rfl ?_
    refine oNil ?_
    refine thn_n ?_
    refine wRet ?_
    refine thn_r ?_
    refine fin_r ?_
    refine ⟨rfl, _, (ResL.cons (ResR.tmp rfl) ResL.nil), ?_⟩
    exact ⟨(), trivial, by unfold instrF; rw [if_pos (.inl h12)]; rfl, (Leads.has (by repeat' (first | exact Has.nil | exact Pick.here | apply Has.cons | apply Pick.there)))⟩
  ·
    refine oWant rfl rfl ?_
    refine oMove rfl ?_
    refine oWant rfl rfl ?_
    refine oFld (n := 7) (m := 7) rfl rfl rfl ?_
    refine oWant rfl rfl ?_
    refine oLd rfl (by repeat (first | exact Pick.here | apply Pick.there)) rfl rfl ?_
    refine oWant rfl rfl ?_
    refine oLenS rfl rfl ?_
    refine oWant rfl rfl ?_
    refine oGeq rfl rfl ?_
    refine oPickF rfl rfl ?_
    refine oNil ?_
    refine thn_n ?_
    first | refine wCond rfl (fun h18 => ?_) (fun h18 => ?_) | refine wCondB rfl (fun h18 => ?_) (fun h18 => ?_)
    ·
      refine wSeq ?_
      refine wRegion' ?_
      refine oAssign rfl ?_
      refine oNil ?_
      refine thn_n ?_
      refine wRet ?_
      refine thn_r ?_
      refine fin_r ?_
      refine ⟨rfl, _, (ResL.cons (ResR.tmp rfl) ResL.nil), ?_⟩
      exact ⟨(), trivial, by unfold instrF; rw [if_pos (.inr h18)]; rfl, (Leads.has (by repeat' (first | exact Has.nil | exact Pick.here | apply Has.cons | apply Pick.there)))⟩
    ·
      have hir : ¬ (i < 0 ∨ (f.fCode.length : Int) ≤ i) := by omega
      obtain ⟨n, rfl⟩ := Int.eq_ofNat_of_zero_le (show 0 ≤ i by omega)
      have hnl : n < f.fCode.length := by omega
      obtain ⟨x, hx⟩ : ∃ x, f.fCode[n]? = some x := ⟨_, List.getElem?_eq_getElem hnl⟩
      have hca : codeAt f (n : Int) = x := by unfold codeAt; rw [Int.toNat_natCast, List.getD_eq_getElem?_getD, hx]; rfl
      obtain ⟨e0, cs0, hE0⟩ := g2.elm hx
      obtain rfl := kApiInstr_open hE0.K
      refine wSkip ?_
      refine thn_n ?_
      refine wSeq ?_
      refine wRegion' ?_
      refine oLdA rfl (by repeat (first | exact Pick.here | apply Pick.there)) rfl (by repeat (first | exact SubL.done | apply SubL.take | apply SubL.drop)) ?_
      refine oMove rfl ?_
      refine oMove rfl ?_
      (refine oCall rfl (by kernel_rfl) (fun w hS => frame hS (by repeat' (first | exact Split.nil | exact Pick.here | apply Split.cons | apply Pick.there)) (fun B' hB hS' => verify_refers hS' f _ (kApiFunc.K_grow hB hf) Al cl l (Kd.C_grow hB hl) n hnl)) ?_; rintro ⟨⟩ -)
      refine oMove rfl ?_
      refine oExt rfl (by repeat (first | exact GetAt.here | apply GetAt.there)) ?_
      refine oExt rfl (by repeat (first | exact GetAt.here | apply GetAt.there)) ?_
      refine oAlloc rfl (by first | exact CellsOf.agg | exact CellsOf.one rfl) (fun b7 => ?_)
      refine oStA rfl rfl rfl rfl (by repeat (first | exact Pick.here | apply Pick.there)) (by rfl) ?_
      refine oAssign rfl ?_
      refine oNil ?_
      refine thn_n ?_
      refine wSeq ?_
      refine wSeq ?_
      refine wRegion' ?_
      refine oMove rfl ?_
      refine oNeq rfl rfl ?_
      refine oNil ?_
      refine thn_n ?_
      first | refine wCond rfl (fun h27 => ?_) (fun h27 => ?_) | refine wCondB rfl (fun h27 => ?_) (fun h27 => ?_)
      ·
        refine wSeq ?_
        refine wRegion' ?_
        refine oMove rfl ?_
        refine oAssign rfl ?_
        refine oNil ?_
        refine thn_n ?_
        refine wRet ?_
        refine thn_r ?_
        refine fin_r ?_
        refine ⟨rfl, _, (ResL.cons (ResR.tmp rfl) ResL.nil), ?_⟩
        exact ⟨(), trivial, by unfold instrF; rw [if_neg hir, if_pos h27]; rfl, (Leads.has (by repeat' (first | exact Has.nil | exact Pick.here | apply Has.cons | apply Pick.there)))⟩
      ·
        generalize hs : refS f l (n : Int) = s
        refine wSkip ?_
        refine thn_n ?_
        refine wSeq ?_
        refine wDraw2 rfl rfl [3] [0, 1, 2, 4, 5, 6, 7, 8, 9] 10 (by kernel_rfl) rfl rfl rfl (fun w0 => ?_)
        refine oLdA rfl (by repeat (first | exact Pick.here | apply Pick.there)) rfl (by repeat (first | exact SubL.done | apply SubL.take | apply SubL.drop)) ?_
        refine oFld (n := 7) (m := 7) rfl rfl rfl ?_
        refine oLd rfl (by repeat (first | exact Pick.here | apply Pick.there)) rfl rfl ?_
        refine oIdxE rfl rfl (hE0) (by omega) rfl rfl ?_
        have hc33 := (hE0).cell
        first | refine oLdX rfl hc33 rfl rfl ?_ | refine oLdXA rfl hc33 rfl (by repeat (first | exact SubL.done | apply SubL.take | apply SubL.drop)) ?_ | (refine oLdR1 rfl (by repeat (first | exact Pick.here | apply Pick.there)) (by omega) rfl (fun u34 hu34 => ?_))
        refine oLdA rfl (by repeat (first | exact Pick.here | apply Pick.there)) rfl (by repeat (first | exact SubL.done | apply SubL.take | apply SubL.drop)) ?_
        refine oFld (n := 3) (m := 3) rfl rfl rfl ?_
        refine oLd rfl (by repeat (first | exact Pick.here | apply Pick.there)) rfl rfl ?_
        refine oBuild (Parts.cons rfl (Parts.cons rfl (Parts.cons rfl (Parts.cons rfl Parts.nil)))) rfl rfl (Built.cons (off := 0) (s := 9) rfl (by first | exact CellsOf.agg | exact CellsOf.one rfl) rfl (by repeat (first | exact PutL.done | apply PutL.put | apply PutL.skip)) (Built.cons (off := 9) (s := 5) rfl (by first | exact CellsOf.agg | exact CellsOf.one rfl) rfl (by repeat (first | exact PutL.done | apply PutL.put | apply PutL.skip)) (Built.cons (off := 14) (s := 5) rfl (by first | exact CellsOf.agg | exact CellsOf.one rfl) rfl (by repeat (first | exact PutL.done | apply PutL.put | apply PutL.skip)) (Built.cons (off := 19) (s := 1) rfl (by first | exact CellsOf.agg | exact CellsOf.one rfl) rfl (by repeat (first | exact PutL.done | apply PutL.put | apply PutL.skip)) Built.nil)))) ?_
        refine oHead ?_
        refine oBox rfl (by first | exact CellsOf.agg | exact CellsOf.one rfl) (fun b39 => ?_)
        refine oAssign rfl ?_
        refine oNilT ?_
        refine thn_n ?_
        refine wSeq ?_
        refine wSeq ?_
        refine wRegion' ?_
        refine oMove rfl ?_
        refine oPtr rfl ?_
        refine oFld (n := 9) (m := 9) rfl rfl rfl ?_
        refine oFld (n := 0) (m := 9) rfl rfl rfl ?_
        refine oLd rfl (by repeat (first | exact Pick.here | apply Pick.there)) rfl rfl ?_
        refine oNil ?_
        refine thn_n ?_
        refine wBlock ?_
        refine wSeq ?_
        refine wRegion' ?_
        refine oEql rfl rfl ?_
        refine oAssign rfl ?_
        refine oNil ?_
        refine thn_n ?_
        first | refine wCond rfl (fun h45 => ?_) (fun h45 => ?_) | refine wCondB rfl (fun h45 => ?_) (fun h45 => ?_)
        ·
          refine wSeq ?_
          refine wRegion' ?_
          refine oMove rfl ?_
          refine oMove rfl ?_
          refine oPtr rfl ?_
          refine oFld (n := 9) (m := 9) rfl rfl rfl ?_
          refine oFld (n := 3) (m := 12) rfl rfl rfl ?_
          refine oLd rfl (by repeat (first | exact Pick.here | apply Pick.there)) rfl rfl ?_
          refine oPtr rfl ?_
          refine oFld (n := 19) (m := 19) rfl rfl rfl ?_
          refine oSt rfl rfl rfl rfl rfl (by repeat (first | exact Pick.here | apply Pick.there)) (by repeat (first | exact SetAt.here | apply SetAt.there)) ?_
          refine oNil ?_
          refine thn_n ?_
          refine wSeq ?_
          refine wRegion' ?_
          refine oMove rfl ?_
          refine oPtr rfl ?_
          refine oFld (n := 19) (m := 19) rfl rfl rfl ?_
          refine oLd rfl (by repeat (first | exact Pick.here | apply Pick.there)) rfl rfl ?_
          (refine oCall rfl (by kernel_rfl) (fun w hS => frame hS (by repeat' (first | exact Split.nil | exact Pick.here | apply Split.cons | apply Pick.there)) (fun B' hB hS' => sig_Is hS' x.fC)) ?_; rintro ⟨⟩ -)
          first | refine oNot rfl ?_ | refine oNotB rfl ?_
          refine oNil ?_
          refine thn_n ?_
          first | refine wCond rfl (fun h60 => ?_) (fun h60 => ?_) | refine wCondB rfl (fun h60 => ?_) (fun h60 => ?_)
          ·
            refine wSeq ?_
            refine wRegion' ?_
            refine oAssign rfl ?_
            refine oNil ?_
            refine thn_n ?_
            refine wRet ?_
            refine blk_r ?_
            refine thn_r ?_
            refine fin_r ?_
            refine ⟨rfl, _, (ResL.cons (ResR.tmp rfl) ResL.nil), ?_⟩
            exact ⟨(), trivial, by unfold instrF; rw [if_neg hir, if_neg h27, hca, if_pos h45, if_neg (by simpa using h60)]; rfl, (Leads.has (by repeat' (first | exact Has.nil | exact Pick.here | apply Has.cons | apply Pick.there)))⟩
          ·
            refine wSkip ?_
            refine blk_n ?_
            refine thn_n ?_
            refine wSeq ?_
            refine wRegion' ?_
            refine oMove rfl ?_
            (refine oCall rfl (by kernel_rfl) (fun w hS => frame hS (by repeat' (first | exact Split.nil | exact Pick.here | apply Split.cons | apply Pick.there)) (fun B' hB hS' => ck_operands (a := ⟨A0, c0, A1, c1, A2, c2, A3, c3⟩) (f := f) (x := x) (s := s) (k := x.fC) hS' (Kd.C_grow hB g0))) ?_; rintro ⟨⟩ -)
            refine oAssign rfl ?_
            refine oNil ?_
            refine thn_n ?_
            refine wRet ?_
            refine fin_r ?_
            refine ⟨rfl, _, (ResL.cons (ResR.tmp rfl) ResL.nil), ?_⟩
            exact ⟨(), trivial, by unfold instrF; rw [if_neg hir, if_neg h27, hca, if_pos h45, if_pos (by simpa using h60)]; rfl, (Leads.has (by repeat' (first | exact Has.nil | exact Pick.here | apply Has.cons | apply Pick.there)))⟩
        ·
          refine wSeq ?_
          refine wRegion' ?_
          refine oEql rfl rfl ?_
          refine oAssign rfl ?_
          refine oNil ?_
          refine thn_n ?_
          first | refine wCond rfl (fun h61 => ?_) (fun h61 => ?_) | refine wCondB rfl (fun h61 => ?_) (fun h61 => ?_)
          ·
            refine wSeq ?_
            refine wRegion' ?_
            refine oMove rfl ?_
            refine oPtr rfl ?_
            refine oFld (n := 19) (m := 19) rfl rfl rfl ?_
            refine oLd rfl (by repeat (first | exact Pick.here | apply Pick.there)) rfl rfl ?_
            (refine oCall rfl (by kernel_rfl) (fun w hS => frame hS (by repeat' (first | exact Split.nil | exact Pick.here | apply Split.cons | apply Pick.there)) (fun B' hB hS' => sig_Later hS' s.fKind)) ?_; rintro ⟨⟩ -)
            first | refine oNot rfl ?_ | refine oNotB rfl ?_
            refine oNil ?_
            refine thn_n ?_
            first | refine wCond rfl (fun h68 => ?_) (fun h68 => ?_) | refine wCondB rfl (fun h68 => ?_) (fun h68 => ?_)
            ·
              refine wSeq ?_
              refine wRegion' ?_
              refine oAssign rfl ?_
              refine oNil ?_
              refine thn_n ?_
              refine wRet ?_
              refine blk_r ?_
              refine thn_r ?_
              refine fin_r ?_
              refine ⟨rfl, _, (ResL.cons (ResR.tmp rfl) ResL.nil), ?_⟩
              exact ⟨(), trivial, by unfold instrF; rw [if_neg hir, if_neg h27, hca, hs, if_neg h45, if_pos h61, if_neg (by simpa using h68)]; rfl, (Leads.has (by repeat' (first | exact Has.nil | exact Pick.here | apply Has.cons | apply Pick.there)))⟩
            ·
              refine wSkip ?_
              refine blk_n ?_
              refine thn_n ?_
              refine wSeq ?_
              refine wRegion' ?_
              refine oMove rfl ?_
              (refine oCall rfl (by kernel_rfl) (fun w hS => frame hS (by repeat' (first | exact Split.nil | exact Pick.here | apply Split.cons | apply Pick.there)) (fun B' hB hS' => ck_operands (a := ⟨A0, c0, A1, c1, A2, c2, A3, c3⟩) (f := f) (x := x) (s := s) (k := s.fKind) hS' (Kd.C_grow hB g0))) ?_; rintro ⟨⟩ -)
              refine oAssign rfl ?_
              refine oNil ?_
              refine thn_n ?_
              refine wRet ?_
              refine fin_r ?_
              refine ⟨rfl, _, (ResL.cons (ResR.tmp rfl) ResL.nil), ?_⟩
              exact ⟨(), trivial, by unfold instrF; rw [if_neg hir, if_neg h27, hca, hs, if_neg h45, if_pos h61, if_pos (by simpa using h68)]; rfl, (Leads.has (by repeat' (first | exact Has.nil | exact Pick.here | apply Has.cons | apply Pick.there)))⟩
          ·
            refine wSeq ?_
            refine wRegion' ?_
            refine oEql rfl rfl ?_
            refine oAssign rfl ?_
            refine oNil ?_
            refine thn_n ?_
            first | refine wCond rfl (fun h69 => ?_) (fun h69 => ?_) | refine wCondB rfl (fun h69 => ?_) (fun h69 => ?_)
            ·
              refine wRegion' ?_
              refine oMove rfl ?_
              refine oPtr rfl ?_
              refine oFld (n := 19) (m := 19) rfl rfl rfl ?_
              refine oLd rfl (by repeat (first | exact Pick.here | apply Pick.there)) rfl rfl ?_
              refine oSubW rfl rfl ?_
              refine oPtr rfl ?_
              refine oFld (n := 19) (m := 19) rfl rfl rfl ?_
              refine oSt rfl rfl rfl rfl rfl (by repeat (first | exact Pick.here | apply Pick.there)) (by repeat (first | exact SetAt.here | apply SetAt.there)) ?_
              refine oNil ?_
              refine blk_n ?_
              refine thn_n ?_
              refine wSeq ?_
              refine wRegion' ?_
              refine oMove rfl ?_
              (refine oCall rfl (by kernel_rfl) (fun w hS => frame hS (by repeat' (first | exact Split.nil | exact Pick.here | apply Split.cons | apply Pick.there)) (fun B' hB hS' => ck_operands (a := ⟨A0, c0, A1, c1, A2, c2, A3, c3⟩) (f := f) (x := x) (s := s) (k := IntKind.i64.wrap (s.fKind - 1)) hS' (Kd.C_grow hB g0))) ?_; rintro ⟨⟩ -)
              refine oAssign rfl ?_
              refine oNil ?_
              refine thn_n ?_
              refine wRet ?_
              refine fin_r ?_
              refine ⟨rfl, _, (ResL.cons (ResR.tmp rfl) ResL.nil), ?_⟩
              exact ⟨(), trivial, by unfold instrF; rw [if_neg hir, if_neg h27, hca, hs, if_neg h45, if_neg h61, if_pos h69]; rfl, (Leads.has (by repeat' (first | exact Has.nil | exact Pick.here | apply Has.cons | apply Pick.there)))⟩
            ·
              refine wSkip ?_
              refine blk_n ?_
              refine thn_n ?_
              refine wSeq ?_
              refine wRegion' ?_
              refine oMove rfl ?_
              (refine oCall rfl (by kernel_rfl) (fun w hS => frame hS (by repeat' (first | exact Split.nil | exact Pick.here | apply Split.cons | apply Pick.there)) (fun B' hB hS' => ck_operands (a := ⟨A0, c0, A1, c1, A2, c2, A3, c3⟩) (f := f) (x := x) (s := s) (k := s.fKind) hS' (Kd.C_grow hB g0))) ?_; rintro ⟨⟩ -)
              refine oAssign rfl ?_
              refine oNil ?_
              refine thn_n ?_
              refine wRet ?_
              refine fin_r ?_
              refine ⟨rfl, _, (ResL.cons (ResR.tmp rfl) ResL.nil), ?_⟩
              exact ⟨(), trivial, by unfold instrF; rw [if_neg hir, if_neg h27, hca, hs, if_neg h45, if_neg h61, if_neg h69]; rfl, (Leads.has (by repeat' (first | exact Has.nil | exact Pick.here | apply Has.cons | apply Pick.there)))⟩
def insL (f : ApiFunc) (l : List ApiSymbol) : List Int := (List.range f.fCode.length).map fun i : Nat => instrF f l (i : Int)
abbrev non0 (e : Int) : Bool := decide (e ≠ 0)
def chkE (f : ApiFunc) (l : List ApiSymbol) : Int := if funF f ≠ 0 then funF f else fstE (insL f l)
def chkI (f : ApiFunc) (l : List ApiSymbol) : Int := if funF f ≠ 0 then -1 else idxI non0 (insL f l)
set_option maxRecDepth 100000 in
set_option maxHeartbeats 600000 in
theorem verify_Check {B : Base} {w : World} (hS : St B [] w) (f : ApiFunc) (fc : List Value) (hf : kApiFunc.K B.e f fc) (hsm : f.fRelocs.length ≤ 1000) (Al : Option Addr) (cl : Nat) (l : List ApiSymbol) (hl : kApiSymbol.C B.e Al l) :
    CallsIn Fence.wide 0 Tryz.prog 25 #[.agg fc.toArray, .slice Al l.length cl] w (Ret B (fun _ : Unit => True) (fun _ => .tuple #[.int .i64 (chkE f l), .int .i64 (chkI f l)]) (fun _ => [])) := by
  obtain ⟨A0, c0, A1, c1, A2, c2, A3, c3, rfl, l0, g0, l1, g1, l2, g2, l3, g3⟩ := kApiFunc_open hf
  have hcl := g2.1
  have hil : (insL f l).length = f.fCode.length := by simp [insL]
  (refine enter Tryz.func25 rfl rfl hS ?_; simp only [List.zipIdx_cons, List.zipIdx_nil, List.map_cons, List.map_nil, Nat.reduceAdd, Nat.zero_add])
  refine wSeq ?_
  refine wRegion' ?_
  refine oBox rfl (by first | exact CellsOf.agg | exact CellsOf.one rfl) (fun b2 => ?_)
  refine oAssign rfl ?_
  refine oAssign rfl ?_
  refine oNil ?_
  refine thn_n ?_
  refine wSeq ?_
  refine wSeq ?_
  refine wRegion' ?_
  refine oLdA rfl (by repeat (first | exact Pick.here | apply Pick.there)) rfl (by repeat (first | exact SubL.done | apply SubL.take | apply SubL.drop)) ?_
  (refine oCall rfl (by kernel_rfl) (fun w hS => frame hS (by repeat' (first | exact Split.nil | exact Pick.here | apply Split.cons | apply Pick.there)) (fun B' hB hS' => fun_Check hS' f _ (kApiFunc.K_grow hB hf) hsm)) ?_; rintro ⟨⟩ -)
  refine oAssign rfl ?_
  refine oNil ?_
  refine thn_n ?_
  refine wSeq ?_
  refine wRegion' ?_
  refine oMove rfl ?_
  refine oNeq rfl rfl ?_
  refine oNil ?_
  refine thn_n ?_
  first | refine wCond rfl (fun h12 => ?_) (fun h12 => ?_) | refine wCondB rfl (fun h12 => ?_) (fun h12 => ?_)
  ·
    refine wSeq ?_
    refine wRegion' ?_
    refine oMove rfl ?_
    refine oAssign rfl ?_
    refine oAssign rfl ?_
    refine oNil ?_
    refine thn_n ?_
    refine wRet ?_
    refine thn_r ?_
    refine fin_r ?_
    refine ⟨rfl, _, (ResL.cons (ResR.tmp rfl) (ResL.cons (ResR.tmp rfl) ResL.nil)), ?_⟩
    exact ⟨(), trivial, by unfold chkE chkI; rw [if_pos h12, if_pos h12]; rfl, (Leads.has (by repeat' (first | exact Has.nil | exact Pick.here | apply Has.cons | apply Pick.there)))⟩
  ·
    refine wSkip ?_
    refine thn_n ?_
    refine wSeq ?_
    refine wSeq ?_
    refine wRegion' ?_
    refine oFld (n := 7) (m := 7) rfl rfl rfl ?_
    refine oLd rfl (by repeat (first | exact Pick.here | apply Pick.there)) rfl rfl ?_
    refine oLenS rfl rfl ?_
    refine oMove rfl ?_
    refine oNil ?_
    refine thn_n ?_
    refine wBlock ?_
    refine wLoop (ι := Nat) (fun i => [(1, .slice Al l.length cl), (2, .pointer (some ⟨b2, 0, none⟩)), (16, .int .i64 (f.fCode.length : Int)), (17, .int .i64 (i : Int))]) (fun i => [blk b2 49 [.int .i64 f.fClass, .slice A0 f.fKinds.length c0, .int .i64 f.fPad, .bool f.fNosplit, .int .i64 f.fFrom, .int .i64 f.fTo, .slice A1 f.fLines.length c1, .slice A2 f.fCode.length c2, .slice A3 f.fRelocs.length c3]]) (fun i => i ≤ f.fCode.length ∧ fstE ((insL f l).take i) = 0 ∧ ∀ y ∈ (insL f l).take i, non0 y = false) (fun i => f.fCode.length - i) 0 ?_ (by repeat (first | exact trivial | refine And.intro rfl ?_)) (Leads.has (by repeat' (first | exact Has.nil | exact Pick.here | apply Has.cons | apply Pick.there))) ?_
    ·
      exact ⟨Nat.zero_le _, rfl, by simp⟩
    ·
      rintro i ⟨hi, hs, hs2⟩
      try dsimp only
      refine wSeq ?_
      refine wRegion' ?_
      refine oLss rfl rfl ?_
      refine oNil ?_
      refine thn_n ?_
      refine wSeq ?_
      first | refine wCond rfl (fun h18 => ?_) (fun h18 => ?_) | refine wCondB rfl (fun h18 => ?_) (fun h18 => ?_)
      ·
        have hxe : (insL f l)[i]? = some (instrF f l (i : Int)) := rmap_at (e := fun i : Nat => instrF f l (i : Int)) (by omega)
        refine wSkip ?_
        refine thn_n ?_
        refine wSeq ?_
        refine wBlock ?_
        refine wSeq ?_
        refine wRegion' ?_
        refine oMove rfl ?_
        refine oAssign rfl ?_
        refine oNil ?_
        refine thn_n ?_
        refine wSeq ?_
        refine wRegion' ?_
        refine oLdA rfl (by repeat (first | exact Pick.here | apply Pick.there)) rfl (by repeat (first | exact SubL.done | apply SubL.take | apply SubL.drop)) ?_
        refine oMove rfl ?_
        refine oMove rfl ?_
        (refine oCall rfl (by kernel_rfl) (fun w hS => frame hS (by repeat' (first | exact Split.nil | exact Pick.here | apply Split.cons | apply Pick.there)) (fun B' hB hS' => verify_Instr hS' f _ (kApiFunc.K_grow hB hf) Al cl l (Kd.C_grow hB hl) (i : Int))) ?_; rintro ⟨⟩ -)
        refine oAssign rfl ?_
        refine oNil ?_
        refine thn_n ?_
        refine wSeq ?_
        refine wRegion' ?_
        refine oMove rfl ?_
        refine oNeq rfl rfl ?_
        refine oNil ?_
        refine thn_n ?_
        first | refine wCond rfl (fun h25 => ?_) (fun h25 => ?_) | refine wCondB rfl (fun h25 => ?_) (fun h25 => ?_)
        ·
          refine wSeq ?_
          refine wRegion' ?_
          refine oMove rfl ?_
          refine oMove rfl ?_
          refine oAssign rfl ?_
          refine oAssign rfl ?_
          refine oNil ?_
          refine thn_n ?_
          refine wRet ?_
          refine blk_r ?_
          refine thn_r ?_
          refine thn_r ?_
          refine blk_r ?_
          refine thn_r ?_
          refine fin_r ?_
          refine ⟨rfl, _, (ResL.cons (ResR.tmp rfl) (ResL.cons (ResR.tmp rfl) ResL.nil)), ?_⟩
          exact ⟨(), trivial, by unfold chkE chkI; rw [if_neg h12, if_neg h12, fstE_stop hs hxe h25, idxI_stop hs2 hxe (decide_eq_true h25)]; rfl, (Leads.has (by repeat' (first | exact Has.nil | exact Pick.here | apply Has.cons | apply Pick.there)))⟩
        ·
          refine wSkip ?_
          refine blk_n ?_
          refine thn_n ?_
          refine wRegion' ?_
          refine oSucc rfl rfl (by omega) ?_
          refine oMove rfl ?_
          refine oNil ?_
          refine thn_n ?_
          exact ⟨rfl, i + 1, ⟨by omega, fstE_next hs hxe (Classical.not_not.1 h25), take_not hs2 hxe (decide_eq_false h25)⟩, by omega, (by repeat (first | exact trivial | refine And.intro rfl ?_)), (Leads.has (by repeat' (first | exact Has.nil | exact Pick.here | apply Has.cons | apply Pick.there)))⟩
      ·
        refine wExit ?_
        refine thn_x ?_
        refine thn_x ?_
        refine blk_x ?_
        refine thn_n ?_
        refine wSeq ?_
        refine wRegion' ?_
        refine oAssign rfl ?_
        refine oAssign rfl ?_
        refine oNil ?_
        refine thn_n ?_
        refine wRet ?_
        refine fin_r ?_
        refine ⟨rfl, _, (ResL.cons (ResR.tmp rfl) (ResL.cons (ResR.tmp rfl) ResL.nil)), ?_⟩
        obtain rfl : i = f.fCode.length := by omega
        rw [← hil, List.take_length] at hs hs2
        exact ⟨(), trivial, by unfold chkE chkI; rw [if_neg h12, if_neg h12, hs, idxI_none hs2]; rfl, (Leads.has (by repeat' (first | exact Has.nil | exact Pick.here | apply Has.cons | apply Pick.there)))⟩
/-! ### classes that are called -/
def finC (k : Int) : Int × Bool := if isC k then (k, true) else (0, false)
def clsF (f : ApiFunc) (l : List ApiSymbol) (i : Int) : Int × Bool := if i < 0 ∨ (f.fCode.length : Int) ≤ i then (0, false) else if (codeAt f i).fOp = 19 ∨ (codeAt f i).fOp = 21 then (if symF f i < 0 ∨ (l.length : Int) ≤ symF f i ∨ (symAtF f l i).fSort ≠ 1 then (0, false) else finC (symAtF f l i).fKind) else if (codeAt f i).fOp = 20 then finC (codeAt f i).fC else (0, false)
set_option maxRecDepth 100000 in
set_option maxHeartbeats 600000 in
theorem verify_Class {B : Base} {w : World} (hS : St B [] w) (f : ApiFunc) (fc : List Value) (hf : kApiFunc.K B.e f fc) (Al : Option Addr) (cl : Nat) (l : List ApiSymbol) (hl : kApiSymbol.C B.e Al l) (i : Int) :
    CallsIn Fence.wide 0 Tryz.prog 48 #[.agg fc.toArray, .slice Al l.length cl, .int .i64 i] w (Ret B (fun _ : Unit => True) (fun _ => .tuple #[.int .i64 (clsF f l i).1, .bool (clsF f l i).2]) (fun _ => [])) := by
  obtain ⟨A0, c0, A1, c1, A2, c2, A3, c3, rfl, l0, g0, l1, g1, l2, g2, l3, g3⟩ := kApiFunc_open hf
  (refine enter Tryz.func48 rfl rfl hS ?_; simp only [List.zipIdx_cons, List.zipIdx_nil, List.map_cons, List.map_nil, Nat.reduceAdd, Nat.zero_add])
  refine wSeq ?_
  refine wRegion' ?_
  refine oBox rfl (by first | exact CellsOf.agg | exact CellsOf.one rfl) (fun b3 => ?_)
  refine oAssign rfl ?_
  refine oAssign rfl ?_
  refine oNil ?_
  refine thn_n ?_
  refine wSeq ?_
  refine wSeq ?_
  refine wRegion' ?_
  refine oMove rfl ?_
  refine oLss rfl rfl ?_
  refine oMove rfl ?_
  first | refine oSplit (t := 12) rfl (fun h12 => ?_) (fun h12 => ?_) | refine oSplitB (t := 12) rfl (fun h12 => ?_) (fun h12 => ?_)
  ·
    refine oSkip rfl rfl rfl rfl ?_
    refine oSkip rfl rfl rfl rfl ?_
    refine oSkip rfl rfl rfl rfl ?_
    refine oSkip rfl rfl rfl rfl ?_
    refine oSkip rfl rfl rfl rfl ?_
    refine oPickT rfl rfl ?_
    refine oNil ?_
    refine thn_n ?_
    first | refine wCondT rfl ?_ | refine wCondTd h18 rfl ?_ | refine wCondTb h18 rfl ?_
    refine wSeq ?_
    refine wRegion' ?_
    refine oAssign rfl ?_
    refine oAssign rfl ?_
    refine oNil ?_
    refine thn_n ?_
    refine wRet ?_
    refine thn_r ?_
    refine fin_r ?_
    refine ⟨rfl, _, (ResL.cons (ResR.tmp rfl) (ResL.cons (ResR.tmp rfl) ResL.nil)), ?_⟩
    exact ⟨(), trivial, by unfold clsF; rw [if_pos (.inl h12)]; rfl, (Leads.has (by repeat' (first | exact Has.nil | exact Pick.here | apply Has.cons | apply Pick.there)))⟩
  ·
    refine oWant rfl rfl ?_
    refine oMove rfl ?_
    refine oWant rfl rfl ?_
    refine oFld (n := 7) (m := 7) rfl rfl rfl ?_
    refine oWant rfl rfl ?_
    refine oLd rfl (by repeat (first | exact Pick.here | apply Pick.there)) rfl rfl ?_
    refine oWant rfl rfl ?_
    refine oLenS rfl rfl ?_
    refine oWant rfl rfl ?_
    refine oGeq rfl rfl ?_
    refine oPickF rfl rfl ?_
    refine oNil ?_
    refine thn_n ?_
    first | refine wCond rfl (fun h18 => ?_) (fun h18 => ?_) | refine wCondB rfl (fun h18 => ?_) (fun h18 => ?_)
    ·
      refine wSeq ?_
      refine wRegion' ?_
      refine oAssign rfl ?_
      refine oAssign rfl ?_
      refine oNil ?_
      refine thn_n ?_
      refine wRet ?_
      refine thn_r ?_
      refine fin_r ?_
      refine ⟨rfl, _, (ResL.cons (ResR.tmp rfl) (ResL.cons (ResR.tmp rfl) ResL.nil)), ?_⟩
      exact ⟨(), trivial, by unfold clsF; rw [if_pos (.inr h18)]; rfl, (Leads.has (by repeat' (first | exact Has.nil | exact Pick.here | apply Has.cons | apply Pick.there)))⟩
    ·
      have hir : ¬ (i < 0 ∨ (f.fCode.length : Int) ≤ i) := by omega
      obtain ⟨n, rfl⟩ := Int.eq_ofNat_of_zero_le (show 0 ≤ i by omega)
      have hnl : n < f.fCode.length := by omega
      obtain ⟨x, hx⟩ : ∃ x, f.fCode[n]? = some x := ⟨_, List.getElem?_eq_getElem hnl⟩
      have hca : codeAt f (n : Int) = x := by unfold codeAt; rw [Int.toNat_natCast, List.getD_eq_getElem?_getD, hx]; rfl
      obtain ⟨e0, cs0, hE0⟩ := g2.elm hx
      obtain rfl := kApiInstr_open hE0.K
      refine wSkip ?_
      refine thn_n ?_
      refine wSeq ?_
      refine wRegion' ?_
      refine oFld (n := 7) (m := 7) rfl rfl rfl ?_
      refine oLd rfl (by repeat (first | exact Pick.here | apply Pick.there)) rfl rfl ?_
      refine oMove rfl ?_
      refine oIdxE rfl rfl (hE0) (by omega) rfl rfl ?_
      have hc22 := (hE0).cell
      first | refine oFldX (n := 3) (m := 3) rfl rfl rfl ?_ | refine oFldR (n := 3) (m := 3) rfl rfl rfl ?_ | refine oFldD (n := 3) (m := 3) rfl rfl rfl ?_
      first | refine oLdX rfl hc22 rfl rfl ?_ | refine oLdXA rfl hc22 rfl (by repeat (first | exact SubL.done | apply SubL.take | apply SubL.drop)) ?_ | (refine oLdR1 rfl (by repeat (first | exact Pick.here | apply Pick.there)) (by omega) rfl (fun u24 hu24 => ?_))
      refine oAssign rfl ?_
      refine oNil ?_
      refine thn_n ?_
      refine wSeq ?_
      refine wSeq ?_
      refine wRegion' ?_
      refine oFld (n := 7) (m := 7) rfl rfl rfl ?_
      refine oLd rfl (by repeat (first | exact Pick.here | apply Pick.there)) rfl rfl ?_
      refine oMove rfl ?_
      refine oIdxE rfl rfl (hE0) (by omega) rfl rfl ?_
      have hc28 := (hE0).cell
      first | refine oFldX (n := 0) (m := 0) rfl rfl rfl ?_ | refine oFldR (n := 0) (m := 0) rfl rfl rfl ?_ | refine oFldD (n := 0) (m := 0) rfl rfl rfl ?_
      first | refine oLdX rfl hc28 rfl rfl ?_ | refine oLdXA rfl hc28 rfl (by repeat (first | exact SubL.done | apply SubL.take | apply SubL.drop)) ?_ | (refine oLdR1 rfl (by repeat (first | exact Pick.here | apply Pick.there)) (by omega) rfl (fun u30 hu30 => ?_))
      refine oNil ?_
      refine thn_n ?_
      refine wBlock ?_
      refine wSeq ?_
      refine wSeq ?_
      refine wRegion' ?_
      refine oEql rfl rfl ?_
      refine oAssign rfl ?_
      refine oNil ?_
      refine thn_n ?_
      first | refine wCond rfl (fun h31 => ?_) (fun h31 => ?_) | refine wCondB rfl (fun h31 => ?_) (fun h31 => ?_)
      ·
        refine wSkip ?_
        refine thn_n ?_
        first | refine wCondT rfl ?_ | refine wCondTd h31 rfl ?_ | refine wCondTb h31 rfl ?_
        refine wSeq ?_
        refine wRegion' ?_
        refine oLdA rfl (by repeat (first | exact Pick.here | apply Pick.there)) rfl (by repeat (first | exact SubL.done | apply SubL.take | apply SubL.drop)) ?_
        refine oMove rfl ?_
        (refine oCall rfl (by kernel_rfl) (fun w hS => frame hS (by repeat' (first | exact Split.nil | exact Pick.here | apply Split.cons | apply Pick.there)) (fun B' hB hS' => verify_Sym hS' f _ (kApiFunc.K_grow hB hf) (n : Int))) ?_; rintro ⟨⟩ -)
        refine oAssign rfl ?_
        refine oNil ?_
        refine thn_n ?_
        refine wSeq ?_
        refine wSeq ?_
        refine wRegion' ?_
        refine oMove rfl ?_
        refine oLss rfl rfl ?_
        refine oMove rfl ?_
        first | refine oSplit (t := 39) rfl (fun h39 => ?_) (fun h39 => ?_) | refine oSplitB (t := 39) rfl (fun h39 => ?_) (fun h39 => ?_)
        ·
          refine oSkip rfl rfl rfl rfl ?_
          refine oSkip rfl rfl rfl rfl ?_
          refine oSkip rfl rfl rfl rfl ?_
          refine oSkip rfl rfl rfl rfl ?_
          refine oPickT rfl rfl ?_
          refine oMove rfl ?_
          refine oSkip rfl rfl rfl rfl ?_
          refine oSkip rfl rfl rfl rfl ?_
          refine oSkip rfl rfl rfl rfl ?_
          refine oSkip rfl rfl rfl rfl ?_
          refine oSkip rfl rfl rfl rfl ?_
          refine oSkip rfl rfl rfl rfl ?_
          refine oPickT rfl rfl ?_
          refine oNil ?_
          refine thn_n ?_
          first | refine wCondT rfl ?_ | refine wCondTd h52 rfl ?_ | refine wCondTb h52 rfl ?_
          refine wSeq ?_
          refine wRegion' ?_
          refine oAssign rfl ?_
          refine oAssign rfl ?_
          refine oNil ?_
          refine thn_n ?_
          refine wRet ?_
          refine thn_r ?_
          refine blk_r ?_
          refine thn_r ?_
          refine fin_r ?_
          refine ⟨rfl, _, (ResL.cons (ResR.tmp rfl) (ResL.cons (ResR.tmp rfl) ResL.nil)), ?_⟩
          exact ⟨(), trivial, by unfold clsF; rw [if_neg hir, hca, if_pos (by omega), if_pos (.inl h39)]; rfl, (Leads.has (by repeat' (first | exact Has.nil | exact Pick.here | apply Has.cons | apply Pick.there)))⟩
        ·
          refine oWant rfl rfl ?_
          refine oMove rfl ?_
          refine oWant rfl rfl ?_
          refine oMove rfl ?_
          refine oWant rfl rfl ?_
          refine oLenS rfl rfl ?_
          refine oWant rfl rfl ?_
          refine oGeq rfl rfl ?_
          refine oPickF rfl rfl ?_
          refine oMove rfl ?_
          first | refine oSplit (t := 45) rfl (fun h45 => ?_) (fun h45 => ?_) | refine oSplitB (t := 45) rfl (fun h45 => ?_) (fun h45 => ?_)
          ·
            refine oSkip rfl rfl rfl rfl ?_
            refine oSkip rfl rfl rfl rfl ?_
            refine oSkip rfl rfl rfl rfl ?_
            refine oSkip rfl rfl rfl rfl ?_
            refine oSkip rfl rfl rfl rfl ?_
            refine oSkip rfl rfl rfl rfl ?_
            refine oPickT rfl rfl ?_
            refine oNil ?_
            refine thn_n ?_
            first | refine wCondT rfl ?_ | refine wCondTd h52 rfl ?_ | refine wCondTb h52 rfl ?_
            refine wSeq ?_
            refine wRegion' ?_
            refine oAssign rfl ?_
            refine oAssign rfl ?_
            refine oNil ?_
            refine thn_n ?_
            refine wRet ?_
            refine thn_r ?_
            refine blk_r ?_
            refine thn_r ?_
            refine fin_r ?_
            refine ⟨rfl, _, (ResL.cons (ResR.tmp rfl) (ResL.cons (ResR.tmp rfl) ResL.nil)), ?_⟩
            exact ⟨(), trivial, by unfold clsF; rw [if_neg hir, hca, if_pos (by omega), if_pos (.inr (.inl (by omega)))]; rfl, (Leads.has (by repeat' (first | exact Has.nil | exact Pick.here | apply Has.cons | apply Pick.there)))⟩
          ·
            obtain ⟨m, hm⟩ := Int.eq_ofNat_of_zero_le (show 0 ≤ symF f (n : Int) by omega)
            obtain ⟨s, hs⟩ : ∃ s, l[m]? = some s := ⟨_, List.getElem?_eq_getElem (by omega)⟩
            have hml := (List.getElem?_eq_some_iff.1 hs).1
            have hsa : symAtF f l (n : Int) = s := by unfold symAtF; rw [hm, Int.toNat_natCast, List.getD_eq_getElem?_getD, hs]; rfl
            obtain ⟨e2, cs2, hE2⟩ := hl.elm hs
            obtain rfl := kApiSymbol_open hE2.K
            rw [hm]
            refine oWant rfl rfl ?_
            refine oMove rfl ?_
            refine oWant rfl rfl ?_
            refine oMove rfl ?_
            refine oWant rfl rfl ?_
            refine oIdxE rfl rfl (hE2) (by omega) rfl rfl ?_
            have hc48 := (hE2).cell
            refine oWant rfl rfl ?_
            first | refine oFldX (n := 2) (m := 2) rfl rfl rfl ?_ | refine oFldR (n := 2) (m := 2) rfl rfl rfl ?_ | refine oFldD (n := 2) (m := 2) rfl rfl rfl ?_
            refine oWant rfl rfl ?_
            first | refine oLdX rfl hc48 rfl rfl ?_ | refine oLdXA rfl hc48 rfl (by repeat (first | exact SubL.done | apply SubL.take | apply SubL.drop)) ?_ | (refine oLdR1 rfl (by repeat (first | exact Pick.here | apply Pick.there)) (by omega) rfl (fun u50 hu50 => ?_))
            refine oWant rfl rfl ?_
            refine oNeq rfl rfl ?_
            refine oPickF rfl rfl ?_
            refine oNil ?_
            refine thn_n ?_
            first | refine wCond rfl (fun h52 => ?_) (fun h52 => ?_) | refine wCondB rfl (fun h52 => ?_) (fun h52 => ?_)
            ·
              refine wSeq ?_
              refine wRegion' ?_
              refine oAssign rfl ?_
              refine oAssign rfl ?_
              refine oNil ?_
              refine thn_n ?_
              refine wRet ?_
              refine thn_r ?_
              refine blk_r ?_
              refine thn_r ?_
              refine fin_r ?_
              refine ⟨rfl, _, (ResL.cons (ResR.tmp rfl) (ResL.cons (ResR.tmp rfl) ResL.nil)), ?_⟩
              exact ⟨(), trivial, by unfold clsF; rw [if_neg hir, hca, if_pos (by omega), hsa, if_pos (.inr (.inr h52))]; rfl, (Leads.has (by repeat' (first | exact Has.nil | exact Pick.here | apply Has.cons | apply Pick.there)))⟩
            ·
              refine wSkip ?_
              refine thn_n ?_
              refine wRegion' ?_
              refine oMove rfl ?_
              refine oMove rfl ?_
              refine oIdxE rfl rfl (hE2) (by omega) rfl rfl ?_
              have hc55 := (hE2).cell
              first | refine oFldX (n := 3) (m := 3) rfl rfl rfl ?_ | refine oFldR (n := 3) (m := 3) rfl rfl rfl ?_ | refine oFldD (n := 3) (m := 3) rfl rfl rfl ?_
              first | refine oLdX rfl hc55 rfl rfl ?_ | refine oLdXA rfl hc55 rfl (by repeat (first | exact SubL.done | apply SubL.take | apply SubL.drop)) ?_ | (refine oLdR1 rfl (by repeat (first | exact Pick.here | apply Pick.there)) (by omega) rfl (fun u57 hu57 => ?_))
              refine oAssign rfl ?_
              refine oNil ?_
              refine blk_n ?_
              refine thn_n ?_
              refine wSeq ?_
              refine wSeq ?_
              refine wRegion' ?_
              refine oMove rfl ?_
              (refine oCall rfl (by kernel_rfl) (fun w hS => frame hS (by repeat' (first | exact Split.nil | exact Pick.here | apply Split.cons | apply Pick.there)) (fun B' hB hS' => sig_Is hS' s.fKind)) ?_; rintro ⟨⟩ -)
              first | refine oNot rfl ?_ | refine oNotB rfl ?_
              refine oNil ?_
              refine thn_n ?_
              first | refine wCond rfl (fun h62 => ?_) (fun h62 => ?_) | refine wCondB rfl (fun h62 => ?_) (fun h62 => ?_)
              ·
                refine wSeq ?_
                refine wRegion' ?_
                refine oAssign rfl ?_
                refine oAssign rfl ?_
                refine oNil ?_
                refine thn_n ?_
                refine wRet ?_
                refine thn_r ?_
                refine fin_r ?_
                refine ⟨rfl, _, (ResL.cons (ResR.tmp rfl) (ResL.cons (ResR.tmp rfl) ResL.nil)), ?_⟩
                exact ⟨(), trivial, by unfold clsF finC; rw [if_neg hir, hca, if_pos (by omega), hsa, hm, if_neg (by omega), if_neg (by simpa using h62)]; rfl, (Leads.has (by repeat' (first | exact Has.nil | exact Pick.here | apply Has.cons | apply Pick.there)))⟩
              ·
                refine wSkip ?_
                refine thn_n ?_
                refine wSeq ?_
                refine wRegion' ?_
                refine oMove rfl ?_
                refine oAssign rfl ?_
                refine oAssign rfl ?_
                refine oNil ?_
                refine thn_n ?_
                refine wRet ?_
                refine fin_r ?_
                refine ⟨rfl, _, (ResL.cons (ResR.tmp rfl) (ResL.cons (ResR.tmp rfl) ResL.nil)), ?_⟩
                exact ⟨(), trivial, by unfold clsF finC; rw [if_neg hir, hca, if_pos (by omega), hsa, hm, if_neg (by omega), if_pos (by simpa using h62)]; rfl, (Leads.has (by repeat' (first | exact Has.nil | exact Pick.here | apply Has.cons | apply Pick.there)))⟩
      ·
        refine wRegion' ?_
        refine oEql rfl rfl ?_
        refine oAssign rfl ?_
        refine oNil ?_
        refine thn_n ?_
        first | refine wCond rfl (fun h31 => ?_) (fun h31 => ?_) | refine wCondB rfl (fun h31 => ?_) (fun h31 => ?_)
        ·
          refine wSeq ?_
          refine wRegion' ?_
          refine oLdA rfl (by repeat (first | exact Pick.here | apply Pick.there)) rfl (by repeat (first | exact SubL.done | apply SubL.take | apply SubL.drop)) ?_
          refine oMove rfl ?_
          (refine oCall rfl (by kernel_rfl) (fun w hS => frame hS (by repeat' (first | exact Split.nil | exact Pick.here | apply Split.cons | apply Pick.there)) (fun B' hB hS' => verify_Sym hS' f _ (kApiFunc.K_grow hB hf) (n : Int))) ?_; rintro ⟨⟩ -)
          refine oAssign rfl ?_
          refine oNil ?_
          refine thn_n ?_
          refine wSeq ?_
          refine wSeq ?_
          refine wRegion' ?_
          refine oMove rfl ?_
          refine oLss rfl rfl ?_
          refine oMove rfl ?_
          first | refine oSplit (t := 39) rfl (fun h39 => ?_) (fun h39 => ?_) | refine oSplitB (t := 39) rfl (fun h39 => ?_) (fun h39 => ?_)
          ·
            refine oSkip rfl rfl rfl rfl ?_
            refine oSkip rfl rfl rfl rfl ?_
            refine oSkip rfl rfl rfl rfl ?_
            refine oSkip rfl rfl rfl rfl ?_
            refine oPickT rfl rfl ?_
            refine oMove rfl ?_
            refine oSkip rfl rfl rfl rfl ?_
            refine oSkip rfl rfl rfl rfl ?_
            refine oSkip rfl rfl rfl rfl ?_
            refine oSkip rfl rfl rfl rfl ?_
            refine oSkip rfl rfl rfl rfl ?_
            refine oSkip rfl rfl rfl rfl ?_
            refine oPickT rfl rfl ?_
            refine oNil ?_
            refine thn_n ?_
            first | refine wCondT rfl ?_ | refine wCondTd h52 rfl ?_ | refine wCondTb h52 rfl ?_
            refine wSeq ?_
            refine wRegion' ?_
            refine oAssign rfl ?_
            refine oAssign rfl ?_
            refine oNil ?_
            refine thn_n ?_
            refine wRet ?_
            refine thn_r ?_
            refine blk_r ?_
            refine thn_r ?_
            refine fin_r ?_
            refine ⟨rfl, _, (ResL.cons (ResR.tmp rfl) (ResL.cons (ResR.tmp rfl) ResL.nil)), ?_⟩
            exact ⟨(), trivial, by unfold clsF; rw [if_neg hir, hca, if_pos (by omega), if_pos (.inl h39)]; rfl, (Leads.has (by repeat' (first | exact Has.nil | exact Pick.here | apply Has.cons | apply Pick.there)))⟩
          ·
            refine oWant rfl rfl ?_
            refine oMove rfl ?_
            refine oWant rfl rfl ?_
            refine oMove rfl ?_
            refine oWant rfl rfl ?_
            refine oLenS rfl rfl ?_
            refine oWant rfl rfl ?_
            refine oGeq rfl rfl ?_
            refine oPickF rfl rfl ?_
            refine oMove rfl ?_
            first | refine oSplit (t := 45) rfl (fun h45 => ?_) (fun h45 => ?_) | refine oSplitB (t := 45) rfl (fun h45 => ?_) (fun h45 => ?_)
            ·
              refine oSkip rfl rfl rfl rfl ?_
              refine oSkip rfl rfl rfl rfl ?_
              refine oSkip rfl rfl rfl rfl ?_
              refine oSkip rfl rfl rfl rfl ?_
              refine oSkip rfl rfl rfl rfl ?_
              refine oSkip rfl rfl rfl rfl ?_
              refine oPickT rfl rfl ?_
              refine oNil ?_
              refine thn_n ?_
              first | refine wCondT rfl ?_ | refine wCondTd h52 rfl ?_ | refine wCondTb h52 rfl ?_
              refine wSeq ?_
              refine wRegion' ?_
              refine oAssign rfl ?_
              refine oAssign rfl ?_
              refine oNil ?_
              refine thn_n ?_
              refine wRet ?_
              refine thn_r ?_
              refine blk_r ?_
              refine thn_r ?_
              refine fin_r ?_
              refine ⟨rfl, _, (ResL.cons (ResR.tmp rfl) (ResL.cons (ResR.tmp rfl) ResL.nil)), ?_⟩
              exact ⟨(), trivial, by unfold clsF; rw [if_neg hir, hca, if_pos (by omega), if_pos (.inr (.inl (by omega)))]; rfl, (Leads.has (by repeat' (first | exact Has.nil | exact Pick.here | apply Has.cons | apply Pick.there)))⟩
            ·
              obtain ⟨m, hm⟩ := Int.eq_ofNat_of_zero_le (show 0 ≤ symF f (n : Int) by omega)
              obtain ⟨s, hs⟩ : ∃ s, l[m]? = some s := ⟨_, List.getElem?_eq_getElem (by omega)⟩
              have hml := (List.getElem?_eq_some_iff.1 hs).1
              have hsa : symAtF f l (n : Int) = s := by unfold symAtF; rw [hm, Int.toNat_natCast, List.getD_eq_getElem?_getD, hs]; rfl
              obtain ⟨e2, cs2, hE2⟩ := hl.elm hs
              obtain rfl := kApiSymbol_open hE2.K
              rw [hm]
              refine oWant rfl rfl ?_
              refine oMove rfl ?_
              refine oWant rfl rfl ?_
              refine oMove rfl ?_
              refine oWant rfl rfl ?_
              refine oIdxE rfl rfl (hE2) (by omega) rfl rfl ?_
              have hc48 := (hE2).cell
              refine oWant rfl rfl ?_
              first | refine oFldX (n := 2) (m := 2) rfl rfl rfl ?_ | refine oFldR (n := 2) (m := 2) rfl rfl rfl ?_ | refine oFldD (n := 2) (m := 2) rfl rfl rfl ?_
              refine oWant rfl rfl ?_
              first | refine oLdX rfl hc48 rfl rfl ?_ | refine oLdXA rfl hc48 rfl (by repeat (first | exact SubL.done | apply SubL.take | apply SubL.drop)) ?_ | (refine oLdR1 rfl (by repeat (first | exact Pick.here | apply Pick.there)) (by omega) rfl (fun u50 hu50 => ?_))
              refine oWant rfl rfl ?_
              refine oNeq rfl rfl ?_
              refine oPickF rfl rfl ?_
              refine oNil ?_
              refine thn_n ?_
              first | refine wCond rfl (fun h52 => ?_) (fun h52 => ?_) | refine wCondB rfl (fun h52 => ?_) (fun h52 => ?_)
              ·
                refine wSeq ?_
                refine wRegion' ?_
                refine oAssign rfl ?_
                refine oAssign rfl ?_
                refine oNil ?_
                refine thn_n ?_
                refine wRet ?_
                refine thn_r ?_
                refine blk_r ?_
                refine thn_r ?_
                refine fin_r ?_
                refine ⟨rfl, _, (ResL.cons (ResR.tmp rfl) (ResL.cons (ResR.tmp rfl) ResL.nil)), ?_⟩
                exact ⟨(), trivial, by unfold clsF; rw [if_neg hir, hca, if_pos (by omega), hsa, if_pos (.inr (.inr h52))]; rfl, (Leads.has (by repeat' (first | exact Has.nil | exact Pick.here | apply Has.cons | apply Pick.there)))⟩
              ·
                refine wSkip ?_
                refine thn_n ?_
                refine wRegion' ?_
                refine oMove rfl ?_
                refine oMove rfl ?_
                refine oIdxE rfl rfl (hE2) (by omega) rfl rfl ?_
                have hc55 := (hE2).cell
                first | refine oFldX (n := 3) (m := 3) rfl rfl rfl ?_ | refine oFldR (n := 3) (m := 3) rfl rfl rfl ?_ | refine oFldD (n := 3) (m := 3) rfl rfl rfl ?_
                first | refine oLdX rfl hc55 rfl rfl ?_ | refine oLdXA rfl hc55 rfl (by repeat (first | exact SubL.done | apply SubL.take | apply SubL.drop)) ?_ | (refine oLdR1 rfl (by repeat (first | exact Pick.here | apply Pick.there)) (by omega) rfl (fun u57 hu57 => ?_))
                refine oAssign rfl ?_
                refine oNil ?_
                refine blk_n ?_
                refine thn_n ?_
                refine wSeq ?_
                refine wSeq ?_
                refine wRegion' ?_
                refine oMove rfl ?_
                (refine oCall rfl (by kernel_rfl) (fun w hS => frame hS (by repeat' (first | exact Split.nil | exact Pick.here | apply Split.cons | apply Pick.there)) (fun B' hB hS' => sig_Is hS' s.fKind)) ?_; rintro ⟨⟩ -)
                first | refine oNot rfl ?_ | refine oNotB rfl ?_
                refine oNil ?_
                refine thn_n ?_
                first | refine wCond rfl (fun h62 => ?_) (fun h62 => ?_) | refine wCondB rfl (fun h62 => ?_) (fun h62 => ?_)
                ·
                  refine wSeq ?_
                  refine wRegion' ?_
                  refine oAssign rfl ?_
                  refine oAssign rfl ?_
                  refine oNil ?_
                  refine thn_n ?_
                  refine wRet ?_
                  refine thn_r ?_
                  refine fin_r ?_
                  refine ⟨rfl, _, (ResL.cons (ResR.tmp rfl) (ResL.cons (ResR.tmp rfl) ResL.nil)), ?_⟩
                  exact ⟨(), trivial, by unfold clsF finC; rw [if_neg hir, hca, if_pos (by omega), hsa, hm, if_neg (by omega), if_neg (by simpa using h62)]; rfl, (Leads.has (by repeat' (first | exact Has.nil | exact Pick.here | apply Has.cons | apply Pick.there)))⟩
                ·
                  refine wSkip ?_
                  refine thn_n ?_
                  refine wSeq ?_
                  refine wRegion' ?_
                  refine oMove rfl ?_
                  refine oAssign rfl ?_
                  refine oAssign rfl ?_
                  refine oNil ?_
                  refine thn_n ?_
                  refine wRet ?_
                  refine fin_r ?_
                  refine ⟨rfl, _, (ResL.cons (ResR.tmp rfl) (ResL.cons (ResR.tmp rfl) ResL.nil)), ?_⟩
                  exact ⟨(), trivial, by unfold clsF finC; rw [if_neg hir, hca, if_pos (by omega), hsa, hm, if_neg (by omega), if_pos (by simpa using h62)]; rfl, (Leads.has (by repeat' (first | exact Has.nil | exact Pick.here | apply Has.cons | apply Pick.there)))⟩
        ·
          refine wSeq ?_
          refine wRegion' ?_
          refine oEql rfl rfl ?_
          refine oAssign rfl ?_
          refine oNil ?_
          refine thn_n ?_
          first | refine wCond rfl (fun h58 => ?_) (fun h58 => ?_) | refine wCondB rfl (fun h58 => ?_) (fun h58 => ?_)
          ·
            refine wSkip ?_
            refine blk_n ?_
            refine thn_n ?_
            refine wSeq ?_
            refine wSeq ?_
            refine wRegion' ?_
            refine oMove rfl ?_
            (refine oCall rfl (by kernel_rfl) (fun w hS => frame hS (by repeat' (first | exact Split.nil | exact Pick.here | apply Split.cons | apply Pick.there)) (fun B' hB hS' => sig_Is hS' x.fC)) ?_; rintro ⟨⟩ -)
            first | refine oNot rfl ?_ | refine oNotB rfl ?_
            refine oNil ?_
            refine thn_n ?_
            first | refine wCond rfl (fun h62 => ?_) (fun h62 => ?_) | refine wCondB rfl (fun h62 => ?_) (fun h62 => ?_)
            ·
              refine wSeq ?_
              refine wRegion' ?_
              refine oAssign rfl ?_
              refine oAssign rfl ?_
              refine oNil ?_
              refine thn_n ?_
              refine wRet ?_
              refine thn_r ?_
              refine fin_r ?_
              refine ⟨rfl, _, (ResL.cons (ResR.tmp rfl) (ResL.cons (ResR.tmp rfl) ResL.nil)), ?_⟩
              exact ⟨(), trivial, by unfold clsF finC; rw [if_neg hir, hca, if_neg (by omega), if_pos h58, if_neg (by simpa using h62)]; rfl, (Leads.has (by repeat' (first | exact Has.nil | exact Pick.here | apply Has.cons | apply Pick.there)))⟩
            ·
              refine wSkip ?_
              refine thn_n ?_
              refine wSeq ?_
              refine wRegion' ?_
              refine oMove rfl ?_
              refine oAssign rfl ?_
              refine oAssign rfl ?_
              refine oNil ?_
              refine thn_n ?_
              refine wRet ?_
              refine fin_r ?_
              refine ⟨rfl, _, (ResL.cons (ResR.tmp rfl) (ResL.cons (ResR.tmp rfl) ResL.nil)), ?_⟩
              exact ⟨(), trivial, by unfold clsF finC; rw [if_neg hir, hca, if_neg (by omega), if_pos h58, if_pos (by simpa using h62)]; rfl, (Leads.has (by repeat' (first | exact Has.nil | exact Pick.here | apply Has.cons | apply Pick.there)))⟩
          ·
            refine wSeq ?_
            refine wRegion' ?_
            refine oAssign rfl ?_
            refine oAssign rfl ?_
            refine oNil ?_
            refine thn_n ?_
            refine wRet ?_
            refine blk_r ?_
            refine thn_r ?_
            refine fin_r ?_
            refine ⟨rfl, _, (ResL.cons (ResR.tmp rfl) (ResL.cons (ResR.tmp rfl) ResL.nil)), ?_⟩
            exact ⟨(), trivial, by unfold clsF; rw [if_neg hir, hca, if_neg (by omega), if_neg h58]; rfl, (Leads.has (by repeat' (first | exact Has.nil | exact Pick.here | apply Has.cons | apply Pick.there)))⟩
/-! ### the reference -/
set_option maxRecDepth 100000 in
theorem ref5_Is {B : Base} {w : World} (hS : St B [] w) (c : Int) :
    CallsIn Fence.wide 0 Tryz.prog 57 #[.int .i64 c] w (Ret B (fun _ : Unit => True) (fun _ => .bool (isC c)) (fun _ => [])) := by
  (refine enter Tryz.func57 rfl rfl hS ?_; simp only [List.zipIdx_cons, List.zipIdx_nil, List.map_cons, List.map_nil, Nat.reduceAdd, Nat.zero_add])
  refine wSeq ?_
  refine wRegion' ?_
  refine oAssign rfl ?_
  refine oNil ?_
  refine thn_n ?_
  refine wSeq ?_
  refine wRegion' ?_
  refine oMove rfl ?_
  refine oGeq rfl rfl ?_
  refine oMove rfl ?_
  first | refine oSplit (t := 5) rfl (fun h5 => ?_) (fun h5 => ?_) | refine oSplitB (t := 5) rfl (fun h5 => ?_) (fun h5 => ?_)
  ·
    refine oWant rfl rfl ?_
    refine oMove rfl ?_
    refine oWant rfl rfl ?_
    refine oLeq rfl rfl ?_
    refine oPickT rfl rfl ?_
    refine oAssign rfl ?_
    refine oNil ?_
    refine thn_n ?_
    refine wRet ?_
    refine fin_r ?_
    refine ⟨rfl, _, (ResL.cons (ResR.tmp rfl) ResL.nil), ?_⟩
    exact ⟨(), trivial, by simp_all [resVal, isC] <;> omega, (Leads.has (by repeat' (first | exact Has.nil | exact Pick.here | apply Has.cons | apply Pick.there)))⟩
  ·
    refine oSkip rfl rfl rfl rfl ?_
    refine oSkip rfl rfl rfl rfl ?_
    refine oPickF rfl rfl ?_
    refine oAssign rfl ?_
    refine oNil ?_
    refine thn_n ?_
    refine wRet ?_
    refine fin_r ?_
    refine ⟨rfl, _, (ResL.cons (ResR.tmp rfl) ResL.nil), ?_⟩
    exact ⟨(), trivial, by simp_all [resVal, isC] <;> omega, (Leads.has (by repeat' (first | exact Has.nil | exact Pick.here | apply Has.cons | apply Pick.there)))⟩
set_option maxRecDepth 100000 in
theorem ref17_Sym {B : Base} {w : World} (hS : St B [] w) (f : ApiFunc) (fc : List Value) (hf : kApiFunc.K B.e f fc) (i : Int) :
    CallsIn Fence.wide 0 Tryz.prog 69 #[.agg fc.toArray, .int .i64 i] w (Ret B (fun _ : Unit => True) (fun _ => .int .i64 (symF f i)) (fun _ => [])) := by
  obtain ⟨A0, c0, A1, c1, A2, c2, A3, c3, rfl, l0, g0, l1, g1, l2, g2, l3, g3⟩ := kApiFunc_open hf
  have hcl := g3.1
  (refine enter Tryz.func69 rfl rfl hS ?_; simp only [List.zipIdx_cons, List.zipIdx_nil, List.map_cons, List.map_nil, Nat.reduceAdd, Nat.zero_add])
  refine wSeq ?_
  refine wRegion' ?_
  refine oBox rfl (by first | exact CellsOf.agg | exact CellsOf.one rfl) (fun b2 => ?_)
  refine oAssign rfl ?_
  refine oNil ?_
  refine thn_n ?_
  refine wSeq ?_
  refine wSeq ?_
  refine wRegion' ?_
  refine oAssign rfl ?_
  refine oNil ?_
  refine thn_n ?_
  refine wBlock ?_
  refine wLoop (ι := Nat) (fun j => [(1, .int .i64 i), (2, .pointer (some ⟨b2, 0, none⟩)), (5, .int .i64 (j : Int))]) (fun j => [blk b2 49 [.int .i64 f.fClass, .slice A0 f.fKinds.length c0, .int .i64 f.fPad, .bool f.fNosplit, .int .i64 f.fFrom, .int .i64 f.fTo, .slice A1 f.fLines.length c1, .slice A2 f.fCode.length c2, .slice A3 f.fRelocs.length c3]]) (fun j => j ≤ f.fRelocs.length ∧ ∀ y ∈ f.fRelocs.take j, atR i y = false) (fun j => f.fRelocs.length - j) 0 ?_ (by repeat (first | exact trivial | refine And.intro rfl ?_)) (Leads.has (by repeat' (first | exact Has.nil | exact Pick.here | apply Has.cons | apply Pick.there))) ?_
  ·
    exact ⟨Nat.zero_le _, by simp⟩
  ·
    rintro j ⟨hj, hs⟩
    try dsimp only
    refine wSeq ?_
    refine wSeq ?_
    refine wRegion' ?_
    refine oMove rfl ?_
    refine oFld (n := 8) (m := 8) rfl rfl rfl ?_
    refine oLd rfl (by repeat (first | exact Pick.here | apply Pick.there)) rfl rfl ?_
    refine oLenS rfl rfl ?_
    refine oLss rfl rfl ?_
    refine oNil ?_
    refine thn_n ?_
    first | refine wCond rfl (fun h10 => ?_) (fun h10 => ?_) | refine wCondB rfl (fun h10 => ?_) (fun h10 => ?_)
    ·
      obtain ⟨x, hx⟩ : ∃ x, f.fRelocs[j]? = some x := ⟨_, List.getElem?_eq_getElem (by omega)⟩
      obtain ⟨e1, cs1, hE⟩ := g3.elm hx
      obtain rfl := kApiReloc_open hE.K
      refine wSkip ?_
      refine thn_n ?_
      refine wSeq ?_
      refine wBlock ?_
      refine wSeq ?_
      refine wRegion' ?_
      refine oFld (n := 8) (m := 8) rfl rfl rfl ?_
      refine oLd rfl (by repeat (first | exact Pick.here | apply Pick.there)) rfl rfl ?_
      refine oMove rfl ?_
      refine oIdxE rfl rfl (hE) (by omega) rfl rfl ?_
      have hc16 := (hE).cell
      first | refine oFldX (n := 0) (m := 0) rfl rfl rfl ?_ | refine oFldR (n := 0) (m := 0) rfl rfl rfl ?_ | refine oFldD (n := 0) (m := 0) rfl rfl rfl ?_
      first | refine oLdX rfl hc16 rfl rfl ?_ | refine oLdXA rfl hc16 rfl (by repeat (first | exact SubL.done | apply SubL.take | apply SubL.drop)) ?_ | (refine oLdR1 rfl (by repeat (first | exact Pick.here | apply Pick.there)) (by omega) rfl (fun u18 hu18 => ?_))
      refine oMove rfl ?_
      refine oEql rfl rfl ?_
      refine oNil ?_
      refine thn_n ?_
      first | refine wCond rfl (fun h20 => ?_) (fun h20 => ?_) | refine wCondB rfl (fun h20 => ?_) (fun h20 => ?_)
      ·
        refine wSeq ?_
        refine wRegion' ?_
        refine oFld (n := 8) (m := 8) rfl rfl rfl ?_
        refine oLd rfl (by repeat (first | exact Pick.here | apply Pick.there)) rfl rfl ?_
        refine oMove rfl ?_
        refine oIdxE rfl rfl (hE) (by omega) rfl rfl ?_
        have hc24 := (hE).cell
        first | refine oFldX (n := 1) (m := 1) rfl rfl rfl ?_ | refine oFldR (n := 1) (m := 1) rfl rfl rfl ?_ | refine oFldD (n := 1) (m := 1) rfl rfl rfl ?_
        first | refine oLdX rfl hc24 rfl rfl ?_ | refine oLdXA rfl hc24 rfl (by repeat (first | exact SubL.done | apply SubL.take | apply SubL.drop)) ?_ | (refine oLdR1 rfl (by repeat (first | exact Pick.here | apply Pick.there)) (by omega) rfl (fun u26 hu26 => ?_))
        refine oAssign rfl ?_
        refine oNil ?_
        refine thn_n ?_
        refine wRet ?_
        refine blk_r ?_
        refine thn_r ?_
        refine thn_r ?_
        refine blk_r ?_
        refine thn_r ?_
        refine fin_r ?_
        refine ⟨rfl, _, (ResL.cons (ResR.tmp rfl) ResL.nil), ?_⟩
        have hm : markF f i = (j : Int) := idxI_stop hs hx (decide_eq_true h20)
        have hsy : symF f i = x.fSym := by unfold symF; rw [hm, if_neg (by omega), Int.toNat_natCast, List.getD_eq_getElem?_getD, hx]; rfl
        exact ⟨(), trivial, by rw [hsy]; rfl, (Leads.has (by repeat' (first | exact Has.nil | exact Pick.here | apply Has.cons | apply Pick.there)))⟩
      ·
        refine wSkip ?_
        refine blk_n ?_
        refine thn_n ?_
        refine wRegion' ?_
        refine oMove rfl ?_
        refine oSucc rfl rfl (by omega) ?_
        refine oAssign rfl ?_
        refine oNil ?_
        refine thn_n ?_
        exact ⟨rfl, j + 1, ⟨by omega, take_not hs hx (decide_eq_false h20)⟩, by omega, (by repeat (first | exact trivial | refine And.intro rfl ?_)), (Leads.has (by repeat' (first | exact Has.nil | exact Pick.here | apply Has.cons | apply Pick.there)))⟩
    ·
      refine wExit ?_
      refine thn_x ?_
      refine thn_x ?_
      refine blk_x ?_
      refine thn_n ?_
      refine wSeq ?_
      refine wRegion' ?_
      refine oAssign rfl ?_
      refine oNil ?_
      refine thn_n ?_
      refine wRet ?_
      refine fin_r ?_
      refine ⟨rfl, _, (ResL.cons (ResR.tmp rfl) ResL.nil), ?_⟩
      obtain rfl : j = f.fRelocs.length := by omega
      rw [List.take_length] at hs
      have hm : markF f i = -1 := idxI_none hs
      exact ⟨(), trivial, by unfold symF; rw [hm, if_pos (by decide)]; rfl, (Leads.has (by repeat' (first | exact Has.nil | exact Pick.here | apply Has.cons | apply Pick.there)))⟩
end Go.Proofs.YtcacohoanlljhaaGreatV
