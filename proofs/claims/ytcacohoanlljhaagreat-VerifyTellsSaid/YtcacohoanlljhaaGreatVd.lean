import Derived.Test.YtcacohoanlljhaaGreatVc

/-
  Package fun: Check.
-/
namespace Go.Proofs.YtcacohoanlljhaaGreatV
set_option linter.unusedVariables false
set_option linter.unusedSimpArgs false
open Go.RowKit Go.Proofs.YtcacohoanlljhaaGreatK Go.Proofs.YtcacohoanlljhaaGreatT Go.Proofs.YtcacohoanlljhaaGreatL

def kindBad (par : Int) (i : Nat) (k : Int) : Bool := decide (textF k = ByteArray.empty) || (decide ((i : Int) < par) && decide (k ≠ 0))
def slotsF (f : ApiFunc) : Int := if isC f.fClass then (if 16 < f.fKinds.length then 6 else if (f.fKinds.length : Int) < parF f.fClass then 2 else if (List.range f.fKinds.length).any (fun i => kindBad (parF f.fClass) i (f.fKinds.getD i 0)) then 8 else 0) else 14
theorem getDat {α : Type} {l : List α} {i : Nat} {o d : α} (h : l[i]? = some o) : l.getD i d = o := by rw [List.getD_eq_getElem?_getD, h]; rfl
set_option maxRecDepth 100000 in
set_option maxHeartbeats 600000 in
theorem fun_slots {B : Base} {w : World} (hS : St B [] w) (f : ApiFunc) (fc : List Value) (hf : kApiFunc.K B.e f fc) :
    CallsIn Fence.wide 0 Tryz.prog 94 #[.agg fc.toArray] w (Ret B (fun _ : Unit => True) (fun _ => .int .i64 (slotsF f)) (fun _ => [])) := by
  obtain ⟨A0, c0, A1, c1, A2, c2, A3, c3, rfl, l0, g0, l1, g1, l2, g2, l3, g3⟩ := kApiFunc_open hf
  have hp := parF_in f.fClass
  (refine enter Tryz.func94 rfl rfl hS ?_; simp only [List.zipIdx_cons, List.zipIdx_nil, List.map_cons, List.map_nil, Nat.reduceAdd, Nat.zero_add])
  refine wSeq ?_
  refine wRegion' ?_
  refine oBox rfl (by first | exact CellsOf.agg | exact CellsOf.one rfl) (fun b1 => ?_)
  refine oAssign rfl ?_
  refine oNil ?_
  refine thn_n ?_
  refine wSeq ?_
  refine wRegion' ?_
  refine oFld (n := 0) (m := 0) rfl rfl rfl ?_
  refine oLd rfl (by repeat (first | exact Pick.here | apply Pick.there)) rfl rfl ?_
  (refine oCall rfl (by kernel_rfl) (fun w hS => frame hS (by repeat' (first | exact Split.nil | exact Pick.here | apply Split.cons | apply Pick.there)) (fun B' hB hS' => sig_Params hS' f.fClass)) ?_; rintro ⟨⟩ -)
  refine oAssign rfl ?_
  refine oNil ?_
  refine thn_n ?_
  refine wSeq ?_
  refine wBlock ?_
  refine wSeq ?_
  refine wRegion' ?_
  refine oFld (n := 0) (m := 0) rfl rfl rfl ?_
  refine oLd rfl (by repeat (first | exact Pick.here | apply Pick.there)) rfl rfl ?_
  (refine oCall rfl (by kernel_rfl) (fun w hS => frame hS (by repeat' (first | exact Split.nil | exact Pick.here | apply Split.cons | apply Pick.there)) (fun B' hB hS' => sig_Is hS' f.fClass)) ?_; rintro ⟨⟩ -)
  first | refine oNot rfl ?_ | refine oNotB rfl ?_
  refine oAssign rfl ?_
  refine oNil ?_
  refine thn_n ?_
  first | refine wCond rfl (fun h9 => ?_) (fun h9 => ?_) | refine wCondB rfl (fun h9 => ?_) (fun h9 => ?_)
  ·
    refine wSeq ?_
    refine wRegion' ?_
    refine oAssign rfl ?_
    refine oNil ?_
    refine thn_n ?_
    refine wRet ?_
    refine blk_r ?_
    refine thn_r ?_
    refine fin_r ?_
    refine ⟨rfl, _, (ResL.cons (ResR.tmp rfl) ResL.nil), ?_⟩
    exact ⟨(), trivial, by unfold slotsF; rw [if_neg (by simpa using h9)]; rfl, (Leads.has (by repeat' (first | exact Has.nil | exact Pick.here | apply Has.cons | apply Pick.there)))⟩
  ·
    have hc : isC f.fClass = true := by simpa using h9
    refine wSeq ?_
    refine wRegion' ?_
    refine oFld (n := 1) (m := 1) rfl rfl rfl ?_
    refine oLd rfl (by repeat (first | exact Pick.here | apply Pick.there)) rfl rfl ?_
    refine oLenS rfl rfl ?_
    refine oGtr rfl rfl ?_
    refine oAssign rfl ?_
    refine oNil ?_
    refine thn_n ?_
    first | refine wCond rfl (fun h14 => ?_) (fun h14 => ?_) | refine wCondB rfl (fun h14 => ?_) (fun h14 => ?_)
    ·
      refine wSeq ?_
      refine wRegion' ?_
      refine oAssign rfl ?_
      refine oNil ?_
      refine thn_n ?_
      refine wRet ?_
      refine blk_r ?_
      refine thn_r ?_
      refine fin_r ?_
      refine ⟨rfl, _, (ResL.cons (ResR.tmp rfl) ResL.nil), ?_⟩
      exact ⟨(), trivial, by unfold slotsF; rw [if_pos hc, if_pos (by omega)]; rfl, (Leads.has (by repeat' (first | exact Has.nil | exact Pick.here | apply Has.cons | apply Pick.there)))⟩
    ·
      refine wSeq ?_
      refine wRegion' ?_
      refine oFld (n := 1) (m := 1) rfl rfl rfl ?_
      refine oLd rfl (by repeat (first | exact Pick.here | apply Pick.there)) rfl rfl ?_
      refine oLenS rfl rfl ?_
      refine oMove rfl ?_
      refine oLss rfl rfl ?_
      refine oAssign rfl ?_
      refine oNil ?_
      refine thn_n ?_
      first | refine wCond rfl (fun h19 => ?_) (fun h19 => ?_) | refine wCondB rfl (fun h19 => ?_) (fun h19 => ?_)
      ·
        refine wSeq ?_
        refine wRegion' ?_
        refine oAssign rfl ?_
        refine oNil ?_
        refine thn_n ?_
        refine wRet ?_
        refine blk_r ?_
        refine thn_r ?_
        refine fin_r ?_
        refine ⟨rfl, _, (ResL.cons (ResR.tmp rfl) ResL.nil), ?_⟩
        exact ⟨(), trivial, by unfold slotsF; rw [if_pos hc, if_neg (by omega), if_pos (by omega)]; rfl, (Leads.has (by repeat' (first | exact Has.nil | exact Pick.here | apply Has.cons | apply Pick.there)))⟩
      ·
        have hk1 : ¬ 16 < f.fKinds.length := by omega
        have hk2 : ¬ (f.fKinds.length : Int) < parF f.fClass := by omega
        refine wSkip ?_
        refine blk_n ?_
        refine thn_n ?_
        refine wSeq ?_
        refine wSeq ?_
        refine wRegion' ?_
        refine oFld (n := 1) (m := 1) rfl rfl rfl ?_
        refine oLd rfl (by repeat (first | exact Pick.here | apply Pick.there)) rfl rfl ?_
        refine oLenS rfl rfl ?_
        refine oMove rfl ?_
        refine oNil ?_
        refine thn_n ?_
        refine wBlock ?_
        refine wLoop (ι := Nat) (fun i => [(3, .int .i64 (parF f.fClass)), (26, .slice A0 f.fKinds.length c0), (27, .int .i64 (f.fKinds.length : Int)), (28, .int .i64 (i : Int))]) (fun i => []) (fun i => i ≤ f.fKinds.length ∧ ∀ j, j < i → kindBad (parF f.fClass) j (f.fKinds.getD j 0) = false) (fun i => f.fKinds.length - i) 0 ?_ (by repeat (first | exact trivial | refine And.intro rfl ?_)) (Leads.has (by repeat' (first | exact Has.nil | exact Pick.here | apply Has.cons | apply Pick.there))) ?_
        ·
          exact ⟨Nat.zero_le _, fun j hj => by omega⟩
        ·
          rintro i ⟨hi, hs⟩
          try dsimp only
          refine wSeq ?_
          refine wRegion' ?_
          refine oLss rfl rfl ?_
          refine oNil ?_
          refine thn_n ?_
          refine wSeq ?_
          first | refine wCond rfl (fun h29 => ?_) (fun h29 => ?_) | refine wCondB rfl (fun h29 => ?_) (fun h29 => ?_)
          ·
            refine wSkip ?_
            refine thn_n ?_
            refine wSeq ?_
            refine wBlock ?_
            refine wSeq ?_
            refine wRegion' ?_
            refine oMove rfl ?_
            refine oIdx rfl rfl (g0) rfl (by omega) rfl rfl (fun e31 u31 cs31 hu31 hk31 hc31 => ?_)
            obtain rfl := hk31
            first | refine oLdX rfl hc31 rfl rfl ?_ | refine oLdXA rfl hc31 rfl (by repeat (first | exact SubL.done | apply SubL.take | apply SubL.drop)) ?_ | (refine oLdR1 rfl (by repeat (first | exact Pick.here | apply Pick.there)) (by omega) rfl (fun u32 hu32 => ?_))
            refine oAssign rfl ?_
            refine oAssign rfl ?_
            refine oNil ?_
            refine thn_n ?_
            refine wSeq ?_
            refine wRegion' ?_
            refine oMove rfl ?_
            (refine oCall rfl (by kernel_rfl) (fun w hS => frame hS (by repeat' (first | exact Split.nil | exact Pick.here | apply Split.cons | apply Pick.there)) (fun B' hB hS' => sig_Text hS' u31)) ?_; rintro ⟨⟩ -)
            refine oSEq rfl rfl ?_
            refine oMove rfl ?_
            first | refine oSplit (t := 36) rfl (fun h36 => ?_) (fun h36 => ?_) | refine oSplitB (t := 36) rfl (fun h36 => ?_) (fun h36 => ?_)
            ·
              have h36 : textF u31 = ByteArray.empty := h36
              refine oSkip rfl rfl rfl rfl ?_
              refine oSkip rfl rfl rfl rfl ?_
              refine oSkip rfl rfl rfl rfl ?_
              refine oSkip rfl rfl rfl rfl ?_
              refine oSkipU rfl rfl rfl ?_
              refine oSkipU rfl rfl rfl ?_
              refine oSkip rfl rfl rfl rfl ?_
              refine oPickT rfl rfl ?_
              refine oNil ?_
              refine thn_n ?_
              first | refine wCondT rfl ?_ | refine wCondTd h44 rfl ?_ | refine wCondTb h44 rfl ?_
              refine wSeq ?_
              refine wRegion' ?_
              refine oAssign rfl ?_
              refine oNil ?_
              refine thn_n ?_
              refine wRet ?_
              refine blk_r ?_
              refine thn_r ?_
              refine thn_r ?_
              refine blk_r ?_
              refine thn_r ?_
              refine fin_r ?_
              refine ⟨rfl, _, (ResL.cons (ResR.tmp rfl) ResL.nil), ?_⟩
              exact ⟨(), trivial, by unfold slotsF; rw [if_pos hc, if_neg hk1, if_neg hk2, if_pos (any_T (show i < f.fKinds.length by omega) (by rw [getDat hu31]; simp_all [kindBad]))]; rfl, (Leads.has (by repeat' (first | exact Has.nil | exact Pick.here | apply Has.cons | apply Pick.there)))⟩
            ·
              have h36 : ¬ textF u31 = ByteArray.empty := h36
              refine oWant rfl rfl ?_
              refine oMove rfl ?_
              refine oWant rfl rfl ?_
              refine oMove rfl ?_
              refine oWant rfl rfl ?_
              refine oLss rfl rfl ?_
              refine oWant rfl rfl ?_
              refine oMove rfl ?_
              first | refine oSplit (t := 40) rfl (fun h40 => ?_) (fun h40 => ?_) | refine oSplitB (t := 40) rfl (fun h40 => ?_) (fun h40 => ?_)
              ·
                refine oWant rfl rfl ?_
                refine oMove rfl ?_
                refine oWant rfl rfl ?_
                refine oNeq rfl rfl ?_
                refine oWant rfl rfl ?_
                refine oPickT rfl rfl ?_
                refine oPickF rfl rfl ?_
                refine oNil ?_
                refine thn_n ?_
                first | refine wCond rfl (fun h44 => ?_) (fun h44 => ?_) | refine wCondB rfl (fun h44 => ?_) (fun h44 => ?_)
                ·
                  refine wSeq ?_
                  refine wRegion' ?_
                  refine oAssign rfl ?_
                  refine oNil ?_
                  refine thn_n ?_
                  refine wRet ?_
                  refine blk_r ?_
                  refine thn_r ?_
                  refine thn_r ?_
                  refine blk_r ?_
                  refine thn_r ?_
                  refine fin_r ?_
                  refine ⟨rfl, _, (ResL.cons (ResR.tmp rfl) ResL.nil), ?_⟩
                  exact ⟨(), trivial, by unfold slotsF; rw [if_pos hc, if_neg hk1, if_neg hk2, if_pos (any_T (show i < f.fKinds.length by omega) (by rw [getDat hu31]; simp_all [kindBad]))]; rfl, (Leads.has (by repeat' (first | exact Has.nil | exact Pick.here | apply Has.cons | apply Pick.there)))⟩
                ·
                  refine wSkip ?_
                  refine blk_n ?_
                  refine thn_n ?_
                  refine wRegion' ?_
                  refine oSucc rfl rfl (by omega) ?_
                  refine oMove rfl ?_
                  refine oNil ?_
                  refine thn_n ?_
                  exact ⟨rfl, i + 1, ⟨by omega, fun j hj => by
                  by_cases e : j = i
                  · subst e; rw [getDat hu31]; simp_all [kindBad] <;> omega
                  · exact hs j (by omega)⟩, by omega, (by repeat (first | exact trivial | refine And.intro rfl ?_)), (Leads.has (by repeat' (first | exact Has.nil | exact Pick.here | apply Has.cons | apply Pick.there)))⟩
              ·
                refine oSkip rfl rfl rfl rfl ?_
                refine oSkip rfl rfl rfl rfl ?_
                refine oWant rfl rfl ?_
                refine oPickF rfl rfl ?_
                refine oPickF rfl rfl ?_
                refine oNil ?_
                refine thn_n ?_
                first | refine wCondF rfl ?_ | refine wCondFd h44 rfl ?_ | refine wCondFb h44 rfl ?_
                refine wSkip ?_
                refine blk_n ?_
                refine thn_n ?_
                refine wRegion' ?_
                refine oSucc rfl rfl (by omega) ?_
                refine oMove rfl ?_
                refine oNil ?_
                refine thn_n ?_
                exact ⟨rfl, i + 1, ⟨by omega, fun j hj => by
                by_cases e : j = i
                · subst e; rw [getDat hu31]; simp_all [kindBad] <;> omega
                · exact hs j (by omega)⟩, by omega, (by repeat (first | exact trivial | refine And.intro rfl ?_)), (Leads.has (by repeat' (first | exact Has.nil | exact Pick.here | apply Has.cons | apply Pick.there)))⟩
          ·
            refine wExit ?_
            refine thn_x ?_
            refine thn_x ?_
            refine blk_x ?_
            refine thn_n ?_
            refine wSeq ?_
            refine wRegion' ?_
            refine oAssign rfl ?_
            refine oNil ?_
            refine thn_n ?_
            refine wRet ?_
            refine fin_r ?_
            refine ⟨rfl, _, (ResL.cons (ResR.tmp rfl) ResL.nil), ?_⟩
            obtain rfl : i = f.fKinds.length := by omega
            exact ⟨(), trivial, by unfold slotsF; rw [if_pos hc, if_neg hk1, if_neg hk2, if_neg (by rw [any_F hs]; simp)]; rfl, (Leads.has (by repeat' (first | exact Has.nil | exact Pick.here | apply Has.cons | apply Pick.there)))⟩
def ceF (x : ApiInstr) : Int := if icF x ≠ 0 then icF x else if ownF x.fOp then 0 else 8
def codeF (f : ApiFunc) : Int := if flowF f.fCode ≠ 0 then flowF f.fCode else fstE (f.fCode.map ceF)
set_option maxRecDepth 100000 in
set_option maxHeartbeats 600000 in
theorem fun_code {B : Base} {w : World} (hS : St B [] w) (f : ApiFunc) (fc : List Value) (hf : kApiFunc.K B.e f fc) :
    CallsIn Fence.wide 0 Tryz.prog 95 #[.agg fc.toArray] w (Ret B (fun _ : Unit => True) (fun _ => .int .i64 (codeF f)) (fun _ => [])) := by
  obtain ⟨A0, c0, A1, c1, A2, c2, A3, c3, rfl, l0, g0, l1, g1, l2, g2, l3, g3⟩ := kApiFunc_open hf
  have hcl := g2.1
  (refine enter Tryz.func95 rfl rfl hS ?_; simp only [List.zipIdx_cons, List.zipIdx_nil, List.map_cons, List.map_nil, Nat.reduceAdd, Nat.zero_add])
  refine wSeq ?_
  refine wRegion' ?_
  refine oBox rfl (by first | exact CellsOf.agg | exact CellsOf.one rfl) (fun b1 => ?_)
  refine oAssign rfl ?_
  refine oNil ?_
  refine thn_n ?_
  refine wSeq ?_
  refine wSeq ?_
  refine wRegion' ?_
  refine oFld (n := 7) (m := 7) rfl rfl rfl ?_
  refine oLd rfl (by repeat (first | exact Pick.here | apply Pick.there)) rfl rfl ?_
  (refine oCall rfl (by kernel_rfl) (fun w hS => frame hS (by repeat' (first | exact Split.nil | exact Pick.here | apply Split.cons | apply Pick.there)) (fun B' hB hS' => flow_Check hS' A2 c2 f.fCode (Kd.C_grow hB g2))) ?_; rintro ⟨⟩ -)
  refine oAssign rfl ?_
  refine oNil ?_
  refine thn_n ?_
  refine wSeq ?_
  refine wRegion' ?_
  refine oMove rfl ?_
  refine oNeq rfl rfl ?_
  refine oNil ?_
  refine thn_n ?_
  first | refine wCond rfl (fun h11 => ?_) (fun h11 => ?_) | refine wCondB rfl (fun h11 => ?_) (fun h11 => ?_)
  ·
    refine wSeq ?_
    refine wRegion' ?_
    refine oMove rfl ?_
    refine oAssign rfl ?_
    refine oNil ?_
    refine thn_n ?_
    refine wRet ?_
    refine thn_r ?_
    refine fin_r ?_
    refine ⟨rfl, _, (ResL.cons (ResR.tmp rfl) ResL.nil), ?_⟩
    exact ⟨(), trivial, by unfold codeF; rw [if_pos h11]; rfl, (Leads.has (by repeat' (first | exact Has.nil | exact Pick.here | apply Has.cons | apply Pick.there)))⟩
  ·
    refine wSkip ?_
    refine thn_n ?_
    refine wSeq ?_
    refine wSeq ?_
    refine wRegion' ?_
    refine oFld (n := 7) (m := 7) rfl rfl rfl ?_
    refine oLd rfl (by repeat (first | exact Pick.here | apply Pick.there)) rfl rfl ?_
    refine oLenS rfl rfl ?_
    refine oMove rfl ?_
    refine oNil ?_
    refine thn_n ?_
    refine wBlock ?_
    refine wLoop (ι := Nat) (fun i => [(14, .slice A2 f.fCode.length c2), (15, .int .i64 (f.fCode.length : Int)), (16, .int .i64 (i : Int))]) (fun i => []) (fun i => i ≤ f.fCode.length ∧ fstE ((f.fCode.map ceF).take i) = 0) (fun i => f.fCode.length - i) 0 ?_ (by repeat (first | exact trivial | refine And.intro rfl ?_)) (Leads.has (by repeat' (first | exact Has.nil | exact Pick.here | apply Has.cons | apply Pick.there))) ?_
    ·
      exact ⟨Nat.zero_le _, rfl⟩
    ·
      rintro i ⟨hi, hs⟩
      try dsimp only
      refine wSeq ?_
      refine wRegion' ?_
      refine oLss rfl rfl ?_
      refine oNil ?_
      refine thn_n ?_
      refine wSeq ?_
      first | refine wCond rfl (fun h17 => ?_) (fun h17 => ?_) | refine wCondB rfl (fun h17 => ?_) (fun h17 => ?_)
      ·
        obtain ⟨x, hx⟩ : ∃ x, f.fCode[i]? = some x := ⟨_, List.getElem?_eq_getElem (by omega)⟩
        have hxe : (f.fCode.map ceF)[i]? = some (ceF x) := by rw [List.getElem?_map, hx]; rfl
        obtain ⟨e1, cs1, hE⟩ := g2.elm hx
        obtain rfl := kApiInstr_open hE.K
        refine wSkip ?_
        refine thn_n ?_
        refine wSeq ?_
        refine wBlock ?_
        refine wSeq ?_
        refine wRegion' ?_
        refine oIdxE rfl rfl (hE) (by omega) rfl rfl ?_
        have hc18 := (hE).cell
        first | refine oLdX rfl hc18 rfl rfl ?_ | refine oLdXA rfl hc18 rfl (by repeat (first | exact SubL.done | apply SubL.take | apply SubL.drop)) ?_ | (refine oLdR1 rfl (by repeat (first | exact Pick.here | apply Pick.there)) (by omega) rfl (fun u19 hu19 => ?_))
        refine oAlloc rfl (by first | exact CellsOf.agg | exact CellsOf.one rfl) (fun b5 => ?_)
        refine oStA rfl rfl rfl rfl (by repeat (first | exact Pick.here | apply Pick.there)) (by rfl) ?_
        refine oNil ?_
        refine thn_n ?_
        refine wSeq ?_
        refine wSeq ?_
        refine wRegion' ?_
        refine oLdA rfl (by repeat (first | exact Pick.here | apply Pick.there)) rfl (by repeat (first | exact SubL.done | apply SubL.take | apply SubL.drop)) ?_
        (refine oCall rfl (by kernel_rfl) (fun w hS => frame hS (by repeat' (first | exact Split.nil | exact Pick.here | apply Split.cons | apply Pick.there)) (fun B' hB hS' => instr_Check hS' x _ (kApiInstr_mk _ x))) ?_; rintro ⟨⟩ -)
        refine oAssign rfl ?_
        refine oNil ?_
        refine thn_n ?_
        refine wSeq ?_
        refine wRegion' ?_
        refine oMove rfl ?_
        refine oNeq rfl rfl ?_
        refine oNil ?_
        refine thn_n ?_
        first | refine wCond rfl (fun h23 => ?_) (fun h23 => ?_) | refine wCondB rfl (fun h23 => ?_) (fun h23 => ?_)
        ·
          refine wSeq ?_
          refine wRegion' ?_
          refine oMove rfl ?_
          refine oAssign rfl ?_
          refine oNil ?_
          refine thn_n ?_
          refine wRet ?_
          refine thn_r ?_
          refine blk_r ?_
          refine thn_r ?_
          refine thn_r ?_
          refine blk_r ?_
          refine thn_r ?_
          refine fin_r ?_
          refine ⟨rfl, _, (ResL.cons (ResR.tmp rfl) ResL.nil), ?_⟩
          exact ⟨(), trivial, by unfold codeF; rw [if_neg h11, fstE_stop hs hxe (by unfold ceF; rw [if_pos h23]; exact h23)]; unfold ceF; rw [if_pos h23]; rfl, (Leads.has (by repeat' (first | exact Has.nil | exact Pick.here | apply Has.cons | apply Pick.there)))⟩
        ·
          refine wSkip ?_
          refine thn_n ?_
          refine wSeq ?_
          refine wRegion' ?_
          refine oFld (n := 0) (m := 0) rfl rfl rfl ?_
          refine oLd rfl (by repeat (first | exact Pick.here | apply Pick.there)) rfl rfl ?_
          (refine oCall rfl (by kernel_rfl) (fun w hS => frame hS (by repeat' (first | exact Split.nil | exact Pick.here | apply Split.cons | apply Pick.there)) (fun B' hB hS' => op_Own hS' x.fOp)) ?_; rintro ⟨⟩ -)
          first | refine oNot rfl ?_ | refine oNotB rfl ?_
          refine oNil ?_
          refine thn_n ?_
          first | refine wCond rfl (fun h28 => ?_) (fun h28 => ?_) | refine wCondB rfl (fun h28 => ?_) (fun h28 => ?_)
          ·
            refine wSeq ?_
            refine wRegion' ?_
            refine oAssign rfl ?_
            refine oNil ?_
            refine thn_n ?_
            refine wRet ?_
            refine blk_r ?_
            refine thn_r ?_
            refine thn_r ?_
            refine blk_r ?_
            refine thn_r ?_
            refine fin_r ?_
            refine ⟨rfl, _, (ResL.cons (ResR.tmp rfl) ResL.nil), ?_⟩
            have hce : ceF x = 8 := by unfold ceF; rw [if_neg h23, if_neg (by simpa using h28)]
            exact ⟨(), trivial, by unfold codeF; rw [if_neg h11, fstE_stop hs hxe (by rw [hce]; decide), hce]; rfl, (Leads.has (by repeat' (first | exact Has.nil | exact Pick.here | apply Has.cons | apply Pick.there)))⟩
          ·
            refine wSkip ?_
            refine blk_n ?_
            refine thn_n ?_
            refine wRegion' ?_
            refine oSucc rfl rfl (by omega) ?_
            refine oMove rfl ?_
            refine oNil ?_
            refine thn_n ?_
            exact ⟨rfl, i + 1, ⟨by omega, fstE_next hs hxe (by unfold ceF; rw [if_neg h23, if_pos (by simpa using h28)])⟩, by omega, (by repeat (first | exact trivial | refine And.intro rfl ?_)), (Leads.has (by repeat' (first | exact Has.nil | exact Pick.here | apply Has.cons | apply Pick.there)))⟩
      ·
        refine wExit ?_
        refine thn_x ?_
        refine thn_x ?_
        refine blk_x ?_
        refine thn_n ?_
        refine wSeq ?_
        refine wRegion' ?_
        refine oAssign rfl ?_
        refine oNil ?_
        refine thn_n ?_
        refine wRet ?_
        refine fin_r ?_
        refine ⟨rfl, _, (ResL.cons (ResR.tmp rfl) ResL.nil), ?_⟩
        obtain rfl : i = f.fCode.length := by omega
        rw [← List.length_map (f := ceF), List.take_length] at hs
        exact ⟨(), trivial, by unfold codeF; rw [if_neg h11, hs]; rfl, (Leads.has (by repeat' (first | exact Has.nil | exact Pick.here | apply Has.cons | apply Pick.there)))⟩
def lineBad (x : ApiLine) : Bool := decide (x.fLine < 0 ∨ 65535 < x.fLine)
def linesF (f : ApiFunc) : Int := if 16 < f.fLines.length then 6 else if f.fLines.any lineBad then 9 else if (f.fLines.map (·.fAt)).getD 0 0 ≠ 0 ∨ risF f.fCode.length (-1) (f.fLines.map (·.fAt)) = false then 9 else 0
set_option maxRecDepth 100000 in
set_option maxHeartbeats 600000 in
theorem fun_lines {B : Base} {w : World} (hS : St B [] w) (f : ApiFunc) (fc : List Value) (hf : kApiFunc.K B.e f fc) :
    CallsIn Fence.wide 0 Tryz.prog 96 #[.agg fc.toArray] w (Ret B (fun _ : Unit => True) (fun _ => .int .i64 (linesF f)) (fun _ => [])) := by
  obtain ⟨A0, c0, A1, c1, A2, c2, A3, c3, rfl, l0, g0, l1, g1, l2, g2, l3, g3⟩ := kApiFunc_open hf
  have hcl := g2.1
  have hml : (f.fLines.map (·.fAt)).length = f.fLines.length := List.length_map _
  (refine enter Tryz.func96 rfl rfl hS ?_; simp only [List.zipIdx_cons, List.zipIdx_nil, List.map_cons, List.map_nil, Nat.reduceAdd, Nat.zero_add])
  refine wSeq ?_
  refine wRegion' ?_
  refine oBox rfl (by first | exact CellsOf.agg | exact CellsOf.one rfl) (fun b1 => ?_)
  refine oAssign rfl ?_
  refine oNil ?_
  refine thn_n ?_
  refine wSeq ?_
  refine wSeq ?_
  refine wRegion' ?_
  refine oFld (n := 6) (m := 6) rfl rfl rfl ?_
  refine oLd rfl (by repeat (first | exact Pick.here | apply Pick.there)) rfl rfl ?_
  refine oLenS rfl rfl ?_
  refine oGtr rfl rfl ?_
  refine oNil ?_
  refine thn_n ?_
  first | refine wCond rfl (fun h9 => ?_) (fun h9 => ?_) | refine wCondB rfl (fun h9 => ?_) (fun h9 => ?_)
  ·
    refine wSeq ?_
    refine wRegion' ?_
    refine oAssign rfl ?_
    refine oNil ?_
    refine thn_n ?_
    refine wRet ?_
    refine thn_r ?_
    refine fin_r ?_
    refine ⟨rfl, _, (ResL.cons (ResR.tmp rfl) ResL.nil), ?_⟩
    exact ⟨(), trivial, by unfold linesF; rw [if_pos (by omega)]; rfl, (Leads.has (by repeat' (first | exact Has.nil | exact Pick.here | apply Has.cons | apply Pick.there)))⟩
  ·
    have hk0 : ¬ 16 < f.fLines.length := by omega
    refine wSkip ?_
    refine thn_n ?_
    refine wSeq ?_
    refine wRegion' ?_
    refine oAssign rfl ?_
    refine oNil ?_
    refine thn_n ?_
    refine wSeq ?_
    refine wSeq ?_
    refine wRegion' ?_
    refine oFld (n := 6) (m := 6) rfl rfl rfl ?_
    refine oLd rfl (by repeat (first | exact Pick.here | apply Pick.there)) rfl rfl ?_
    refine oLenS rfl rfl ?_
    refine oMove rfl ?_
    refine oNil ?_
    refine thn_n ?_
    refine wBlock ?_
    refine wLoop (ι := Nat × Option Addr × Nat) (fun z => [(1, .pointer (some ⟨b1, 0, none⟩)), (3, .slice z.2.1 ((f.fLines.map (·.fAt)).take z.1).length z.2.2), (11, .slice A1 f.fLines.length c1), (12, .int .i64 (f.fLines.length : Int)), (13, .int .i64 (z.1 : Int))]) (fun z => [blk b1 49 [.int .i64 f.fClass, .slice A0 f.fKinds.length c0, .int .i64 f.fPad, .bool f.fNosplit, .int .i64 f.fFrom, .int .i64 f.fTo, .slice A1 f.fLines.length c1, .slice A2 f.fCode.length c2, .slice A3 f.fRelocs.length c3], row (Kd.int .i64) B.e 3 (.slice z.2.1 ((f.fLines.map (·.fAt)).take z.1).length z.2.2) ((f.fLines.map (·.fAt)).take z.1)]) (fun z => z.1 ≤ f.fLines.length ∧ ∀ y ∈ f.fLines.take z.1, lineBad y = false) (fun z => f.fLines.length - z.1) (0, none, 0) ?_ (by repeat (first | exact trivial | refine And.intro rfl ?_)) (Leads.nilrow.trans (Leads.has (by repeat' (first | exact Has.nil | exact Pick.here | apply Has.cons | apply Pick.there)))) ?_
    ·
      exact ⟨Nat.zero_le _, by simp⟩
    ·
      rintro ⟨i, A6, c6⟩ ⟨hi, hs⟩
      dsimp only at hi hs
      have hti : ((f.fLines.map (·.fAt)).take i).length = i := by rw [List.length_take]; omega
      try dsimp only
      refine wSeq ?_
      refine wRegion' ?_
      refine oLss rfl rfl ?_
      refine oNil ?_
      refine thn_n ?_
      refine wSeq ?_
      first | refine wCond rfl (fun h14 => ?_) (fun h14 => ?_) | refine wCondB rfl (fun h14 => ?_) (fun h14 => ?_)
      ·
        obtain ⟨x, hx⟩ : ∃ x, f.fLines[i]? = some x := ⟨_, List.getElem?_eq_getElem (by omega)⟩
        have htk := take_at' (l := f.fLines.map (·.fAt)) (a := i) (u := x.fAt) (by rw [List.getElem?_map, hx]; rfl)
        obtain ⟨e1, cs1, hE⟩ := g1.elm hx
        obtain rfl := kApiLine_open hE.K
        refine wSkip ?_
        refine thn_n ?_
        refine wSeq ?_
        refine wBlock ?_
        refine wSeq ?_
        refine wRegion' ?_
        refine oIdxE rfl rfl (hE) (by omega) rfl rfl ?_
        have hc15 := (hE).cell
        first | refine oLdX rfl hc15 rfl rfl ?_ | refine oLdXA rfl hc15 rfl (by repeat (first | exact SubL.done | apply SubL.take | apply SubL.drop)) ?_ | (refine oLdR1 rfl (by repeat (first | exact Pick.here | apply Pick.there)) (by omega) rfl (fun u16 hu16 => ?_))
        refine oAlloc rfl (by first | exact CellsOf.agg | exact CellsOf.one rfl) (fun b5 => ?_)
        refine oStA rfl rfl rfl rfl (by repeat (first | exact Pick.here | apply Pick.there)) (by rfl) ?_
        refine oNil ?_
        refine thn_n ?_
        refine wSeq ?_
        refine wSeq ?_
        refine wRegion' ?_
        refine oFld (n := 1) (m := 1) rfl rfl rfl ?_
        refine oLd rfl (by repeat (first | exact Pick.here | apply Pick.there)) rfl rfl ?_
        refine oLss rfl rfl ?_
        refine oMove rfl ?_
        first | refine oSplit (t := 20) rfl (fun h20 => ?_) (fun h20 => ?_) | refine oSplitB (t := 20) rfl (fun h20 => ?_) (fun h20 => ?_)
        ·
          refine oSkip rfl rfl rfl rfl ?_
          refine oSkip rfl rfl rfl rfl ?_
          refine oSkip rfl rfl rfl rfl ?_
          refine oPickT rfl rfl ?_
          refine oNil ?_
          refine thn_n ?_
          first | refine wCondT rfl ?_ | refine wCondTd h24 rfl ?_ | refine wCondTb h24 rfl ?_
          refine wSeq ?_
          refine wRegion' ?_
          refine oAssign rfl ?_
          refine oNil ?_
          refine thn_n ?_
          refine wRet ?_
          refine thn_r ?_
          refine blk_r ?_
          refine thn_r ?_
          refine thn_r ?_
          refine blk_r ?_
          refine thn_r ?_
          refine fin_r ?_
          refine ⟨rfl, _, (ResL.cons (ResR.tmp rfl) ResL.nil), ?_⟩
          exact ⟨(), trivial, by unfold linesF; rw [if_neg hk0, if_pos (List.any_eq_true.2 ⟨x, List.mem_of_getElem? hx, decide_eq_true (by omega)⟩)]; rfl, (Leads.has (by repeat' (first | exact Has.nil | exact Pick.here | apply Has.cons | apply Pick.there)))⟩
        ·
          refine oWant rfl rfl ?_
          refine oFld (n := 1) (m := 1) rfl rfl rfl ?_
          refine oWant rfl rfl ?_
          refine oLd rfl (by repeat (first | exact Pick.here | apply Pick.there)) rfl rfl ?_
          refine oWant rfl rfl ?_
          refine oGtr rfl rfl ?_
          refine oPickF rfl rfl ?_
          refine oNil ?_
          refine thn_n ?_
          first | refine wCond rfl (fun h24 => ?_) (fun h24 => ?_) | refine wCondB rfl (fun h24 => ?_) (fun h24 => ?_)
          ·
            refine wSeq ?_
            refine wRegion' ?_
            refine oAssign rfl ?_
            refine oNil ?_
            refine thn_n ?_
            refine wRet ?_
            refine thn_r ?_
            refine blk_r ?_
            refine thn_r ?_
            refine thn_r ?_
            refine blk_r ?_
            refine thn_r ?_
            refine fin_r ?_
            refine ⟨rfl, _, (ResL.cons (ResR.tmp rfl) ResL.nil), ?_⟩
            exact ⟨(), trivial, by unfold linesF; rw [if_neg hk0, if_pos (List.any_eq_true.2 ⟨x, List.mem_of_getElem? hx, decide_eq_true (by omega)⟩)]; rfl, (Leads.has (by repeat' (first | exact Has.nil | exact Pick.here | apply Has.cons | apply Pick.there)))⟩
          ·
            refine wSkip ?_
            refine thn_n ?_
            refine wRegion' ?_
            refine oMove rfl ?_
            refine oFld (n := 0) (m := 0) rfl rfl rfl ?_
            refine oLd rfl (by repeat (first | exact Pick.here | apply Pick.there)) rfl rfl ?_
            refine oBuildSlice1 rfl rfl rfl rfl rfl (by first | exact CellsOf.agg | exact CellsOf.one rfl) rfl (fun b28 => ?_)
            refine oApp1 x.fAt rfl rfl rfl rfl (by repeat (first | exact Pick.here | apply Pick.there)) (by repeat (first | exact Pick.here | apply Pick.there)) rfl (by omega) rfl (fun g29 cp29 => ?_)
            rw [show ((f.fLines.map (·.fAt)).take i).length + 1 = ((f.fLines.map (·.fAt)).take (i + 1)).length by rw [← htk, List.length_append]; rfl, htk]
            refine oAssign rfl ?_
            refine oNil ?_
            refine blk_n ?_
            refine thn_n ?_
            refine wRegion' ?_
            refine oSucc rfl rfl (by omega) ?_
            refine oMove rfl ?_
            refine oNil ?_
            refine thn_n ?_
            exact ⟨rfl, (i + 1, some ⟨g29, 0, none⟩, cp29), ⟨by show i + 1 ≤ _; omega, take_not hs hx (by unfold lineBad; exact decide_eq_false (by omega))⟩, by show f.fLines.length - (i + 1) < f.fLines.length - i; omega, (by repeat (first | exact trivial | refine And.intro rfl ?_)), (Leads.has (by repeat' (first | exact Has.nil | exact Pick.here | apply Has.cons | apply Pick.there)))⟩
      ·
        obtain rfl : i = f.fLines.length := by omega
        rw [List.take_length] at hs
        have hna : ¬ f.fLines.any lineBad = true := by intro k; obtain ⟨y, hy, hp⟩ := List.any_eq_true.1 k; rw [hs y hy] at hp; cases hp
        rw [← hml, List.take_length]
        generalize hP : f.fLines.map (·.fAt) = P at *
        refine wExit ?_
        refine thn_x ?_
        refine thn_x ?_
        refine blk_x ?_
        refine thn_n ?_
        refine wSeq ?_
        refine wSeq ?_
        refine wRegion' ?_
        refine oMove rfl ?_
        refine oLenS rfl rfl ?_
        refine oGtr rfl rfl ?_
        refine oMove rfl ?_
        first | refine oSplit (t := 34) rfl (fun h34 => ?_) (fun h34 => ?_) | refine oSplitB (t := 34) rfl (fun h34 => ?_) (fun h34 => ?_)
        ·
          refine oWant rfl rfl ?_
          refine oMove rfl ?_
          refine oWant rfl rfl ?_
          refine oIdxR (i := 0) rfl rfl (by repeat (first | exact Pick.here | apply Pick.there)) (by omega) rfl rfl (fun g36 hg36 => ?_)
          subst hg36
          refine oWant rfl rfl ?_
          refine oLdR1 (i := 0) rfl (by repeat (first | exact Pick.here | apply Pick.there)) (by omega) rfl (fun u37 hu37 => ?_)
          have h0v : P.getD 0 0 = u37 := getDat hu37
          refine oWant rfl rfl ?_
          refine oNeq rfl rfl ?_
          refine oPickT rfl rfl ?_
          refine oMove rfl ?_
          first | refine oSplit (t := 40) rfl (fun h40 => ?_) (fun h40 => ?_) | refine oSplitB (t := 40) rfl (fun h40 => ?_) (fun h40 => ?_)
          ·
            refine oSkip rfl rfl rfl rfl ?_
            refine oSkip rfl rfl rfl rfl ?_
            refine oSkip rfl rfl rfl rfl ?_
            refine oSkip rfl rfl rfl rfl ?_
            refine oSkip rfl rfl rfl rfl ?_
            refine oSkip rfl rfl rfl rfl ?_
            refine oPickT rfl rfl ?_
            refine oNil ?_
            refine thn_n ?_
            first | refine wCondT rfl ?_ | refine wCondTd h47 rfl ?_ | refine wCondTb h47 rfl ?_
            refine wSeq ?_
            refine wRegion' ?_
            refine oAssign rfl ?_
            refine oNil ?_
            refine thn_n ?_
            refine wRet ?_
            refine thn_r ?_
            refine fin_r ?_
            refine ⟨rfl, _, (ResL.cons (ResR.tmp rfl) ResL.nil), ?_⟩
            exact ⟨(), trivial, by unfold linesF; rw [if_neg hk0, if_neg hna, hP, if_pos (.inl (by rw [h0v]; exact h40))]; rfl, (Leads.has (by repeat' (first | exact Has.nil | exact Pick.here | apply Has.cons | apply Pick.there)))⟩
          ·
            refine oWant rfl rfl ?_
            refine oFld (n := 7) (m := 7) rfl rfl rfl ?_
            refine oWant rfl rfl ?_
            refine oLd rfl (by repeat (first | exact Pick.here | apply Pick.there)) rfl rfl ?_
            refine oWant rfl rfl ?_
            refine oLenS rfl rfl ?_
            refine oWant rfl rfl ?_
            refine oMove rfl ?_
            refine oWant rfl rfl ?_
            (refine oCall rfl (by kernel_rfl) (fun w hS => frame' hS .nil (fun B' hB hR hS' => fun_rising hS' (f.fCode.length : Int) (some ⟨g36, 0, none⟩) c6 P (row_Cs (W := B.e) (e := 3) (n := P.length) (cp := c6) (hR _ _ (by repeat (first | exact Pick.here | apply Pick.there)))))) ?_; rintro ⟨⟩ -)
            refine oWant rfl rfl ?_
            first | refine oNot rfl ?_ | refine oNotB rfl ?_
            refine oPickF rfl rfl ?_
            refine oNil ?_
            refine thn_n ?_
            first | refine wCond rfl (fun h47 => ?_) (fun h47 => ?_) | refine wCondB rfl (fun h47 => ?_) (fun h47 => ?_)
            ·
              refine wSeq ?_
              refine wRegion' ?_
              refine oAssign rfl ?_
              refine oNil ?_
              refine thn_n ?_
              refine wRet ?_
              refine thn_r ?_
              refine fin_r ?_
              refine ⟨rfl, _, (ResL.cons (ResR.tmp rfl) ResL.nil), ?_⟩
              exact ⟨(), trivial, by unfold linesF; rw [if_neg hk0, if_neg hna, hP, if_pos (.inr (by simpa using h47))]; rfl, (Leads.has (by repeat' (first | exact Has.nil | exact Pick.here | apply Has.cons | apply Pick.there)))⟩
            ·
              refine wSkip ?_
              refine thn_n ?_
              refine wSeq ?_
              refine wRegion' ?_
              refine oAssign rfl ?_
              refine oNil ?_
              refine thn_n ?_
              refine wRet ?_
              refine fin_r ?_
              refine ⟨rfl, _, (ResL.cons (ResR.tmp rfl) ResL.nil), ?_⟩
              exact ⟨(), trivial, by unfold linesF; rw [if_neg hk0, if_neg hna, hP, if_neg (by rintro (h | h); exact h40 (h0v ▸ h); simp [h] at h47)]; rfl, (Leads.has (by repeat' (first | exact Has.nil | exact Pick.here | apply Has.cons | apply Pick.there)))⟩
        ·
          have h0v : P.getD 0 0 = 0 := by cases P with | nil => rfl | cons y P => simp at h34
          refine oSkip rfl rfl rfl rfl ?_
          refine oSkip rfl rfl rfl rfl ?_
          refine oSkip rfl rfl rfl rfl ?_
          refine oSkip rfl rfl rfl rfl ?_
          refine oPickF rfl rfl ?_
          refine oMove rfl ?_
          refine oWant rfl rfl ?_
          refine oFld (n := 7) (m := 7) rfl rfl rfl ?_
          refine oWant rfl rfl ?_
          refine oLd rfl (by repeat (first | exact Pick.here | apply Pick.there)) rfl rfl ?_
          refine oWant rfl rfl ?_
          refine oLenS rfl rfl ?_
          refine oWant rfl rfl ?_
          refine oMove rfl ?_
          refine oWant rfl rfl ?_
          (refine oCall rfl (by kernel_rfl) (fun w hS => frame' hS .nil (fun B' hB hR hS' => fun_rising hS' (f.fCode.length : Int) A6 c6 P (row_Cs (W := B.e) (e := 3) (n := P.length) (cp := c6) (hR _ _ (by repeat (first | exact Pick.here | apply Pick.there)))))) ?_; rintro ⟨⟩ -)
          refine oWant rfl rfl ?_
          first | refine oNot rfl ?_ | refine oNotB rfl ?_
          refine oPickF rfl rfl ?_
          refine oNil ?_
          refine thn_n ?_
          first | refine wCond rfl (fun h47 => ?_) (fun h47 => ?_) | refine wCondB rfl (fun h47 => ?_) (fun h47 => ?_)
          ·
            refine wSeq ?_
            refine wRegion' ?_
            refine oAssign rfl ?_
            refine oNil ?_
            refine thn_n ?_
            refine wRet ?_
            refine thn_r ?_
            refine fin_r ?_
            refine ⟨rfl, _, (ResL.cons (ResR.tmp rfl) ResL.nil), ?_⟩
            exact ⟨(), trivial, by unfold linesF; rw [if_neg hk0, if_neg hna, hP, if_pos (.inr (by simpa using h47))]; rfl, (Leads.has (by repeat' (first | exact Has.nil | exact Pick.here | apply Has.cons | apply Pick.there)))⟩
          ·
            refine wSkip ?_
            refine thn_n ?_
            refine wSeq ?_
            refine wRegion' ?_
            refine oAssign rfl ?_
            refine oNil ?_
            refine thn_n ?_
            refine wRet ?_
            refine fin_r ?_
            refine ⟨rfl, _, (ResL.cons (ResR.tmp rfl) ResL.nil), ?_⟩
            exact ⟨(), trivial, by unfold linesF; rw [if_neg hk0, if_neg hna, hP, if_neg (by rintro (h | h); exact h h0v; simp [h] at h47)]; rfl, (Leads.has (by repeat' (first | exact Has.nil | exact Pick.here | apply Has.cons | apply Pick.there)))⟩
def relBad (x : ApiReloc) : Bool := decide (x.fSym < 0 ∨ 32 ≤ x.fSym)
def relocsF (f : ApiFunc) : Int := if f.fRelocs.any relBad then 11 else if risF f.fCode.length (-1) (f.fRelocs.map (·.fAt)) then 0 else 11
set_option maxRecDepth 100000 in
set_option maxHeartbeats 600000 in
theorem fun_relocs {B : Base} {w : World} (hS : St B [] w) (f : ApiFunc) (fc : List Value) (hf : kApiFunc.K B.e f fc) (hsm : f.fRelocs.length ≤ 1000) :
    CallsIn Fence.wide 0 Tryz.prog 97 #[.agg fc.toArray] w (Ret B (fun _ : Unit => True) (fun _ => .int .i64 (relocsF f)) (fun _ => [])) := by
  obtain ⟨A0, c0, A1, c1, A2, c2, A3, c3, rfl, l0, g0, l1, g1, l2, g2, l3, g3⟩ := kApiFunc_open hf
  have hcl := g2.1
  have hml : (f.fRelocs.map (·.fAt)).length = f.fRelocs.length := List.length_map _
  (refine enter Tryz.func97 rfl rfl hS ?_; simp only [List.zipIdx_cons, List.zipIdx_nil, List.map_cons, List.map_nil, Nat.reduceAdd, Nat.zero_add])
  refine wSeq ?_
  refine wRegion' ?_
  refine oBox rfl (by first | exact CellsOf.agg | exact CellsOf.one rfl) (fun b1 => ?_)
  refine oAssign rfl ?_
  refine oNil ?_
  refine thn_n ?_
  refine wSeq ?_
  refine wRegion' ?_
  refine oAssign rfl ?_
  refine oNil ?_
  refine thn_n ?_
  refine wSeq ?_
  refine wSeq ?_
  refine wRegion' ?_
  refine oFld (n := 8) (m := 8) rfl rfl rfl ?_
  refine oLd rfl (by repeat (first | exact Pick.here | apply Pick.there)) rfl rfl ?_
  refine oLenS rfl rfl ?_
  refine oMove rfl ?_
  refine oNil ?_
  refine thn_n ?_
  refine wBlock ?_
  refine wLoop (ι := Nat × Option Addr × Nat) (fun z => [(1, .pointer (some ⟨b1, 0, none⟩)), (3, .slice z.2.1 ((f.fRelocs.map (·.fAt)).take z.1).length z.2.2), (7, .slice A3 f.fRelocs.length c3), (8, .int .i64 (f.fRelocs.length : Int)), (9, .int .i64 (z.1 : Int))]) (fun z => [blk b1 49 [.int .i64 f.fClass, .slice A0 f.fKinds.length c0, .int .i64 f.fPad, .bool f.fNosplit, .int .i64 f.fFrom, .int .i64 f.fTo, .slice A1 f.fLines.length c1, .slice A2 f.fCode.length c2, .slice A3 f.fRelocs.length c3], row (Kd.int .i64) B.e 3 (.slice z.2.1 ((f.fRelocs.map (·.fAt)).take z.1).length z.2.2) ((f.fRelocs.map (·.fAt)).take z.1)]) (fun z => z.1 ≤ f.fRelocs.length ∧ ∀ y ∈ f.fRelocs.take z.1, relBad y = false) (fun z => f.fRelocs.length - z.1) (0, none, 0) ?_ (by repeat (first | exact trivial | refine And.intro rfl ?_)) (Leads.nilrow.trans (Leads.has (by repeat' (first | exact Has.nil | exact Pick.here | apply Has.cons | apply Pick.there)))) ?_
  ·
    exact ⟨Nat.zero_le _, by simp⟩
  ·
    rintro ⟨i, A6, c6⟩ ⟨hi, hs⟩
    dsimp only at hi hs
    have hti : ((f.fRelocs.map (·.fAt)).take i).length = i := by rw [List.length_take]; omega
    try dsimp only
    refine wSeq ?_
    refine wRegion' ?_
    refine oLss rfl rfl ?_
    refine oNil ?_
    refine thn_n ?_
    refine wSeq ?_
    first | refine wCond rfl (fun h10 => ?_) (fun h10 => ?_) | refine wCondB rfl (fun h10 => ?_) (fun h10 => ?_)
    ·
      obtain ⟨x, hx⟩ : ∃ x, f.fRelocs[i]? = some x := ⟨_, List.getElem?_eq_getElem (by omega)⟩
      have htk := take_at' (l := f.fRelocs.map (·.fAt)) (a := i) (u := x.fAt) (by rw [List.getElem?_map, hx]; rfl)
      obtain ⟨e1, cs1, hE⟩ := g3.elm hx
      obtain rfl := kApiReloc_open hE.K
      refine wSkip ?_
      refine thn_n ?_
      refine wSeq ?_
      refine wBlock ?_
      refine wSeq ?_
      refine wRegion' ?_
      refine oIdxE rfl rfl (hE) (by omega) rfl rfl ?_
      have hc11 := (hE).cell
      first | refine oLdX rfl hc11 rfl rfl ?_ | refine oLdXA rfl hc11 rfl (by repeat (first | exact SubL.done | apply SubL.take | apply SubL.drop)) ?_ | (refine oLdR1 rfl (by repeat (first | exact Pick.here | apply Pick.there)) (by omega) rfl (fun u12 hu12 => ?_))
      refine oAlloc rfl (by first | exact CellsOf.agg | exact CellsOf.one rfl) (fun b5 => ?_)
      refine oStA rfl rfl rfl rfl (by repeat (first | exact Pick.here | apply Pick.there)) (by rfl) ?_
      refine oNil ?_
      refine thn_n ?_
      refine wSeq ?_
      refine wSeq ?_
      refine wRegion' ?_
      refine oFld (n := 1) (m := 1) rfl rfl rfl ?_
      refine oLd rfl (by repeat (first | exact Pick.here | apply Pick.there)) rfl rfl ?_
      refine oLss rfl rfl ?_
      refine oMove rfl ?_
      first | refine oSplit (t := 16) rfl (fun h16 => ?_) (fun h16 => ?_) | refine oSplitB (t := 16) rfl (fun h16 => ?_) (fun h16 => ?_)
      ·
        refine oSkip rfl rfl rfl rfl ?_
        refine oSkip rfl rfl rfl rfl ?_
        refine oSkip rfl rfl rfl rfl ?_
        refine oPickT rfl rfl ?_
        refine oNil ?_
        refine thn_n ?_
        first | refine wCondT rfl ?_ | refine wCondTd h20 rfl ?_ | refine wCondTb h20 rfl ?_
        refine wSeq ?_
        refine wRegion' ?_
        refine oAssign rfl ?_
        refine oNil ?_
        refine thn_n ?_
        refine wRet ?_
        refine thn_r ?_
        refine blk_r ?_
        refine thn_r ?_
        refine thn_r ?_
        refine blk_r ?_
        refine thn_r ?_
        refine fin_r ?_
        refine ⟨rfl, _, (ResL.cons (ResR.tmp rfl) ResL.nil), ?_⟩
        exact ⟨(), trivial, by unfold relocsF; rw [if_pos (List.any_eq_true.2 ⟨x, List.mem_of_getElem? hx, decide_eq_true (by omega)⟩)]; rfl, (Leads.has (by repeat' (first | exact Has.nil | exact Pick.here | apply Has.cons | apply Pick.there)))⟩
      ·
        refine oWant rfl rfl ?_
        refine oFld (n := 1) (m := 1) rfl rfl rfl ?_
        refine oWant rfl rfl ?_
        refine oLd rfl (by repeat (first | exact Pick.here | apply Pick.there)) rfl rfl ?_
        refine oWant rfl rfl ?_
        refine oGeq rfl rfl ?_
        refine oPickF rfl rfl ?_
        refine oNil ?_
        refine thn_n ?_
        first | refine wCond rfl (fun h20 => ?_) (fun h20 => ?_) | refine wCondB rfl (fun h20 => ?_) (fun h20 => ?_)
        ·
          refine wSeq ?_
          refine wRegion' ?_
          refine oAssign rfl ?_
          refine oNil ?_
          refine thn_n ?_
          refine wRet ?_
          refine thn_r ?_
          refine blk_r ?_
          refine thn_r ?_
          refine thn_r ?_
          refine blk_r ?_
          refine thn_r ?_
          refine fin_r ?_
          refine ⟨rfl, _, (ResL.cons (ResR.tmp rfl) ResL.nil), ?_⟩
          exact ⟨(), trivial, by unfold relocsF; rw [if_pos (List.any_eq_true.2 ⟨x, List.mem_of_getElem? hx, decide_eq_true (by omega)⟩)]; rfl, (Leads.has (by repeat' (first | exact Has.nil | exact Pick.here | apply Has.cons | apply Pick.there)))⟩
        ·
          refine wSkip ?_
          refine thn_n ?_
          refine wRegion' ?_
          refine oMove rfl ?_
          refine oFld (n := 0) (m := 0) rfl rfl rfl ?_
          refine oLd rfl (by repeat (first | exact Pick.here | apply Pick.there)) rfl rfl ?_
          refine oBuildSlice1 rfl rfl rfl rfl rfl (by first | exact CellsOf.agg | exact CellsOf.one rfl) rfl (fun b24 => ?_)
          refine oApp1 x.fAt rfl rfl rfl rfl (by repeat (first | exact Pick.here | apply Pick.there)) (by repeat (first | exact Pick.here | apply Pick.there)) rfl (by omega) rfl (fun g25 cp25 => ?_)
          rw [show ((f.fRelocs.map (·.fAt)).take i).length + 1 = ((f.fRelocs.map (·.fAt)).take (i + 1)).length by rw [← htk, List.length_append]; rfl, htk]
          refine oAssign rfl ?_
          refine oNil ?_
          refine blk_n ?_
          refine thn_n ?_
          refine wRegion' ?_
          refine oSucc rfl rfl (by omega) ?_
          refine oMove rfl ?_
          refine oNil ?_
          refine thn_n ?_
          exact ⟨rfl, (i + 1, some ⟨g25, 0, none⟩, cp25), ⟨by show i + 1 ≤ _; omega, take_not hs hx (by unfold relBad; exact decide_eq_false (by omega))⟩, by show f.fRelocs.length - (i + 1) < f.fRelocs.length - i; omega, (by repeat (first | exact trivial | refine And.intro rfl ?_)), (Leads.has (by repeat' (first | exact Has.nil | exact Pick.here | apply Has.cons | apply Pick.there)))⟩
    ·
      obtain rfl : i = f.fRelocs.length := by omega
      rw [List.take_length] at hs
      have hna : ¬ f.fRelocs.any relBad = true := by intro k; obtain ⟨y, hy, hp⟩ := List.any_eq_true.1 k; rw [hs y hy] at hp; cases hp
      rw [← hml, List.take_length]
      generalize hP : f.fRelocs.map (·.fAt) = P at *
      refine wExit ?_
      refine thn_x ?_
      refine thn_x ?_
      refine blk_x ?_
      refine thn_n ?_
      refine wSeq ?_
      refine wSeq ?_
      refine wRegion' ?_
      refine oFld (n := 7) (m := 7) rfl rfl rfl ?_
      refine oLd rfl (by repeat (first | exact Pick.here | apply Pick.there)) rfl rfl ?_
      refine oLenS rfl rfl ?_
      refine oMove rfl ?_
      (refine oCall rfl (by kernel_rfl) (fun w hS => frame' hS .nil (fun B' hB hR hS' => fun_rising hS' (f.fCode.length : Int) A6 c6 P (row_Cs (W := B.e) (e := 3) (n := P.length) (cp := c6) (hR _ _ (by repeat (first | exact Pick.here | apply Pick.there)))))) ?_; rintro ⟨⟩ -)
      first | refine oNot rfl ?_ | refine oNotB rfl ?_
      refine oNil ?_
      refine thn_n ?_
      first | refine wCond rfl (fun h32 => ?_) (fun h32 => ?_) | refine wCondB rfl (fun h32 => ?_) (fun h32 => ?_)
      ·
        refine wSeq ?_
        refine wRegion' ?_
        refine oAssign rfl ?_
        refine oNil ?_
        refine thn_n ?_
        refine wRet ?_
        refine thn_r ?_
        refine fin_r ?_
        refine ⟨rfl, _, (ResL.cons (ResR.tmp rfl) ResL.nil), ?_⟩
        exact ⟨(), trivial, by unfold relocsF; rw [if_neg hna, hP, if_neg (by simpa using h32)]; rfl, (Leads.has (by repeat' (first | exact Has.nil | exact Pick.here | apply Has.cons | apply Pick.there)))⟩
      ·
        refine wSkip ?_
        refine thn_n ?_
        refine wSeq ?_
        refine wRegion' ?_
        refine oAssign rfl ?_
        refine oNil ?_
        refine thn_n ?_
        refine wRet ?_
        refine fin_r ?_
        refine ⟨rfl, _, (ResL.cons (ResR.tmp rfl) ResL.nil), ?_⟩
        exact ⟨(), trivial, by unfold relocsF; rw [if_neg hna, hP, if_pos (by simpa using h32)]; rfl, (Leads.has (by repeat' (first | exact Has.nil | exact Pick.here | apply Has.cons | apply Pick.there)))⟩
def funF (f : ApiFunc) : Int := if slotsF f ≠ 0 then slotsF f else if f.fPad < 0 ∨ 4096 < f.fPad then 9 else if codeF f ≠ 0 then codeF f else if f.fFrom < 0 ∨ f.fTo < f.fFrom ∨ (f.fCode.length : Int) < f.fTo then 9 else if linesF f ≠ 0 then linesF f else relocsF f
set_option maxRecDepth 100000 in
set_option maxHeartbeats 600000 in
theorem fun_Check {B : Base} {w : World} (hS : St B [] w) (f : ApiFunc) (fc : List Value) (hf : kApiFunc.K B.e f fc) (hsm : f.fRelocs.length ≤ 1000) :
    CallsIn Fence.wide 0 Tryz.prog 50 #[.agg fc.toArray] w (Ret B (fun _ : Unit => True) (fun _ => .int .i64 (funF f)) (fun _ => [])) := by
  obtain ⟨A0, c0, A1, c1, A2, c2, A3, c3, rfl, l0, g0, l1, g1, l2, g2, l3, g3⟩ := kApiFunc_open hf
  (refine enter Tryz.func50 rfl rfl hS ?_; simp only [List.zipIdx_cons, List.zipIdx_nil, List.map_cons, List.map_nil, Nat.reduceAdd, Nat.zero_add])
  refine wSeq ?_
  refine wRegion' ?_
  refine oBox rfl (by first | exact CellsOf.agg | exact CellsOf.one rfl) (fun b1 => ?_)
  refine oAssign rfl ?_
  refine oNil ?_
  refine thn_n ?_
  refine wSeq ?_
  refine wSeq ?_
  refine wRegion' ?_
  refine oLdA rfl (by repeat (first | exact Pick.here | apply Pick.there)) rfl (by repeat (first | exact SubL.done | apply SubL.take | apply SubL.drop)) ?_
  (refine oCall rfl (by kernel_rfl) (fun w hS => frame hS (by repeat' (first | exact Split.nil | exact Pick.here | apply Split.cons | apply Pick.there)) (fun B' hB hS' => fun_slots hS' f _ (kApiFunc.K_grow hB hf))) ?_; rintro ⟨⟩ -)
  refine oAssign rfl ?_
  refine oNil ?_
  refine thn_n ?_
  refine wSeq ?_
  refine wRegion' ?_
  refine oMove rfl ?_
  refine oNeq rfl rfl ?_
  refine oNil ?_
  refine thn_n ?_
  first | refine wCond rfl (fun h9 => ?_) (fun h9 => ?_) | refine wCondB rfl (fun h9 => ?_) (fun h9 => ?_)
  ·
    refine wSeq ?_
    refine wRegion' ?_
    refine oMove rfl ?_
    refine oAssign rfl ?_
    refine oNil ?_
    refine thn_n ?_
    refine wRet ?_
    refine thn_r ?_
    refine fin_r ?_
    refine ⟨rfl, _, (ResL.cons (ResR.tmp rfl) ResL.nil), ?_⟩
    exact ⟨(), trivial, by unfold funF; rw [if_pos h9]; rfl, (Leads.has (by repeat' (first | exact Has.nil | exact Pick.here | apply Has.cons | apply Pick.there)))⟩
  ·
    refine wSkip ?_
    refine thn_n ?_
    refine wSeq ?_
    refine wSeq ?_
    refine wRegion' ?_
    refine oFld (n := 2) (m := 2) rfl rfl rfl ?_
    refine oLd rfl (by repeat (first | exact Pick.here | apply Pick.there)) rfl rfl ?_
    refine oLss rfl rfl ?_
    refine oMove rfl ?_
    first | refine oSplit (t := 14) rfl (fun h14 => ?_) (fun h14 => ?_) | refine oSplitB (t := 14) rfl (fun h14 => ?_) (fun h14 => ?_)
    ·
      refine oSkip rfl rfl rfl rfl ?_
      refine oSkip rfl rfl rfl rfl ?_
      refine oSkip rfl rfl rfl rfl ?_
      refine oPickT rfl rfl ?_
      refine oNil ?_
      refine thn_n ?_
      first | refine wCondT rfl ?_ | refine wCondTd h18 rfl ?_ | refine wCondTb h18 rfl ?_
      refine wSeq ?_
      refine wRegion' ?_
      refine oAssign rfl ?_
      refine oNil ?_
      refine thn_n ?_
      refine wRet ?_
      refine thn_r ?_
      refine fin_r ?_
      refine ⟨rfl, _, (ResL.cons (ResR.tmp rfl) ResL.nil), ?_⟩
      exact ⟨(), trivial, by unfold funF; rw [if_neg h9, if_pos (by omega)]; rfl, (Leads.has (by repeat' (first | exact Has.nil | exact Pick.here | apply Has.cons | apply Pick.there)))⟩
    ·
      refine oWant rfl rfl ?_
      refine oFld (n := 2) (m := 2) rfl rfl rfl ?_
      refine oWant rfl rfl ?_
      refine oLd rfl (by repeat (first | exact Pick.here | apply Pick.there)) rfl rfl ?_
      refine oWant rfl rfl ?_
      refine oGtr rfl rfl ?_
      refine oPickF rfl rfl ?_
      refine oNil ?_
      refine thn_n ?_
      first | refine wCond rfl (fun h18 => ?_) (fun h18 => ?_) | refine wCondB rfl (fun h18 => ?_) (fun h18 => ?_)
      ·
        refine wSeq ?_
        refine wRegion' ?_
        refine oAssign rfl ?_
        refine oNil ?_
        refine thn_n ?_
        refine wRet ?_
        refine thn_r ?_
        refine fin_r ?_
        refine ⟨rfl, _, (ResL.cons (ResR.tmp rfl) ResL.nil), ?_⟩
        exact ⟨(), trivial, by unfold funF; rw [if_neg h9, if_pos (by omega)]; rfl, (Leads.has (by repeat' (first | exact Has.nil | exact Pick.here | apply Has.cons | apply Pick.there)))⟩
      ·
        refine wSkip ?_
        refine thn_n ?_
        refine wSeq ?_
        refine wSeq ?_
        refine wRegion' ?_
        refine oLdA rfl (by repeat (first | exact Pick.here | apply Pick.there)) rfl (by repeat (first | exact SubL.done | apply SubL.take | apply SubL.drop)) ?_
        (refine oCall rfl (by kernel_rfl) (fun w hS => frame hS (by repeat' (first | exact Split.nil | exact Pick.here | apply Split.cons | apply Pick.there)) (fun B' hB hS' => fun_code hS' f _ (kApiFunc.K_grow hB hf))) ?_; rintro ⟨⟩ -)
        refine oAssign rfl ?_
        refine oNil ?_
        refine thn_n ?_
        refine wSeq ?_
        refine wRegion' ?_
        refine oMove rfl ?_
        refine oNeq rfl rfl ?_
        refine oNil ?_
        refine thn_n ?_
        first | refine wCond rfl (fun h22 => ?_) (fun h22 => ?_) | refine wCondB rfl (fun h22 => ?_) (fun h22 => ?_)
        ·
          refine wSeq ?_
          refine wRegion' ?_
          refine oMove rfl ?_
          refine oAssign rfl ?_
          refine oNil ?_
          refine thn_n ?_
          refine wRet ?_
          refine thn_r ?_
          refine fin_r ?_
          refine ⟨rfl, _, (ResL.cons (ResR.tmp rfl) ResL.nil), ?_⟩
          exact ⟨(), trivial, by unfold funF; rw [if_neg h9, if_neg (by omega), if_pos h22]; rfl, (Leads.has (by repeat' (first | exact Has.nil | exact Pick.here | apply Has.cons | apply Pick.there)))⟩
        ·
          refine wSkip ?_
          refine thn_n ?_
          refine wSeq ?_
          refine wSeq ?_
          refine wRegion' ?_
          refine oFld (n := 4) (m := 4) rfl rfl rfl ?_
          refine oLd rfl (by repeat (first | exact Pick.here | apply Pick.there)) rfl rfl ?_
          refine oLss rfl rfl ?_
          refine oMove rfl ?_
          first | refine oSplit (t := 27) rfl (fun h27 => ?_) (fun h27 => ?_) | refine oSplitB (t := 27) rfl (fun h27 => ?_) (fun h27 => ?_)
          ·
            refine oSkip rfl rfl rfl rfl ?_
            refine oSkip rfl rfl rfl rfl ?_
            refine oSkip rfl rfl rfl rfl ?_
            refine oSkip rfl rfl rfl rfl ?_
            refine oSkip rfl rfl rfl rfl ?_
            refine oPickT rfl rfl ?_
            refine oMove rfl ?_
            refine oSkip rfl rfl rfl rfl ?_
            refine oSkip rfl rfl rfl rfl ?_
            refine oSkip rfl rfl rfl rfl ?_
            refine oSkip rfl rfl rfl rfl ?_
            refine oSkip rfl rfl rfl rfl ?_
            refine oSkip rfl rfl rfl rfl ?_
            refine oPickT rfl rfl ?_
            refine oNil ?_
            refine thn_n ?_
            first | refine wCondT rfl ?_ | refine wCondTd h41 rfl ?_ | refine wCondTb h41 rfl ?_
            refine wSeq ?_
            refine wRegion' ?_
            refine oAssign rfl ?_
            refine oNil ?_
            refine thn_n ?_
            refine wRet ?_
            refine thn_r ?_
            refine fin_r ?_
            refine ⟨rfl, _, (ResL.cons (ResR.tmp rfl) ResL.nil), ?_⟩
            exact ⟨(), trivial, by unfold funF; rw [if_neg h9, if_neg (by omega), if_neg h22, if_pos (by omega)]; rfl, (Leads.has (by repeat' (first | exact Has.nil | exact Pick.here | apply Has.cons | apply Pick.there)))⟩
          ·
            refine oWant rfl rfl ?_
            refine oFld (n := 5) (m := 5) rfl rfl rfl ?_
            refine oWant rfl rfl ?_
            refine oLd rfl (by repeat (first | exact Pick.here | apply Pick.there)) rfl rfl ?_
            refine oWant rfl rfl ?_
            refine oFld (n := 4) (m := 4) rfl rfl rfl ?_
            refine oWant rfl rfl ?_
            refine oLd rfl (by repeat (first | exact Pick.here | apply Pick.there)) rfl rfl ?_
            refine oWant rfl rfl ?_
            refine oLss rfl rfl ?_
            refine oPickF rfl rfl ?_
            refine oMove rfl ?_
            first | refine oSplit (t := 34) rfl (fun h34 => ?_) (fun h34 => ?_) | refine oSplitB (t := 34) rfl (fun h34 => ?_) (fun h34 => ?_)
            ·
              refine oSkip rfl rfl rfl rfl ?_
              refine oSkip rfl rfl rfl rfl ?_
              refine oSkip rfl rfl rfl rfl ?_
              refine oSkip rfl rfl rfl rfl ?_
              refine oSkip rfl rfl rfl rfl ?_
              refine oSkip rfl rfl rfl rfl ?_
              refine oPickT rfl rfl ?_
              refine oNil ?_
              refine thn_n ?_
              first | refine wCondT rfl ?_ | refine wCondTd h41 rfl ?_ | refine wCondTb h41 rfl ?_
              refine wSeq ?_
              refine wRegion' ?_
              refine oAssign rfl ?_
              refine oNil ?_
              refine thn_n ?_
              refine wRet ?_
              refine thn_r ?_
              refine fin_r ?_
              refine ⟨rfl, _, (ResL.cons (ResR.tmp rfl) ResL.nil), ?_⟩
              exact ⟨(), trivial, by unfold funF; rw [if_neg h9, if_neg (by omega), if_neg h22, if_pos (by omega)]; rfl, (Leads.has (by repeat' (first | exact Has.nil | exact Pick.here | apply Has.cons | apply Pick.there)))⟩
            ·
              refine oWant rfl rfl ?_
              refine oFld (n := 5) (m := 5) rfl rfl rfl ?_
              refine oWant rfl rfl ?_
              refine oLd rfl (by repeat (first | exact Pick.here | apply Pick.there)) rfl rfl ?_
              refine oWant rfl rfl ?_
              refine oFld (n := 7) (m := 7) rfl rfl rfl ?_
              refine oWant rfl rfl ?_
              refine oLd rfl (by repeat (first | exact Pick.here | apply Pick.there)) rfl rfl ?_
              refine oWant rfl rfl ?_
              refine oLenS rfl rfl ?_
              refine oWant rfl rfl ?_
              refine oGtr rfl rfl ?_
              refine oPickF rfl rfl ?_
              refine oNil ?_
              refine thn_n ?_
              first | refine wCond rfl (fun h41 => ?_) (fun h41 => ?_) | refine wCondB rfl (fun h41 => ?_) (fun h41 => ?_)
              ·
                refine wSeq ?_
                refine wRegion' ?_
                refine oAssign rfl ?_
                refine oNil ?_
                refine thn_n ?_
                refine wRet ?_
                refine thn_r ?_
                refine fin_r ?_
                refine ⟨rfl, _, (ResL.cons (ResR.tmp rfl) ResL.nil), ?_⟩
                exact ⟨(), trivial, by unfold funF; rw [if_neg h9, if_neg (by omega), if_neg h22, if_pos (by omega)]; rfl, (Leads.has (by repeat' (first | exact Has.nil | exact Pick.here | apply Has.cons | apply Pick.there)))⟩
              ·
                refine wSkip ?_
                refine thn_n ?_
                refine wSeq ?_
                refine wSeq ?_
                refine wRegion' ?_
                refine oLdA rfl (by repeat (first | exact Pick.here | apply Pick.there)) rfl (by repeat (first | exact SubL.done | apply SubL.take | apply SubL.drop)) ?_
                (refine oCall rfl (by kernel_rfl) (fun w hS => frame hS (by repeat' (first | exact Split.nil | exact Pick.here | apply Split.cons | apply Pick.there)) (fun B' hB hS' => fun_lines hS' f _ (kApiFunc.K_grow hB hf))) ?_; rintro ⟨⟩ -)
                refine oAssign rfl ?_
                refine oNil ?_
                refine thn_n ?_
                refine wSeq ?_
                refine wRegion' ?_
                refine oMove rfl ?_
                refine oNeq rfl rfl ?_
                refine oNil ?_
                refine thn_n ?_
                first | refine wCond rfl (fun h45 => ?_) (fun h45 => ?_) | refine wCondB rfl (fun h45 => ?_) (fun h45 => ?_)
                ·
                  refine wSeq ?_
                  refine wRegion' ?_
                  refine oMove rfl ?_
                  refine oAssign rfl ?_
                  refine oNil ?_
                  refine thn_n ?_
                  refine wRet ?_
                  refine thn_r ?_
                  refine fin_r ?_
                  refine ⟨rfl, _, (ResL.cons (ResR.tmp rfl) ResL.nil), ?_⟩
                  exact ⟨(), trivial, by unfold funF; rw [if_neg h9, if_neg (by omega), if_neg h22, if_neg (by omega), if_pos h45]; rfl, (Leads.has (by repeat' (first | exact Has.nil | exact Pick.here | apply Has.cons | apply Pick.there)))⟩
                ·
                  refine wSkip ?_
                  refine thn_n ?_
                  refine wSeq ?_
                  refine wRegion' ?_
                  refine oLdA rfl (by repeat (first | exact Pick.here | apply Pick.there)) rfl (by repeat (first | exact SubL.done | apply SubL.take | apply SubL.drop)) ?_
                  (refine oCall rfl (by kernel_rfl) (fun w hS => frame hS (by repeat' (first | exact Split.nil | exact Pick.here | apply Split.cons | apply Pick.there)) (fun B' hB hS' => fun_relocs hS' f _ (kApiFunc.K_grow hB hf) hsm)) ?_; rintro ⟨⟩ -)
                  refine oAssign rfl ?_
                  refine oNil ?_
                  refine thn_n ?_
                  refine wRet ?_
                  refine fin_r ?_
                  refine ⟨rfl, _, (ResL.cons (ResR.tmp rfl) ResL.nil), ?_⟩
                  exact ⟨(), trivial, by unfold funF; rw [if_neg h9, if_neg (by omega), if_neg h22, if_neg (by omega), if_neg h45]; rfl, (Leads.has (by repeat' (first | exact Has.nil | exact Pick.here | apply Has.cons | apply Pick.there)))⟩
end Go.Proofs.YtcacohoanlljhaaGreatV
