import Derived.Test.YtcacohoanlljhaaVi

/-
  sheerleglaw17: VerifyMore.
-/
namespace Go.Proofs.YtcacohoanlljhaaV
set_option linter.unusedVariables false
set_option linter.unusedSimpArgs false
open Go.RowKit Go.Proofs.YtcacohoanlljhaaK Go.Proofs.YtcacohoanlljhaaT Go.Proofs.YtcacohoanlljhaaL

theorem refE_more {f : ApiFunc} {l more : List ApiSymbol} {i : Int} (h : refE f l i = 0) : refE f (l ++ more) i = 0 ∧ refS f (l ++ more) i = refS f l i := by
  by_cases h1 : needF (codeAt f i).fOp = 0 ∧ markF f i < 0
  · have hE : ∀ l', refE f l' i = 0 := fun l' => by unfold refE; rw [if_pos h1]
    have hS : ∀ l', refS f l' i = default := fun l' => by unfold refS; rw [if_pos (.inl h1.1)]
    exact ⟨hE _, by rw [hS, hS]⟩
  · have h0 := h
    unfold refE at h
    rw [if_neg h1] at h
    split at h
    · cases h
    · next h2 =>
      split at h
      · next h3 =>
        have hlt : (symF f i).toNat < l.length := by omega
        have hs : symAtF f (l ++ more) i = symAtF f l i := by
          unfold symAtF
          rw [List.getD_eq_getElem?_getD, List.getD_eq_getElem?_getD, List.getElem?_append_left hlt]
        have hE : refE f (l ++ more) i = 0 := by
          unfold refE
          rw [if_neg h1, if_neg (by rw [List.length_append]; omega), hs, if_pos h3]
        refine ⟨hE, ?_⟩
        unfold refS
        rw [hE, h0, hs]
      · cases h
theorem instrF_more {f : ApiFunc} {l more : List ApiSymbol} {i : Int} (h : instrF f l i = 0) : instrF f (l ++ more) i = 0 := by
  have h0 := h
  unfold instrF at h
  split at h
  · cases h
  · next h1 =>
    split at h
    · next h2 => exact absurd h h2
    · next h2 =>
      obtain ⟨hE, hS⟩ := refE_more (more := more) (Classical.not_not.1 h2)
      rw [← h0]
      unfold instrF
      rw [if_neg h1, if_neg h1, hE, hS, Classical.not_not.1 h2]
theorem chk_more {f : ApiFunc} {l more : List ApiSymbol} (h : chkE f l = 0) : chkE f (l ++ more) = 0 ∧ chkI f (l ++ more) = -1 := by
  unfold chkE at h
  split at h
  · next h1 => exact absurd h h1
  · next h1 =>
    have hz := fstE_zero.1 h
    have hm : ∀ e ∈ insL f (l ++ more), e = 0 := by
      intro e he
      obtain ⟨i, hi, rfl⟩ := List.mem_map.1 he
      exact instrF_more (hz _ (List.mem_map.2 ⟨i, hi, rfl⟩))
    unfold chkE chkI
    rw [if_neg h1, if_neg h1]
    exact ⟨fstE_zero.2 hm, idxI_none (fun e he => decide_eq_false (by rw [hm e he]; simp))⟩
set_option maxRecDepth 100000 in
set_option maxHeartbeats 1000000 in
theorem verifyMore {B : Base} {w : World} (hS : St B [] w) (f : ApiFunc) (fc : List Value) (hf : kApiFunc.K B.e f fc) (A : Option Addr) (cp : Nat) (l : List ApiSymbol) (hl : kApiSymbol.C B.e A l) (A1 : Option Addr) (cp1 : Nat) (more : List ApiSymbol) (hm : kApiSymbol.C B.e A1 more) :
    CallsIn Fence.wide 0 Try.prog 7 #[.agg fc.toArray, .slice A l.length cp, .slice A1 more.length cp1] w (Ret B (fun _ : Unit => True) (fun _ => .bool true) (fun _ => [])) := by
  obtain ⟨A0, c0, A9, c9, A2, c2, A3, c3, rfl, l0, g0, l1, g1, l2, g2, l3, g3⟩ := kApiFunc_open hf
  have hmo := chk_more (f := f) (l := l) (more := more)
  (refine enter Try.func7 rfl rfl hS ?_; simp only [List.zipIdx_cons, List.zipIdx_nil, List.map_cons, List.map_nil, Nat.reduceAdd, Nat.zero_add])
  refine wSeq ?_
  refine wRegion' ?_
  refine oBox rfl (by first | exact CellsOf.agg | exact CellsOf.one rfl) (fun b3 => ?_)
  refine oAssign rfl ?_
  refine oNil ?_
  refine thn_n ?_
  refine wSeq ?_
  refine wSeq ?_
  refine wRegion' ?_
  refine oLdA rfl (by repeat (first | exact Pick.here | apply Pick.there)) rfl (by repeat (first | exact SubL.done | apply SubL.take | apply SubL.drop)) ?_
  (refine oCall rfl (by kernel_rfl) (fun w hS => frame hS (by repeat' (first | exact Split.nil | exact Pick.here | apply Split.cons | apply Pick.there)) (fun B' hB hS' => ref16_Few hS' f _ (kApiFunc.K_grow hB hf))) ?_; rintro r13 h13)
  first | refine oNot rfl ?_ | refine oNotB rfl ?_
  refine oMove rfl ?_
  first | refine oSplit (t := 15) rfl (fun h15 => ?_) (fun h15 => ?_) | refine oSplitB (t := 15) rfl (fun h15 => ?_) (fun h15 => ?_)
  ·
    refine oSkip rfl rfl rfl rfl ?_
    refine oSkip rfl rfl rfl rfl ?_
    refine oSkip rfl rfl rfl rfl ?_
    refine oPickT rfl rfl ?_
    refine oMove rfl ?_
    refine oSkip rfl rfl rfl rfl ?_
    refine oSkip rfl rfl rfl rfl ?_
    refine oSkip rfl rfl rfl rfl ?_
    refine oPickT rfl rfl ?_
    refine oNil ?_
    refine thn_n ?_
    first | refine wCondT rfl ?_ | refine wCondTd h24 rfl ?_ | refine wCondTb h24 rfl ?_
    refine wSeq ?_
    refine wRegion' ?_
    (refine oCall rfl (by kernel_rfl) (fun w hS => frame hS (by repeat' (first | exact Split.nil | exact Pick.here | apply Split.cons | apply Pick.there)) (fun B' hB hS' => known17 hS')) ?_; rintro ⟨⟩ -)
    refine oAssign rfl ?_
    refine oNil ?_
    refine thn_n ?_
    refine wRet ?_
    refine thn_r ?_
    refine fin_r ?_
    refine ⟨rfl, _, (ResL.cons (ResR.tmp rfl) ResL.nil), ?_⟩
    exact ⟨(), trivial, rfl, (Leads.has (by repeat' (first | exact Has.nil | exact Pick.here | apply Has.cons | apply Pick.there)))⟩
  ·
    refine oWant rfl rfl ?_
    refine oMove rfl ?_
    refine oWant rfl rfl ?_
    (refine oCall rfl (by kernel_rfl) (fun w hS => frame hS (by repeat' (first | exact Split.nil | exact Pick.here | apply Split.cons | apply Pick.there)) (fun B' hB hS' => law_few hS' A l.length cp)) ?_; rintro ⟨⟩ -)
    refine oWant rfl rfl ?_
    first | refine oNot rfl ?_ | refine oNotB rfl ?_
    refine oPickF rfl rfl ?_
    refine oMove rfl ?_
    first | refine oSplit (t := 20) rfl (fun h20 => ?_) (fun h20 => ?_) | refine oSplitB (t := 20) rfl (fun h20 => ?_) (fun h20 => ?_)
    ·
      refine oSkip rfl rfl rfl rfl ?_
      refine oSkip rfl rfl rfl rfl ?_
      refine oSkip rfl rfl rfl rfl ?_
      refine oPickT rfl rfl ?_
      refine oNil ?_
      refine thn_n ?_
      first | refine wCondT rfl ?_ | refine wCondTd h24 rfl ?_ | refine wCondTb h24 rfl ?_
      refine wSeq ?_
      refine wRegion' ?_
      (refine oCall rfl (by kernel_rfl) (fun w hS => frame hS (by repeat' (first | exact Split.nil | exact Pick.here | apply Split.cons | apply Pick.there)) (fun B' hB hS' => known17 hS')) ?_; rintro ⟨⟩ -)
      refine oAssign rfl ?_
      refine oNil ?_
      refine thn_n ?_
      refine wRet ?_
      refine thn_r ?_
      refine fin_r ?_
      refine ⟨rfl, _, (ResL.cons (ResR.tmp rfl) ResL.nil), ?_⟩
      exact ⟨(), trivial, rfl, (Leads.has (by repeat' (first | exact Has.nil | exact Pick.here | apply Has.cons | apply Pick.there)))⟩
    ·
      refine oWant rfl rfl ?_
      refine oMove rfl ?_
      refine oWant rfl rfl ?_
      (refine oCall rfl (by kernel_rfl) (fun w hS => frame hS (by repeat' (first | exact Split.nil | exact Pick.here | apply Split.cons | apply Pick.there)) (fun B' hB hS' => law_few hS' A1 more.length cp1)) ?_; rintro ⟨⟩ -)
      refine oWant rfl rfl ?_
      first | refine oNot rfl ?_ | refine oNotB rfl ?_
      refine oPickF rfl rfl ?_
      refine oNil ?_
      refine thn_n ?_
      first | refine wCond rfl (fun h24 => ?_) (fun h24 => ?_) | refine wCondB rfl (fun h24 => ?_) (fun h24 => ?_)
      ·
        refine wSeq ?_
        refine wRegion' ?_
        (refine oCall rfl (by kernel_rfl) (fun w hS => frame hS (by repeat' (first | exact Split.nil | exact Pick.here | apply Split.cons | apply Pick.there)) (fun B' hB hS' => known17 hS')) ?_; rintro ⟨⟩ -)
        refine oAssign rfl ?_
        refine oNil ?_
        refine thn_n ?_
        refine wRet ?_
        refine thn_r ?_
        refine fin_r ?_
        refine ⟨rfl, _, (ResL.cons (ResR.tmp rfl) ResL.nil), ?_⟩
        exact ⟨(), trivial, rfl, (Leads.has (by repeat' (first | exact Has.nil | exact Pick.here | apply Has.cons | apply Pick.there)))⟩
      ·
        have hsm : f.fRelocs.length ≤ 1000 := by have := h13 (by simpa using h15); omega
        have hl60 : l.length ≤ 60 := by have := h20; simp at this; omega
        have hm60 : more.length ≤ 60 := by have := h24; simp at this; omega
        refine wSkip ?_
        refine thn_n ?_
        refine wSeq ?_
        refine wRegion' ?_
        refine oAssign rfl ?_
        refine oNil ?_
        refine thn_n ?_
        refine wSeq ?_
        refine wRegion' ?_
        refine oMove rfl ?_
        refine oMove rfl ?_
        refine oConv (Leads.nilrow (kd := kApiSymbol) (W := B.e) (e := 62)) ?_
        refine oAppA (kd := kApiSymbol) (W := B.e) (ys := l) rfl rfl rfl rfl (by repeat (first | exact Pick.here | apply Pick.there)) rfl (fun w hw => src_C hl (Base.grow hw.ok)) (by simp only [List.length_nil]; omega) rfl (fun A28 c28 hc28 => ?_)
        rw [List.nil_append l, show ([] : List ApiSymbol).length + l.length = l.length by simp]
        refine oAssign rfl ?_
        refine oNil ?_
        refine thn_n ?_
        refine wSeq ?_
        refine wRegion' ?_
        refine oMove rfl ?_
        refine oMove rfl ?_
        refine oAppA (kd := kApiSymbol) (W := B.e) (ys := more) rfl rfl rfl rfl (by repeat (first | exact Pick.here | apply Pick.there)) rfl (fun w hw => src_C hm (Base.grow hw.ok)) (by omega) rfl (fun A31 c31 hc31 => ?_)
        rw [← List.length_append]
        refine oAssign rfl ?_
        refine oNil ?_
        refine thn_n ?_
        refine wSeq ?_
        refine wRegion' ?_
        refine oLdA rfl (by repeat (first | exact Pick.here | apply Pick.there)) rfl (by repeat (first | exact SubL.done | apply SubL.take | apply SubL.drop)) ?_
        refine oMove rfl ?_
        (refine oCall rfl (by kernel_rfl) (fun w hS => frame hS (by repeat' (first | exact Split.nil | exact Pick.here | apply Split.cons | apply Pick.there)) (fun B' hB hS' => verify_Check hS' f _ (kApiFunc.K_grow hB hf) hsm A cp l (Kd.C_grow hB hl))) ?_; rintro ⟨⟩ -)
        refine oMove rfl ?_
        refine oExt rfl (by repeat (first | exact GetAt.here | apply GetAt.there)) ?_
        refine oExt rfl (by repeat (first | exact GetAt.here | apply GetAt.there)) ?_
        refine oAssign rfl ?_
        refine oAssign rfl ?_
        refine oNil ?_
        refine thn_n ?_
        refine wSeq ?_
        refine wRegion' ?_
        refine oLdA rfl (by repeat (first | exact Pick.here | apply Pick.there)) rfl (by repeat (first | exact SubL.done | apply SubL.take | apply SubL.drop)) ?_
        refine oMove rfl ?_
        (refine oCall rfl (by kernel_rfl) (fun w hS => frame' hS .nil (fun B' hB hR hS' => verify_Check hS' f _ (kApiFunc.K_grow hB hf) hsm A31 c31 (l ++ more) (row_C (kd := kApiSymbol) (W := B.e) (e := 62) (A := A31) (n := (l ++ more).length) (cp := c31) (hR _ _ (by repeat (first | exact Pick.here | apply Pick.there))) hB).2.2.1)) ?_; rintro ⟨⟩ -)
        refine oMove rfl ?_
        refine oExt rfl (by repeat (first | exact GetAt.here | apply GetAt.there)) ?_
        refine oExt rfl (by repeat (first | exact GetAt.here | apply GetAt.there)) ?_
        refine oAssign rfl ?_
        refine oAssign rfl ?_
        refine oNil ?_
        refine thn_n ?_
        refine wSeq ?_
        refine wRegion' ?_
        refine oMove rfl ?_
        refine oNeq rfl rfl ?_
        refine oMove rfl ?_
        first | refine oSplit (t := 46) rfl (fun h46 => ?_) (fun h46 => ?_) | refine oSplitB (t := 46) rfl (fun h46 => ?_) (fun h46 => ?_)
        ·
          refine oSkip rfl rfl rfl rfl ?_
          refine oSkip rfl rfl rfl rfl ?_
          refine oSkip rfl rfl rfl rfl ?_
          refine oSkipU rfl rfl rfl ?_
          refine oSkipU rfl rfl rfl ?_
          refine oSkip rfl rfl rfl rfl ?_
          refine oPickT rfl rfl ?_
          refine oMove rfl ?_
          refine oWant rfl rfl ?_
          (refine oCall rfl (by kernel_rfl) (fun w hS => frame hS (by repeat' (first | exact Split.nil | exact Pick.here | apply Split.cons | apply Pick.there)) (fun B' hB hS' => known17 hS')) ?_; rintro ⟨⟩ -)
          refine oPickT rfl rfl ?_
          refine oAssign rfl ?_
          refine oNil ?_
          refine thn_n ?_
          refine wRet ?_
          refine fin_r ?_
          refine ⟨rfl, _, (ResL.cons (ResR.tmp rfl) ResL.nil), ?_⟩
          exact ⟨(), trivial, rfl, (Leads.has (by repeat' (first | exact Has.nil | exact Pick.here | apply Has.cons | apply Pick.there)))⟩
        ·
          have hok := hmo (Classical.not_not.1 h46)
          rw [hok.1, hok.2]
          refine oWant rfl rfl ?_
          refine oMove rfl ?_
          refine oWant rfl rfl ?_
          refine oEql rfl rfl ?_
          refine oWant rfl rfl ?_
          refine oMove rfl ?_
          first | refine oSplit (t := 49) rfl (fun h49 => ?_) (fun h49 => ?_) | refine oSplitB (t := 49) rfl (fun h49 => ?_) (fun h49 => ?_)
          ·
            refine oWant rfl rfl ?_
            refine oMove rfl ?_
            refine oWant rfl rfl ?_
            refine oEql rfl rfl ?_
            refine oWant rfl rfl ?_
            refine oPickT rfl rfl ?_
            refine oPickF rfl rfl ?_
            refine oMove rfl ?_
            first | refine oSplit (t := 54) rfl (fun h54 => ?_) (fun h54 => ?_) | refine oSplitB (t := 54) rfl (fun h54 => ?_) (fun h54 => ?_)
            ·
              refine oWant rfl rfl ?_
              (refine oCall rfl (by kernel_rfl) (fun w hS => frame hS (by repeat' (first | exact Split.nil | exact Pick.here | apply Split.cons | apply Pick.there)) (fun B' hB hS' => known17 hS')) ?_; rintro ⟨⟩ -)
              refine oPickT rfl rfl ?_
              refine oAssign rfl ?_
              refine oNil ?_
              refine thn_n ?_
              refine wRet ?_
              refine fin_r ?_
              refine ⟨rfl, _, (ResL.cons (ResR.tmp rfl) ResL.nil), ?_⟩
              exact ⟨(), trivial, rfl, (Leads.has (by repeat' (first | exact Has.nil | exact Pick.here | apply Has.cons | apply Pick.there)))⟩
            ·
              first | exact absurd rfl h54 | (simp at h54)
          ·
            exact absurd rfl h49
end Go.Proofs.YtcacohoanlljhaaV
