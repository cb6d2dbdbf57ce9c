/-
  sheerleglaw06.QueuePlays, walked.
-/
import Derived.Test.YtnidmlngkpkmlaaQl
namespace Go.Proofs.YtnidmlngkpkmlaaQ
set_option linter.unusedVariables false
set_option linter.unusedSimpArgs false
open Go.RowKit Go.Proofs.YtnidmlngkpkmlaaK Go.Proofs.YtnidmlngkpkmlaaT

theorem kIt_dead (W0 : World) : ∀ w x cs, kIt.K W0 x cs → kIt.K w x cs := fun w x cs h => by rw [kIt_open h]; exact kIt_mk w x
set_option maxRecDepth 100000 in
set_option maxHeartbeats 600000 in
theorem Plays {B : Base} {w : World} (hS : St B [] w) (A : Option Addr) (cp : Nat) (l : List Law06Move) (hC : kLaw06Move.C B.e A l) :
    CallsIn Fence.wide 0 Try.prog 7 #[.slice A l.length cp] w (Ret B (fun _ : Unit => True) (fun _ => .bool true) (fun _ => [])) := by
  (refine enter Try.func7 rfl rfl hS ?_; simp only [List.zipIdx_cons, List.zipIdx_nil, List.map_cons, List.map_nil, Nat.reduceAdd, Nat.zero_add])
  refine wSeq ?_
  refine wRegion' ?_
  refine oAssign rfl ?_
  refine oNil ?_
  refine thn_n ?_
  refine wSeq ?_
  refine wSeq ?_
  refine wRegion' ?_
  refine oMove rfl ?_
  refine oLenS rfl rfl ?_
  refine oGtr rfl rfl ?_
  refine oNil ?_
  refine thn_n ?_
  first | refine wCond rfl (fun h17 => ?_) (fun h17 => ?_) | refine wCondB rfl (fun h17 => ?_) (fun h17 => ?_)
  ·
    refine wSeq ?_
    refine wRegion' ?_
    (refine oCall rfl (by kernel_rfl) (fun w hS => frame hS (by repeat' (first | exact Split.nil | exact Pick.here | apply Split.cons | apply Pick.there)) (fun B' hB hS' => known06 hS')) ?_; rintro ⟨⟩ -)
    refine oAssign rfl ?_
    refine oNil ?_
    refine thn_n ?_
    refine wRet ?_
    refine thn_r ?_
    refine fin_r ?_
    refine ⟨rfl, _, (ResL.cons (ResR.tmp rfl) ResL.nil), ?_⟩
    exact ⟨(), trivial, rfl, (Leads.has (by repeat' (first | exact Has.nil | exact Pick.here | apply Has.cons | apply Pick.there)))⟩
  ·
    refine wSkip ?_
    refine thn_n ?_
    refine wSeq ?_
    refine wRegion' ?_
    (refine oCall rfl (by kernel_rfl) (fun w hS => frame hS (by repeat' (first | exact Split.nil | exact Pick.here | apply Split.cons | apply Pick.there)) (fun B' hB hS' => queue_New hS')) ?_; rintro ⟨q, p, s0⟩ h0)
    dsimp only at h0
    refine oAssign rfl ?_
    refine oNil ?_
    refine thn_n ?_
    refine wSeq ?_
    refine wRegion' ?_
    refine oAssign rfl ?_
    refine oNil ?_
    refine thn_n ?_
    refine wSeq ?_
    refine wSeq ?_
    refine wRegion' ?_
    refine oAssign rfl ?_
    refine oNil ?_
    refine thn_n ?_
    refine wBlock ?_
    refine wLoop (ι := (Nat × Pile × List (Int × Int)) × (Option Addr × Nat) × (Nat → Prop)) (fun z => [(0, .slice A l.length cp), (3, ptrV q), (4, .slice z.2.1.1 z.1.2.2.length z.2.1.2), (5, .int .i64 (z.1.1 : Int))]) (fun z => queueR q p z.1.2.1 ++ [rdr B.e z.2.2 kIt z.2.1.1 z.1.2.2]) (fun z => z.1.1 ≤ l.length ∧ QOk z.1.2.1 z.1.2.2 ∧ z.1.2.2.length ≤ z.1.1 ∧ z.1.2.2.length ≤ z.2.1.2) (fun z => l.length - z.1.1) ((0, s0, []), (none, 0), fun _ => False) ?_ (by repeat (first | exact trivial | refine And.intro rfl ?_)) (rdr_nil.trans (Leads.has (by repeat' (first | exact Has.nil | exact Pick.here | apply Has.cons | apply Pick.there)))) ?_
    ·
      exact ⟨Nat.zero_le _, h0, Nat.le_refl _, Nat.le_refl _⟩
    ·
      rintro ⟨⟨i, s, W⟩, ⟨Aw, cw⟩, S⟩ ⟨hi, hq, hW, hcw⟩
      dsimp only at hi hq hW hcw
      dsimp only
      refine wSeq ?_
      refine wSeq ?_
      refine wRegion' ?_
      refine oMove rfl ?_
      refine oMove rfl ?_
      refine oLenS rfl rfl ?_
      refine oLss rfl rfl ?_
      refine oNil ?_
      refine thn_n ?_
      first | refine wCond rfl (fun h23 => ?_) (fun h23 => ?_) | refine wCondB rfl (fun h23 => ?_) (fun h23 => ?_)
      ·
        refine wSkip ?_
        refine thn_n ?_
        refine wSeq ?_
        refine wBlock ?_
        refine wSeq ?_
        refine wRegion' ?_
        refine oMove rfl ?_
        refine oMove rfl ?_
        refine oIdx rfl rfl (hC) rfl (by omega) rfl rfl (fun e28 u28 cs28 hu28 hk28 hc28 => ?_)
        obtain rfl := kLaw06Move_open hk28
        first | refine oLdX rfl hc28 rfl rfl ?_ | refine oLdXA rfl hc28 rfl (by repeat (first | exact SubL.done | apply SubL.take | apply SubL.drop)) ?_ | (refine oLdR1 rfl (by repeat (first | exact Pick.here | apply Pick.there)) (by omega) rfl (fun u29 hu29 => ?_))
        refine oAlloc rfl (by first | exact CellsOf.agg | exact CellsOf.one rfl) (fun b6 => ?_)
        refine oStA rfl rfl rfl rfl (by repeat (first | exact Pick.here | apply Pick.there)) (by rfl) ?_
        refine oNil ?_
        refine thn_n ?_
        refine wSeq ?_
        refine wRegion' ?_
        refine oMove rfl ?_
        refine oFld (n := 1) (m := 1) rfl rfl rfl ?_
        refine oLd rfl (by repeat (first | exact Pick.here | apply Pick.there)) rfl rfl ?_
        (refine oCall rfl (by kernel_rfl) (fun w hS => frame' hS .nil (fun B' hB hR hS' => ref_At hS' Aw cw W (rdr_C (hR _ _ (by repeat (first | exact Pick.here | apply Pick.there))) hB) _)) ?_; rintro ⟨⟩ -)
        refine oAssign rfl ?_
        refine oNil ?_
        refine thn_n ?_
        refine wSeq ?_
        refine wRegion' ?_
        refine oMove rfl ?_
        refine oFld (n := 1) (m := 1) rfl rfl rfl ?_
        refine oLd rfl (by repeat (first | exact Pick.here | apply Pick.there)) rfl rfl ?_
        (refine oCall rfl (by kernel_rfl) (fun w hS => frame hS (by repeat' (first | exact Split.nil | exact Pick.here | apply Split.cons | apply Pick.there)) (fun B' hB hS' => queue_Key (p := p) (s := s) hS' hq _)) ?_; rintro ⟨⟩ -)
        refine oMove rfl ?_
        refine oExt rfl (by repeat (first | exact GetAt.here | apply GetAt.there)) ?_
        refine oExt rfl (by repeat (first | exact GetAt.here | apply GetAt.there)) ?_
        refine oAssign rfl ?_
        refine oAssign rfl ?_
        refine oNil ?_
        refine thn_n ?_
        refine wSeq ?_
        refine wSeq ?_
        refine wRegion' ?_
        refine oMove rfl ?_
        refine oMove rfl ?_
        refine oGeq rfl rfl ?_
        refine oNeqBool rfl rfl rfl ?_
        refine oSet (t := 44) (v' := .bool false) rfl (by rw [show decide (0 ≤ qat W u28.fID) = _ from qat_ge]; simp) ?_
        refine oMove rfl ?_
        refine oWant rfl rfl ?_
        refine oMove rfl ?_
        refine oWant rfl rfl ?_
        refine oMove rfl ?_
        first | refine oSplit (t := 47) rfl (fun h47 => ?_) (fun h47 => ?_) | refine oSplitB (t := 47) rfl (fun h47 => ?_) (fun h47 => ?_)
        ·
          obtain ⟨i7, x7, e7, hx7, hk7⟩ := qat_has h47
          have hi7 := (List.getElem?_eq_some_iff.1 hx7).1
          refine oWant rfl rfl ?_
          refine oMove rfl ?_
          refine oWant rfl rfl ?_
          refine oMove rfl ?_
          refine oWant rfl rfl ?_
          refine oMove rfl ?_
          refine oSet (t := 50) (v' := .int .i64 (i7 : Int)) rfl (by rw [e7]) ?_
          refine oWant rfl rfl ?_
          refine oIdxD rfl rfl (by repeat (first | exact Pick.here | apply Pick.there)) (by first | rfl | (simp only [List.length_map]; done)) (by omega) rfl rfl (fun g51 hg51 => ?_)
          refine oWant rfl rfl ?_
          first | refine oFldX (n := 1) (m := 1) rfl rfl rfl ?_ | refine oFldR (n := 1) (m := 1) rfl rfl rfl ?_ | refine oFldD (n := 1) (m := 1) rfl rfl rfl ?_
          refine oWant rfl rfl ?_
          refine oLdD rfl (by repeat (first | exact Pick.here | apply Pick.there)) hg51 (by omega) rfl rfl (fun u53 cs53 hu53 hk53 => ?_)
          obtain ⟨w53, hk53⟩ := hk53
          obtain rfl := kIt_open hk53
          refine ⟨_, rfl, ?_⟩
          refine oWant rfl rfl ?_
          refine oNeq rfl rfl ?_
          refine oSet (t := 54) (v' := .bool false) rfl (by obtain rfl := Option.some.inj (hu53.symm.trans hx7); rw [if_pos h47, hk7]; simp) ?_
          refine oWant rfl rfl ?_
          refine oPickT rfl rfl ?_
          refine oPickF rfl rfl ?_
          refine oMove rfl ?_
          refine oWant rfl rfl ?_
          refine oMove rfl ?_
          refine oWant rfl rfl ?_
          first | refine oNot rfl ?_ | refine oNotB rfl ?_
          refine oWant rfl rfl ?_
          refine oMove rfl ?_
          first | refine oSplit (t := 60) rfl (fun h60 => ?_) (fun h60 => ?_) | refine oSplitB (t := 60) rfl (fun h60 => ?_) (fun h60 => ?_)
          ·
            simp [h47] at h60
          ·
            refine oSkip rfl rfl rfl rfl ?_
            refine oSkip rfl rfl rfl rfl ?_
            refine oWant rfl rfl ?_
            refine oPickF rfl rfl ?_
            refine oPickF rfl rfl ?_
            refine oNil ?_
            refine thn_n ?_
            refine wCondF rfl ?_
            refine wSkip ?_
            refine thn_n ?_
            refine wSeq ?_
            refine wRegion' ?_
            refine oAssign rfl ?_
            refine oNil ?_
            refine thn_n ?_
            refine wSeq ?_
            refine wRegion' ?_
            refine oAssign rfl ?_
            refine oNil ?_
            refine thn_n ?_
            refine wSeq ?_
            refine wSeq ?_
            refine wRegion' ?_
            refine oFld (n := 0) (m := 0) rfl rfl rfl ?_
            refine oLd rfl (by repeat (first | exact Pick.here | apply Pick.there)) rfl rfl ?_
            refine oNil ?_
            refine thn_n ?_
            refine wBlock ?_
            refine wSeq ?_
            refine wRegion' ?_
            refine oEql rfl rfl ?_
            refine oAssign rfl ?_
            refine oNil ?_
            refine thn_n ?_
            first | refine wCond rfl (fun h78 => ?_) (fun h78 => ?_) | refine wCondB rfl (fun h78 => ?_) (fun h78 => ?_)
            ·
              refine wSeq ?_
              refine wRegion' ?_
              refine oMove rfl ?_
              refine oFld (n := 1) (m := 1) rfl rfl rfl ?_
              refine oLd rfl (by repeat (first | exact Pick.here | apply Pick.there)) rfl rfl ?_
              refine oFld (n := 2) (m := 2) rfl rfl rfl ?_
              refine oLd rfl (by repeat (first | exact Pick.here | apply Pick.there)) rfl rfl ?_
              (refine oCall rfl (by kernel_rfl) (fun w hS => frame hS (by repeat' (first | exact Split.nil | exact Pick.here | apply Split.cons | apply Pick.there)) (fun B' hB hS' => queue_Put (p := p) (s := s) hS' hq _ _ (by omega))) ?_; rintro s1 h1)
              replace h1 : QOk s1 W := by rw [if_pos h47] at h1; exact h1
              refine oAssign rfl ?_
              refine oNil ?_
              refine thn_n ?_
              refine wRegion' ?_
              refine oMove rfl ?_
              refine oFld (n := 1) (m := 1) rfl rfl rfl ?_
              refine oLd rfl (by repeat (first | exact Pick.here | apply Pick.there)) rfl rfl ?_
              refine oFld (n := 2) (m := 2) rfl rfl rfl ?_
              refine oLd rfl (by repeat (first | exact Pick.here | apply Pick.there)) rfl rfl ?_
              (refine oCall rfl (by kernel_rfl) (fun w hS => frame' hS .nil (fun B' hB hR hS' => ref_PutT hS' Aw cw W (rdr_C (hR _ _ (by repeat (first | exact Pick.here | apply Pick.there))) hB) _ _ h47)) ?_; rintro ⟨⟩ -)
              refine oMove rfl ?_
              refine oExt rfl (by repeat (first | exact GetAt.here | apply GetAt.there)) ?_
              refine oExt rfl (by repeat (first | exact GetAt.here | apply GetAt.there)) ?_
              refine oAssign rfl ?_
              refine oAssign rfl ?_
              refine oNil ?_
              refine blk_n ?_
              refine thn_n ?_
              refine wSeq ?_
              refine wRegion' ?_
              refine oMove rfl ?_
              refine oMove rfl ?_
              refine oNeqBool rfl rfl rfl ?_
              refine oSet (t := 141) (v' := .bool false) rfl (by first | rfl | (simp [hd3]; done) | simp_all) ?_
              refine oMove rfl ?_
              refine oWant rfl rfl ?_
              refine oMove rfl ?_
              refine oWant rfl rfl ?_
              (refine oCall rfl (by kernel_rfl) (fun w hS => frame hS (by repeat' (first | exact Split.nil | exact Pick.here | apply Split.cons | apply Pick.there)) (fun B' hB hS' => queue_Len (p := p) (s := s1) hS' h1)) ?_; rintro ⟨⟩ -)
              refine oWant rfl rfl ?_
              refine oMove rfl ?_
              refine oWant rfl rfl ?_
              refine oLenS rfl rfl ?_
              refine oWant rfl rfl ?_
              refine oNeq rfl rfl ?_
              refine oSet (t := 147) (v' := .bool false) rfl (by first | rfl | (simp [qins_len]; done)) ?_
              refine oPickF rfl rfl ?_
              refine oNil ?_
              refine thn_n ?_
              refine wCondF rfl ?_
              refine wSkip ?_
              refine blk_n ?_
              refine thn_n ?_
              refine wRegion' ?_
              refine oMove rfl ?_
              refine oSucc rfl rfl (by omega) ?_
              refine oAssign rfl ?_
              refine oNil ?_
              refine thn_n ?_
              exact ⟨rfl, ((i + 1, s1, W), (Aw, cw), S), ⟨by show i + 1 ≤ _; omega, h1, by show W.length ≤ i + 1; omega, hcw⟩, by show l.length - (i + 1) < l.length - i; omega, (by repeat (first | exact trivial | refine And.intro rfl ?_)), (Leads.has (by repeat' (first | exact Has.nil | exact Pick.here | apply Has.cons | apply Pick.there)))⟩
            ·
              refine wSeq ?_
              refine wRegion' ?_
              refine oEql rfl rfl ?_
              refine oAssign rfl ?_
              refine oNil ?_
              refine thn_n ?_
              first | refine wCond rfl (fun h95 => ?_) (fun h95 => ?_) | refine wCondB rfl (fun h95 => ?_) (fun h95 => ?_)
              ·
                refine wSeq ?_
                refine wRegion' ?_
                refine oMove rfl ?_
                (refine oCall rfl (by kernel_rfl) (fun w hS => frame hS (by repeat' (first | exact Split.nil | exact Pick.here | apply Split.cons | apply Pick.there)) (fun B' hB hS' => queue_Take (p := p) (s := s) hS' hq)) ?_; rintro s1 h1)
                refine oMove rfl ?_
                refine oExt rfl (by repeat (first | exact GetAt.here | apply GetAt.there)) ?_
                refine oExt rfl (by repeat (first | exact GetAt.here | apply GetAt.there)) ?_
                refine oExt rfl (by repeat (first | exact GetAt.here | apply GetAt.there)) ?_
                refine oAssign rfl ?_
                refine oAssign rfl ?_
                refine oAssign rfl ?_
                refine oNil ?_
                refine thn_n ?_
                refine wSeq ?_
                refine wRegion' ?_
                refine oMove rfl ?_
                refine oAssign rfl ?_
                refine oNil ?_
                refine thn_n ?_
                refine wSeq ?_
                refine wRegion' ?_
                refine oMove rfl ?_
                refine oLenS rfl rfl ?_
                refine oGtr rfl rfl ?_
                refine oAssign rfl ?_
                refine oNil ?_
                refine thn_n ?_
                refine wSeq ?_
                refine wSeq ?_
                refine wRegion' ?_
                refine oMove rfl ?_
                refine oMove rfl ?_
                first | refine oSplit (t := 108) rfl (fun h108 => ?_) (fun h108 => ?_) | refine oSplitB (t := 108) rfl (fun h108 => ?_) (fun h108 => ?_)
                ·
                  obtain ⟨x, Wt, rfl⟩ : ∃ x Wt, W = x :: Wt := by cases W with | nil => simp at h108 | cons x Wt => exact ⟨x, Wt, rfl⟩
                  replace h1 : QOk s1 Wt := h1
                  refine oWant rfl rfl ?_
                  refine oMove rfl ?_
                  refine oWant rfl rfl ?_
                  refine oMove rfl ?_
                  refine oWant rfl rfl ?_
                  refine oIdxD rfl rfl (by repeat (first | exact Pick.here | apply Pick.there)) (by first | rfl | (simp only [List.length_map]; done)) (by simp) rfl rfl (fun g111 hg111 => ?_)
                  refine oWant rfl rfl ?_
                  first | refine oFldX (n := 0) (m := 0) rfl rfl rfl ?_ | refine oFldR (n := 0) (m := 0) rfl rfl rfl ?_ | refine oFldD (n := 0) (m := 0) rfl rfl rfl ?_
                  refine oWant rfl rfl ?_
                  refine oLdD rfl (by repeat (first | exact Pick.here | apply Pick.there)) hg111 (by simp) rfl rfl (fun u113 cs113 hu113 hk113 => ?_)
                  obtain ⟨w113, hk113⟩ := hk113
                  obtain rfl := kIt_open hk113
                  refine ⟨_, rfl, ?_⟩
                  obtain rfl := Option.some.inj (show some x = some u113 from hu113)
                  refine oWant rfl rfl ?_
                  refine oNeq rfl rfl ?_
                  refine oSet (t := 114) (v' := .bool false) rfl (by simp [hd1]) ?_
                  refine oWant rfl rfl ?_
                  refine oMove rfl ?_
                  refine oWant rfl rfl ?_
                  refine oMove rfl ?_
                  refine oWant rfl rfl ?_
                  refine oMove rfl ?_
                  refine oWant rfl rfl ?_
                  refine oIdxD rfl rfl (by repeat (first | exact Pick.here | apply Pick.there)) (by first | rfl | (simp only [List.length_map]; done)) (by simp) rfl rfl (fun g118 hg118 => ?_)
                  refine oWant rfl rfl ?_
                  first | refine oFldX (n := 1) (m := 1) rfl rfl rfl ?_ | refine oFldR (n := 1) (m := 1) rfl rfl rfl ?_ | refine oFldD (n := 1) (m := 1) rfl rfl rfl ?_
                  refine oWant rfl rfl ?_
                  refine oLdD rfl (by repeat (first | exact Pick.here | apply Pick.there)) hg118 (by simp) rfl rfl (fun u120 cs120 hu120 hk120 => ?_)
                  obtain ⟨w120, hk120⟩ := hk120
                  obtain rfl := kIt_open hk120
                  refine ⟨_, rfl, ?_⟩
                  obtain rfl := Option.some.inj (show some x = some u120 from hu120)
                  refine oWant rfl rfl ?_
                  refine oNeq rfl rfl ?_
                  refine oSet (t := 121) (v' := .bool false) rfl (by simp [hd2]) ?_
                  refine oWant rfl rfl ?_
                  refine oPickF rfl rfl ?_
                  refine oPickT rfl rfl ?_
                  refine oMove rfl ?_
                  refine oWant rfl rfl ?_
                  refine oMove rfl ?_
                  refine oWant rfl rfl ?_
                  first | refine oNot rfl ?_ | refine oNotB rfl ?_
                  refine oWant rfl rfl ?_
                  refine oMove rfl ?_
                  first | refine oSplit (t := 127) rfl (fun h127 => ?_) (fun h127 => ?_) | refine oSplitB (t := 127) rfl (fun h127 => ?_) (fun h127 => ?_)
                  ·
                    exact absurd h108 h127
                  ·
                    refine oSkip rfl rfl rfl rfl ?_
                    refine oSkip rfl rfl rfl rfl ?_
                    refine oSkip rfl rfl rfl rfl ?_
                    refine oSkipU rfl rfl rfl ?_
                    refine oSkipU rfl rfl rfl ?_
                    refine oSkip rfl rfl rfl rfl ?_
                    refine oWant rfl rfl ?_
                    refine oPickF rfl rfl ?_
                    refine oPickF rfl rfl ?_
                    refine oNil ?_
                    refine thn_n ?_
                    refine wCondF rfl ?_
                    refine wSkip ?_
                    refine thn_n ?_
                    refine wSeq ?_
                    refine wRegion' ?_
                    refine oMove rfl ?_
                    refine oNil ?_
                    refine thn_n ?_
                    first | refine wCond rfl (fun h136 => ?_) (fun h136 => ?_) | refine wCondB rfl (fun h136 => ?_) (fun h136 => ?_)
                    ·
                      refine wRegion' ?_
                      refine oMove rfl ?_
                      refine oSliceFrom (m := 1) rfl rfl (by repeat (first | exact Pick.here | apply Pick.there)) rfl (by simp) hcw rfl rfl (fun A1 c1 hc1 => ?_)
                      refine oSet (t := 138) (v' := .slice A1 Wt.length c1) rfl rfl ?_
                      refine oAssign rfl ?_
                      refine oNil ?_
                      refine blk_n ?_
                      refine thn_n ?_
                      refine wSeq ?_
                      refine wRegion' ?_
                      refine oMove rfl ?_
                      refine oMove rfl ?_
                      refine oNeqBool rfl rfl rfl ?_
                      refine oSet (t := 141) (v' := .bool false) rfl (by first | rfl | (simp [hd3]; done) | simp_all) ?_
                      refine oMove rfl ?_
                      refine oWant rfl rfl ?_
                      refine oMove rfl ?_
                      refine oWant rfl rfl ?_
                      (refine oCall rfl (by kernel_rfl) (fun w hS => frame hS (by repeat' (first | exact Split.nil | exact Pick.here | apply Split.cons | apply Pick.there)) (fun B' hB hS' => queue_Len (p := p) (s := s1) hS' h1)) ?_; rintro ⟨⟩ -)
                      refine oWant rfl rfl ?_
                      refine oMove rfl ?_
                      refine oWant rfl rfl ?_
                      refine oLenS rfl rfl ?_
                      refine oWant rfl rfl ?_
                      refine oNeq rfl rfl ?_
                      refine oSet (t := 147) (v' := .bool false) rfl (by first | rfl | (simp [qins_len]; done)) ?_
                      refine oPickF rfl rfl ?_
                      refine oNil ?_
                      refine thn_n ?_
                      refine wCondF rfl ?_
                      refine wSkip ?_
                      refine blk_n ?_
                      refine thn_n ?_
                      refine wRegion' ?_
                      refine oMove rfl ?_
                      refine oSucc rfl rfl (by omega) ?_
                      refine oAssign rfl ?_
                      refine oNil ?_
                      refine thn_n ?_
                      exact ⟨rfl, ((i + 1, s1, Wt), (A1, c1), S), ⟨by show i + 1 ≤ _; omega, h1, by show Wt.length ≤ i + 1; rw [List.length_cons] at hW; omega, hc1⟩, by show l.length - (i + 1) < l.length - i; omega, (by repeat (first | exact trivial | refine And.intro rfl ?_)), (Leads.has (by repeat' (first | exact Has.nil | exact Pick.here | apply Has.cons | apply Pick.there)))⟩
                    ·
                      exact absurd h108 h136
                ·
                  obtain rfl : W = [] := by cases W with | nil => rfl | cons x Wt => simp at h108
                  replace h1 : QOk s1 [] := h1
                  refine oSkip rfl rfl rfl rfl ?_
                  refine oSkip rfl rfl rfl rfl ?_
                  refine oSkip rfl rfl rfl rfl ?_
                  refine oSkip rfl rfl rfl rfl ?_
                  refine oSkip rfl rfl rfl rfl ?_
                  refine oSkip rfl rfl rfl rfl ?_
                  refine oSkip rfl rfl rfl rfl ?_
                  refine oSkipU rfl rfl rfl ?_
                  refine oSkipU rfl rfl rfl ?_
                  refine oSkipU rfl rfl rfl ?_
                  refine oSkipU rfl rfl rfl ?_
                  refine oSkipU rfl rfl rfl ?_
                  refine oSkipU rfl rfl rfl ?_
                  refine oSkip rfl rfl rfl rfl ?_
                  refine oPickF rfl rfl ?_
                  refine oMove rfl ?_
                  refine oWant rfl rfl ?_
                  refine oMove rfl ?_
                  refine oWant rfl rfl ?_
                  first | refine oNot rfl ?_ | refine oNotB rfl ?_
                  refine oWant rfl rfl ?_
                  refine oMove rfl ?_
                  first | refine oSplit (t := 127) rfl (fun h127 => ?_) (fun h127 => ?_) | refine oSplitB (t := 127) rfl (fun h127 => ?_) (fun h127 => ?_)
                  ·
                    refine oWant rfl rfl ?_
                    refine oMove rfl ?_
                    refine oWant rfl rfl ?_
                    refine oNeq rfl rfl ?_
                    refine oSet (t := 129) (v' := .bool false) rfl rfl ?_
                    refine oWant rfl rfl ?_
                    refine oMove rfl ?_
                    refine oWant rfl rfl ?_
                    refine oMove rfl ?_
                    refine oWant rfl rfl ?_
                    refine oNeq rfl rfl ?_
                    refine oSet (t := 132) (v' := .bool false) rfl rfl ?_
                    refine oWant rfl rfl ?_
                    refine oPickF rfl rfl ?_
                    refine oWant rfl rfl ?_
                    refine oPickT rfl rfl ?_
                    refine oPickF rfl rfl ?_
                    refine oNil ?_
                    refine thn_n ?_
                    refine wCondF rfl ?_
                    refine wSkip ?_
                    refine thn_n ?_
                    refine wSeq ?_
                    refine wRegion' ?_
                    refine oMove rfl ?_
                    refine oNil ?_
                    refine thn_n ?_
                    first | refine wCond rfl (fun h136 => ?_) (fun h136 => ?_) | refine wCondB rfl (fun h136 => ?_) (fun h136 => ?_)
                    ·
                      exact absurd h136 h108
                    ·
                      refine wSkip ?_
                      refine blk_n ?_
                      refine thn_n ?_
                      refine wSeq ?_
                      refine wRegion' ?_
                      refine oMove rfl ?_
                      refine oMove rfl ?_
                      refine oNeqBool rfl rfl rfl ?_
                      refine oSet (t := 141) (v' := .bool false) rfl (by first | rfl | (simp [hd3]; done) | simp_all) ?_
                      refine oMove rfl ?_
                      refine oWant rfl rfl ?_
                      refine oMove rfl ?_
                      refine oWant rfl rfl ?_
                      (refine oCall rfl (by kernel_rfl) (fun w hS => frame hS (by repeat' (first | exact Split.nil | exact Pick.here | apply Split.cons | apply Pick.there)) (fun B' hB hS' => queue_Len (p := p) (s := s1) hS' h1)) ?_; rintro ⟨⟩ -)
                      refine oWant rfl rfl ?_
                      refine oMove rfl ?_
                      refine oWant rfl rfl ?_
                      refine oLenS rfl rfl ?_
                      refine oWant rfl rfl ?_
                      refine oNeq rfl rfl ?_
                      refine oSet (t := 147) (v' := .bool false) rfl (by first | rfl | (simp [qins_len]; done)) ?_
                      refine oPickF rfl rfl ?_
                      refine oNil ?_
                      refine thn_n ?_
                      refine wCondF rfl ?_
                      refine wSkip ?_
                      refine blk_n ?_
                      refine thn_n ?_
                      refine wRegion' ?_
                      refine oMove rfl ?_
                      refine oSucc rfl rfl (by omega) ?_
                      refine oAssign rfl ?_
                      refine oNil ?_
                      refine thn_n ?_
                      exact ⟨rfl, ((i + 1, s1, []), (Aw, cw), S), ⟨by show i + 1 ≤ _; omega, h1, Nat.zero_le _, Nat.zero_le _⟩, by show l.length - (i + 1) < l.length - i; omega, (by repeat (first | exact trivial | refine And.intro rfl ?_)), (Leads.has (by repeat' (first | exact Has.nil | exact Pick.here | apply Has.cons | apply Pick.there)))⟩
                  ·
                    exact absurd h108 h127
              ·
                refine wSeq ?_
                refine wRegion' ?_
                refine oMove rfl ?_
                refine oFld (n := 1) (m := 1) rfl rfl rfl ?_
                refine oLd rfl (by repeat (first | exact Pick.here | apply Pick.there)) rfl rfl ?_
                (refine oCall rfl (by kernel_rfl) (fun w hS => frame hS (by repeat' (first | exact Split.nil | exact Pick.here | apply Split.cons | apply Pick.there)) (fun B' hB hS' => queue_Drop (p := p) (s := s) hS' hq _)) ?_; rintro s1 h1)
                refine oAssign rfl ?_
                refine oNil ?_
                refine thn_n ?_
                refine wRegion' ?_
                refine oMove rfl ?_
                refine oFld (n := 1) (m := 1) rfl rfl rfl ?_
                refine oLd rfl (by repeat (first | exact Pick.here | apply Pick.there)) rfl rfl ?_
                (refine oCall rfl (by kernel_rfl) (fun w hS => frame' hS .nil (fun B' hB hR hS' => ref_Drop hS' Aw cw W (rdr_C (hR _ _ (by repeat (first | exact Pick.here | apply Pick.there))) hB) _ (by omega))) ?_; rintro ⟨A1, c1⟩ hc1)
                dsimp only at hc1 ⊢
                refine oMove rfl ?_
                refine oExt rfl (by repeat (first | exact GetAt.here | apply GetAt.there)) ?_
                refine oExt rfl (by repeat (first | exact GetAt.here | apply GetAt.there)) ?_
                refine oAssign rfl ?_
                refine oAssign rfl ?_
                refine oNil ?_
                refine blk_n ?_
                refine thn_n ?_
                refine wSeq ?_
                refine wRegion' ?_
                refine oMove rfl ?_
                refine oMove rfl ?_
                refine oNeqBool rfl rfl rfl ?_
                refine oSet (t := 141) (v' := .bool false) rfl (by first | rfl | (simp [hd3]; done) | simp_all) ?_
                refine oMove rfl ?_
                refine oWant rfl rfl ?_
                refine oMove rfl ?_
                refine oWant rfl rfl ?_
                (refine oCall rfl (by kernel_rfl) (fun w hS => frame hS (by repeat' (first | exact Split.nil | exact Pick.here | apply Split.cons | apply Pick.there)) (fun B' hB hS' => queue_Len (p := p) (s := s1) hS' h1)) ?_; rintro ⟨⟩ -)
                refine oWant rfl rfl ?_
                refine oMove rfl ?_
                refine oWant rfl rfl ?_
                refine oLenS rfl rfl ?_
                refine oWant rfl rfl ?_
                refine oNeq rfl rfl ?_
                refine oSet (t := 147) (v' := .bool false) rfl (by first | rfl | (simp [qins_len]; done)) ?_
                refine oPickF rfl rfl ?_
                refine oNil ?_
                refine thn_n ?_
                refine wCondF rfl ?_
                refine wSkip ?_
                refine blk_n ?_
                refine thn_n ?_
                refine wRegion' ?_
                refine oMove rfl ?_
                refine oSucc rfl rfl (by omega) ?_
                refine oAssign rfl ?_
                refine oNil ?_
                refine thn_n ?_
                exact ⟨rfl, ((i + 1, s1, qdel W u28.fID), (A1, c1), fun k => (Value.slice A1 (qdel W u28.fID).length c1).ownBlock = some k), ⟨by show i + 1 ≤ _; omega, h1, by show (qdel W u28.fID).length ≤ i + 1; have := qdel_le W u28.fID; omega, hc1⟩, by show l.length - (i + 1) < l.length - i; omega, (by repeat (first | exact trivial | refine And.intro rfl ?_)), Leads.trans (row_rdr (kd := kIt) (W0 := default) (W := B.e) (e := 59) (A := A1) (n := (qdel W u28.fID).length) (cp := c1) (xs := qdel W u28.fID) (by repeat (first | exact Pick.here | apply Pick.there)) (kIt_dead _)) (Leads.has (by repeat' (first | exact Has.nil | exact Pick.here | apply Has.cons | apply Pick.there)))⟩
        ·
          refine oSkip rfl rfl rfl rfl ?_
          refine oSkip rfl rfl rfl rfl ?_
          refine oSkip rfl rfl rfl rfl ?_
          refine oSkip rfl rfl rfl rfl ?_
          refine oSkip rfl rfl rfl rfl ?_
          refine oSkip rfl rfl rfl rfl ?_
          refine oSkip rfl rfl rfl rfl ?_
          refine oWant rfl rfl ?_
          refine oPickF rfl rfl ?_
          refine oPickF rfl rfl ?_
          refine oMove rfl ?_
          refine oWant rfl rfl ?_
          refine oMove rfl ?_
          refine oWant rfl rfl ?_
          first | refine oNot rfl ?_ | refine oNotB rfl ?_
          refine oWant rfl rfl ?_
          refine oMove rfl ?_
          first | refine oSplit (t := 60) rfl (fun h60 => ?_) (fun h60 => ?_) | refine oSplitB (t := 60) rfl (fun h60 => ?_) (fun h60 => ?_)
          ·
            refine oWant rfl rfl ?_
            refine oMove rfl ?_
            refine oWant rfl rfl ?_
            refine oNeq rfl rfl ?_
            refine oSet (t := 62) (v' := .bool false) rfl (by rw [if_neg (by simp [h47])]; rfl) ?_
            refine oWant rfl rfl ?_
            refine oPickT rfl rfl ?_
            refine oPickF rfl rfl ?_
            refine oNil ?_
            refine thn_n ?_
            refine wCondF rfl ?_
            refine wSkip ?_
            refine thn_n ?_
            refine wSeq ?_
            refine wRegion' ?_
            refine oAssign rfl ?_
            refine oNil ?_
            refine thn_n ?_
            refine wSeq ?_
            refine wRegion' ?_
            refine oAssign rfl ?_
            refine oNil ?_
            refine thn_n ?_
            refine wSeq ?_
            refine wSeq ?_
            refine wRegion' ?_
            refine oFld (n := 0) (m := 0) rfl rfl rfl ?_
            refine oLd rfl (by repeat (first | exact Pick.here | apply Pick.there)) rfl rfl ?_
            refine oNil ?_
            refine thn_n ?_
            refine wBlock ?_
            refine wSeq ?_
            refine wRegion' ?_
            refine oEql rfl rfl ?_
            refine oAssign rfl ?_
            refine oNil ?_
            refine thn_n ?_
            first | refine wCond rfl (fun h78 => ?_) (fun h78 => ?_) | refine wCondB rfl (fun h78 => ?_) (fun h78 => ?_)
            ·
              refine wSeq ?_
              refine wRegion' ?_
              refine oMove rfl ?_
              refine oFld (n := 1) (m := 1) rfl rfl rfl ?_
              refine oLd rfl (by repeat (first | exact Pick.here | apply Pick.there)) rfl rfl ?_
              refine oFld (n := 2) (m := 2) rfl rfl rfl ?_
              refine oLd rfl (by repeat (first | exact Pick.here | apply Pick.there)) rfl rfl ?_
              (refine oCall rfl (by kernel_rfl) (fun w hS => frame hS (by repeat' (first | exact Split.nil | exact Pick.here | apply Split.cons | apply Pick.there)) (fun B' hB hS' => queue_Put (p := p) (s := s) hS' hq _ _ (by omega))) ?_; rintro s1 h1)
              have h47' : qhas W u28.fID = false := h47
              replace h1 : QOk s1 (qins (u28.fID, u28.fKey) W) := by rw [if_neg (by simp [h47'])] at h1; exact h1
              refine oAssign rfl ?_
              refine oNil ?_
              refine thn_n ?_
              refine wRegion' ?_
              refine oMove rfl ?_
              refine oFld (n := 1) (m := 1) rfl rfl rfl ?_
              refine oLd rfl (by repeat (first | exact Pick.here | apply Pick.there)) rfl rfl ?_
              refine oFld (n := 2) (m := 2) rfl rfl rfl ?_
              refine oLd rfl (by repeat (first | exact Pick.here | apply Pick.there)) rfl rfl ?_
              (refine oCall rfl (by kernel_rfl) (fun w hS => frame' hS .nil (fun B' hB hR hS' => ref_PutF hS' Aw cw W (rdr_C (hR _ _ (by repeat (first | exact Pick.here | apply Pick.there))) hB) _ _ h47' (by omega))) ?_; rintro ⟨A1, c1⟩ hc1)
              dsimp only at hc1 ⊢
              refine oMove rfl ?_
              refine oExt rfl (by repeat (first | exact GetAt.here | apply GetAt.there)) ?_
              refine oExt rfl (by repeat (first | exact GetAt.here | apply GetAt.there)) ?_
              refine oAssign rfl ?_
              refine oAssign rfl ?_
              refine oNil ?_
              refine blk_n ?_
              refine thn_n ?_
              refine wSeq ?_
              refine wRegion' ?_
              refine oMove rfl ?_
              refine oMove rfl ?_
              refine oNeqBool rfl rfl rfl ?_
              refine oSet (t := 141) (v' := .bool false) rfl (by first | rfl | (simp [hd3]; done) | simp_all) ?_
              refine oMove rfl ?_
              refine oWant rfl rfl ?_
              refine oMove rfl ?_
              refine oWant rfl rfl ?_
              (refine oCall rfl (by kernel_rfl) (fun w hS => frame hS (by repeat' (first | exact Split.nil | exact Pick.here | apply Split.cons | apply Pick.there)) (fun B' hB hS' => queue_Len (p := p) (s := s1) hS' h1)) ?_; rintro ⟨⟩ -)
              refine oWant rfl rfl ?_
              refine oMove rfl ?_
              refine oWant rfl rfl ?_
              refine oLenS rfl rfl ?_
              refine oWant rfl rfl ?_
              refine oNeq rfl rfl ?_
              refine oSet (t := 147) (v' := .bool false) rfl (by first | rfl | (simp [qins_len]; done)) ?_
              refine oPickF rfl rfl ?_
              refine oNil ?_
              refine thn_n ?_
              refine wCondF rfl ?_
              refine wSkip ?_
              refine blk_n ?_
              refine thn_n ?_
              refine wRegion' ?_
              refine oMove rfl ?_
              refine oSucc rfl rfl (by omega) ?_
              refine oAssign rfl ?_
              refine oNil ?_
              refine thn_n ?_
              refine ⟨rfl, ((i + 1, s1, qins (u28.fID, u28.fKey) W), (A1, c1), fun k => (Value.slice A1 (W.length + 1) c1).ownBlock = some k), ⟨by show i + 1 ≤ _; omega, h1, by show (qins _ W).length ≤ i + 1; rw [qins_len]; omega, by show (qins _ W).length ≤ c1; rw [qins_len]; exact hc1⟩, by show l.length - (i + 1) < l.length - i; omega, ?_, Leads.trans (row_rdr (kd := kIt) (W0 := default) (W := B.e) (e := 59) (A := A1) (n := W.length + 1) (cp := c1) (xs := qins (u28.fID, u28.fKey) W) (by repeat (first | exact Pick.here | apply Pick.there)) (kIt_dead _)) (Leads.has (by repeat' (first | exact Has.nil | exact Pick.here | apply Has.cons | apply Pick.there)))⟩
              simp only [qins_len]; exact (by repeat (first | exact trivial | refine And.intro rfl ?_))
            ·
              refine wSeq ?_
              refine wRegion' ?_
              refine oEql rfl rfl ?_
              refine oAssign rfl ?_
              refine oNil ?_
              refine thn_n ?_
              first | refine wCond rfl (fun h95 => ?_) (fun h95 => ?_) | refine wCondB rfl (fun h95 => ?_) (fun h95 => ?_)
              ·
                refine wSeq ?_
                refine wRegion' ?_
                refine oMove rfl ?_
                (refine oCall rfl (by kernel_rfl) (fun w hS => frame hS (by repeat' (first | exact Split.nil | exact Pick.here | apply Split.cons | apply Pick.there)) (fun B' hB hS' => queue_Take (p := p) (s := s) hS' hq)) ?_; rintro s1 h1)
                refine oMove rfl ?_
                refine oExt rfl (by repeat (first | exact GetAt.here | apply GetAt.there)) ?_
                refine oExt rfl (by repeat (first | exact GetAt.here | apply GetAt.there)) ?_
                refine oExt rfl (by repeat (first | exact GetAt.here | apply GetAt.there)) ?_
                refine oAssign rfl ?_
                refine oAssign rfl ?_
                refine oAssign rfl ?_
                refine oNil ?_
                refine thn_n ?_
                refine wSeq ?_
                refine wRegion' ?_
                refine oMove rfl ?_
                refine oAssign rfl ?_
                refine oNil ?_
                refine thn_n ?_
                refine wSeq ?_
                refine wRegion' ?_
                refine oMove rfl ?_
                refine oLenS rfl rfl ?_
                refine oGtr rfl rfl ?_
                refine oAssign rfl ?_
                refine oNil ?_
                refine thn_n ?_
                refine wSeq ?_
                refine wSeq ?_
                refine wRegion' ?_
                refine oMove rfl ?_
                refine oMove rfl ?_
                first | refine oSplit (t := 108) rfl (fun h108 => ?_) (fun h108 => ?_) | refine oSplitB (t := 108) rfl (fun h108 => ?_) (fun h108 => ?_)
                ·
                  obtain ⟨x, Wt, rfl⟩ : ∃ x Wt, W = x :: Wt := by cases W with | nil => simp at h108 | cons x Wt => exact ⟨x, Wt, rfl⟩
                  replace h1 : QOk s1 Wt := h1
                  refine oWant rfl rfl ?_
                  refine oMove rfl ?_
                  refine oWant rfl rfl ?_
                  refine oMove rfl ?_
                  refine oWant rfl rfl ?_
                  refine oIdxD rfl rfl (by repeat (first | exact Pick.here | apply Pick.there)) (by first | rfl | (simp only [List.length_map]; done)) (by simp) rfl rfl (fun g111 hg111 => ?_)
                  refine oWant rfl rfl ?_
                  first | refine oFldX (n := 0) (m := 0) rfl rfl rfl ?_ | refine oFldR (n := 0) (m := 0) rfl rfl rfl ?_ | refine oFldD (n := 0) (m := 0) rfl rfl rfl ?_
                  refine oWant rfl rfl ?_
                  refine oLdD rfl (by repeat (first | exact Pick.here | apply Pick.there)) hg111 (by simp) rfl rfl (fun u113 cs113 hu113 hk113 => ?_)
                  obtain ⟨w113, hk113⟩ := hk113
                  obtain rfl := kIt_open hk113
                  refine ⟨_, rfl, ?_⟩
                  obtain rfl := Option.some.inj (show some x = some u113 from hu113)
                  refine oWant rfl rfl ?_
                  refine oNeq rfl rfl ?_
                  refine oSet (t := 114) (v' := .bool false) rfl (by simp [hd1]) ?_
                  refine oWant rfl rfl ?_
                  refine oMove rfl ?_
                  refine oWant rfl rfl ?_
                  refine oMove rfl ?_
                  refine oWant rfl rfl ?_
                  refine oMove rfl ?_
                  refine oWant rfl rfl ?_
                  refine oIdxD rfl rfl (by repeat (first | exact Pick.here | apply Pick.there)) (by first | rfl | (simp only [List.length_map]; done)) (by simp) rfl rfl (fun g118 hg118 => ?_)
                  refine oWant rfl rfl ?_
                  first | refine oFldX (n := 1) (m := 1) rfl rfl rfl ?_ | refine oFldR (n := 1) (m := 1) rfl rfl rfl ?_ | refine oFldD (n := 1) (m := 1) rfl rfl rfl ?_
                  refine oWant rfl rfl ?_
                  refine oLdD rfl (by repeat (first | exact Pick.here | apply Pick.there)) hg118 (by simp) rfl rfl (fun u120 cs120 hu120 hk120 => ?_)
                  obtain ⟨w120, hk120⟩ := hk120
                  obtain rfl := kIt_open hk120
                  refine ⟨_, rfl, ?_⟩
                  obtain rfl := Option.some.inj (show some x = some u120 from hu120)
                  refine oWant rfl rfl ?_
                  refine oNeq rfl rfl ?_
                  refine oSet (t := 121) (v' := .bool false) rfl (by simp [hd2]) ?_
                  refine oWant rfl rfl ?_
                  refine oPickF rfl rfl ?_
                  refine oPickT rfl rfl ?_
                  refine oMove rfl ?_
                  refine oWant rfl rfl ?_
                  refine oMove rfl ?_
                  refine oWant rfl rfl ?_
                  first | refine oNot rfl ?_ | refine oNotB rfl ?_
                  refine oWant rfl rfl ?_
                  refine oMove rfl ?_
                  first | refine oSplit (t := 127) rfl (fun h127 => ?_) (fun h127 => ?_) | refine oSplitB (t := 127) rfl (fun h127 => ?_) (fun h127 => ?_)
                  ·
                    exact absurd h108 h127
                  ·
                    refine oSkip rfl rfl rfl rfl ?_
                    refine oSkip rfl rfl rfl rfl ?_
                    refine oSkip rfl rfl rfl rfl ?_
                    refine oSkipU rfl rfl rfl ?_
                    refine oSkipU rfl rfl rfl ?_
                    refine oSkip rfl rfl rfl rfl ?_
                    refine oWant rfl rfl ?_
                    refine oPickF rfl rfl ?_
                    refine oPickF rfl rfl ?_
                    refine oNil ?_
                    refine thn_n ?_
                    refine wCondF rfl ?_
                    refine wSkip ?_
                    refine thn_n ?_
                    refine wSeq ?_
                    refine wRegion' ?_
                    refine oMove rfl ?_
                    refine oNil ?_
                    refine thn_n ?_
                    first | refine wCond rfl (fun h136 => ?_) (fun h136 => ?_) | refine wCondB rfl (fun h136 => ?_) (fun h136 => ?_)
                    ·
                      refine wRegion' ?_
                      refine oMove rfl ?_
                      refine oSliceFrom (m := 1) rfl rfl (by repeat (first | exact Pick.here | apply Pick.there)) rfl (by simp) hcw rfl rfl (fun A1 c1 hc1 => ?_)
                      refine oSet (t := 138) (v' := .slice A1 Wt.length c1) rfl rfl ?_
                      refine oAssign rfl ?_
                      refine oNil ?_
                      refine blk_n ?_
                      refine thn_n ?_
                      refine wSeq ?_
                      refine wRegion' ?_
                      refine oMove rfl ?_
                      refine oMove rfl ?_
                      refine oNeqBool rfl rfl rfl ?_
                      refine oSet (t := 141) (v' := .bool false) rfl (by first | rfl | (simp [hd3]; done) | simp_all) ?_
                      refine oMove rfl ?_
                      refine oWant rfl rfl ?_
                      refine oMove rfl ?_
                      refine oWant rfl rfl ?_
                      (refine oCall rfl (by kernel_rfl) (fun w hS => frame hS (by repeat' (first | exact Split.nil | exact Pick.here | apply Split.cons | apply Pick.there)) (fun B' hB hS' => queue_Len (p := p) (s := s1) hS' h1)) ?_; rintro ⟨⟩ -)
                      refine oWant rfl rfl ?_
                      refine oMove rfl ?_
                      refine oWant rfl rfl ?_
                      refine oLenS rfl rfl ?_
                      refine oWant rfl rfl ?_
                      refine oNeq rfl rfl ?_
                      refine oSet (t := 147) (v' := .bool false) rfl (by first | rfl | (simp [qins_len]; done)) ?_
                      refine oPickF rfl rfl ?_
                      refine oNil ?_
                      refine thn_n ?_
                      refine wCondF rfl ?_
                      refine wSkip ?_
                      refine blk_n ?_
                      refine thn_n ?_
                      refine wRegion' ?_
                      refine oMove rfl ?_
                      refine oSucc rfl rfl (by omega) ?_
                      refine oAssign rfl ?_
                      refine oNil ?_
                      refine thn_n ?_
                      exact ⟨rfl, ((i + 1, s1, Wt), (A1, c1), S), ⟨by show i + 1 ≤ _; omega, h1, by show Wt.length ≤ i + 1; rw [List.length_cons] at hW; omega, hc1⟩, by show l.length - (i + 1) < l.length - i; omega, (by repeat (first | exact trivial | refine And.intro rfl ?_)), (Leads.has (by repeat' (first | exact Has.nil | exact Pick.here | apply Has.cons | apply Pick.there)))⟩
                    ·
                      exact absurd h108 h136
                ·
                  obtain rfl : W = [] := by cases W with | nil => rfl | cons x Wt => simp at h108
                  replace h1 : QOk s1 [] := h1
                  refine oSkip rfl rfl rfl rfl ?_
                  refine oSkip rfl rfl rfl rfl ?_
                  refine oSkip rfl rfl rfl rfl ?_
                  refine oSkip rfl rfl rfl rfl ?_
                  refine oSkip rfl rfl rfl rfl ?_
                  refine oSkip rfl rfl rfl rfl ?_
                  refine oSkip rfl rfl rfl rfl ?_
                  refine oSkipU rfl rfl rfl ?_
                  refine oSkipU rfl rfl rfl ?_
                  refine oSkipU rfl rfl rfl ?_
                  refine oSkipU rfl rfl rfl ?_
                  refine oSkipU rfl rfl rfl ?_
                  refine oSkipU rfl rfl rfl ?_
                  refine oSkip rfl rfl rfl rfl ?_
                  refine oPickF rfl rfl ?_
                  refine oMove rfl ?_
                  refine oWant rfl rfl ?_
                  refine oMove rfl ?_
                  refine oWant rfl rfl ?_
                  first | refine oNot rfl ?_ | refine oNotB rfl ?_
                  refine oWant rfl rfl ?_
                  refine oMove rfl ?_
                  first | refine oSplit (t := 127) rfl (fun h127 => ?_) (fun h127 => ?_) | refine oSplitB (t := 127) rfl (fun h127 => ?_) (fun h127 => ?_)
                  ·
                    refine oWant rfl rfl ?_
                    refine oMove rfl ?_
                    refine oWant rfl rfl ?_
                    refine oNeq rfl rfl ?_
                    refine oSet (t := 129) (v' := .bool false) rfl rfl ?_
                    refine oWant rfl rfl ?_
                    refine oMove rfl ?_
                    refine oWant rfl rfl ?_
                    refine oMove rfl ?_
                    refine oWant rfl rfl ?_
                    refine oNeq rfl rfl ?_
                    refine oSet (t := 132) (v' := .bool false) rfl rfl ?_
                    refine oWant rfl rfl ?_
                    refine oPickF rfl rfl ?_
                    refine oWant rfl rfl ?_
                    refine oPickT rfl rfl ?_
                    refine oPickF rfl rfl ?_
                    refine oNil ?_
                    refine thn_n ?_
                    refine wCondF rfl ?_
                    refine wSkip ?_
                    refine thn_n ?_
                    refine wSeq ?_
                    refine wRegion' ?_
                    refine oMove rfl ?_
                    refine oNil ?_
                    refine thn_n ?_
                    first | refine wCond rfl (fun h136 => ?_) (fun h136 => ?_) | refine wCondB rfl (fun h136 => ?_) (fun h136 => ?_)
                    ·
                      exact absurd h136 h108
                    ·
                      refine wSkip ?_
                      refine blk_n ?_
                      refine thn_n ?_
                      refine wSeq ?_
                      refine wRegion' ?_
                      refine oMove rfl ?_
                      refine oMove rfl ?_
                      refine oNeqBool rfl rfl rfl ?_
                      refine oSet (t := 141) (v' := .bool false) rfl (by first | rfl | (simp [hd3]; done) | simp_all) ?_
                      refine oMove rfl ?_
                      refine oWant rfl rfl ?_
                      refine oMove rfl ?_
                      refine oWant rfl rfl ?_
                      (refine oCall rfl (by kernel_rfl) (fun w hS => frame hS (by repeat' (first | exact Split.nil | exact Pick.here | apply Split.cons | apply Pick.there)) (fun B' hB hS' => queue_Len (p := p) (s := s1) hS' h1)) ?_; rintro ⟨⟩ -)
                      refine oWant rfl rfl ?_
                      refine oMove rfl ?_
                      refine oWant rfl rfl ?_
                      refine oLenS rfl rfl ?_
                      refine oWant rfl rfl ?_
                      refine oNeq rfl rfl ?_
                      refine oSet (t := 147) (v' := .bool false) rfl (by first | rfl | (simp [qins_len]; done)) ?_
                      refine oPickF rfl rfl ?_
                      refine oNil ?_
                      refine thn_n ?_
                      refine wCondF rfl ?_
                      refine wSkip ?_
                      refine blk_n ?_
                      refine thn_n ?_
                      refine wRegion' ?_
                      refine oMove rfl ?_
                      refine oSucc rfl rfl (by omega) ?_
                      refine oAssign rfl ?_
                      refine oNil ?_
                      refine thn_n ?_
                      exact ⟨rfl, ((i + 1, s1, []), (Aw, cw), S), ⟨by show i + 1 ≤ _; omega, h1, Nat.zero_le _, Nat.zero_le _⟩, by show l.length - (i + 1) < l.length - i; omega, (by repeat (first | exact trivial | refine And.intro rfl ?_)), (Leads.has (by repeat' (first | exact Has.nil | exact Pick.here | apply Has.cons | apply Pick.there)))⟩
                  ·
                    exact absurd h108 h127
              ·
                refine wSeq ?_
                refine wRegion' ?_
                refine oMove rfl ?_
                refine oFld (n := 1) (m := 1) rfl rfl rfl ?_
                refine oLd rfl (by repeat (first | exact Pick.here | apply Pick.there)) rfl rfl ?_
                (refine oCall rfl (by kernel_rfl) (fun w hS => frame hS (by repeat' (first | exact Split.nil | exact Pick.here | apply Split.cons | apply Pick.there)) (fun B' hB hS' => queue_Drop (p := p) (s := s) hS' hq _)) ?_; rintro s1 h1)
                refine oAssign rfl ?_
                refine oNil ?_
                refine thn_n ?_
                refine wRegion' ?_
                refine oMove rfl ?_
                refine oFld (n := 1) (m := 1) rfl rfl rfl ?_
                refine oLd rfl (by repeat (first | exact Pick.here | apply Pick.there)) rfl rfl ?_
                (refine oCall rfl (by kernel_rfl) (fun w hS => frame' hS .nil (fun B' hB hR hS' => ref_Drop hS' Aw cw W (rdr_C (hR _ _ (by repeat (first | exact Pick.here | apply Pick.there))) hB) _ (by omega))) ?_; rintro ⟨A1, c1⟩ hc1)
                dsimp only at hc1 ⊢
                refine oMove rfl ?_
                refine oExt rfl (by repeat (first | exact GetAt.here | apply GetAt.there)) ?_
                refine oExt rfl (by repeat (first | exact GetAt.here | apply GetAt.there)) ?_
                refine oAssign rfl ?_
                refine oAssign rfl ?_
                refine oNil ?_
                refine blk_n ?_
                refine thn_n ?_
                refine wSeq ?_
                refine wRegion' ?_
                refine oMove rfl ?_
                refine oMove rfl ?_
                refine oNeqBool rfl rfl rfl ?_
                refine oSet (t := 141) (v' := .bool false) rfl (by first | rfl | (simp [hd3]; done) | simp_all) ?_
                refine oMove rfl ?_
                refine oWant rfl rfl ?_
                refine oMove rfl ?_
                refine oWant rfl rfl ?_
                (refine oCall rfl (by kernel_rfl) (fun w hS => frame hS (by repeat' (first | exact Split.nil | exact Pick.here | apply Split.cons | apply Pick.there)) (fun B' hB hS' => queue_Len (p := p) (s := s1) hS' h1)) ?_; rintro ⟨⟩ -)
                refine oWant rfl rfl ?_
                refine oMove rfl ?_
                refine oWant rfl rfl ?_
                refine oLenS rfl rfl ?_
                refine oWant rfl rfl ?_
                refine oNeq rfl rfl ?_
                refine oSet (t := 147) (v' := .bool false) rfl (by first | rfl | (simp [qins_len]; done)) ?_
                refine oPickF rfl rfl ?_
                refine oNil ?_
                refine thn_n ?_
                refine wCondF rfl ?_
                refine wSkip ?_
                refine blk_n ?_
                refine thn_n ?_
                refine wRegion' ?_
                refine oMove rfl ?_
                refine oSucc rfl rfl (by omega) ?_
                refine oAssign rfl ?_
                refine oNil ?_
                refine thn_n ?_
                exact ⟨rfl, ((i + 1, s1, qdel W u28.fID), (A1, c1), fun k => (Value.slice A1 (qdel W u28.fID).length c1).ownBlock = some k), ⟨by show i + 1 ≤ _; omega, h1, by show (qdel W u28.fID).length ≤ i + 1; have := qdel_le W u28.fID; omega, hc1⟩, by show l.length - (i + 1) < l.length - i; omega, (by repeat (first | exact trivial | refine And.intro rfl ?_)), Leads.trans (row_rdr (kd := kIt) (W0 := default) (W := B.e) (e := 59) (A := A1) (n := (qdel W u28.fID).length) (cp := c1) (xs := qdel W u28.fID) (by repeat (first | exact Pick.here | apply Pick.there)) (kIt_dead _)) (Leads.has (by repeat' (first | exact Has.nil | exact Pick.here | apply Has.cons | apply Pick.there)))⟩
          ·
            simp [h47] at h60
      ·
        refine wExit ?_
        refine thn_x ?_
        refine thn_x ?_
        refine blk_x ?_
        refine thn_n ?_
        refine wSeq ?_
        refine wRegion' ?_
        (refine oCall rfl (by kernel_rfl) (fun w hS => frame hS (by repeat' (first | exact Split.nil | exact Pick.here | apply Split.cons | apply Pick.there)) (fun B' hB hS' => known06 hS')) ?_; rintro ⟨⟩ -)
        refine oAssign rfl ?_
        refine oNil ?_
        refine thn_n ?_
        refine wRet ?_
        refine fin_r ?_
        refine ⟨rfl, _, (ResL.cons (ResR.tmp rfl) ResL.nil), ?_⟩
        exact ⟨(), trivial, rfl, (Leads.has (by repeat' (first | exact Has.nil | exact Pick.here | apply Has.cons | apply Pick.there)))⟩
end Go.Proofs.YtnidmlngkpkmlaaQ
