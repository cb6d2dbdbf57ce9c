/-
  sheerleglaw06: known, and QueueNobody.
-/
import Derived.Test.YtnidmlngkpkmlaaQh
import Derived.Test.YtnidmlngkpkmlaaKt
namespace Go.Proofs.YtnidmlngkpkmlaaQ
set_option linter.unusedVariables false
set_option linter.unusedSimpArgs false
open Go.RowKit Go.Proofs.YtnidmlngkpkmlaaK Go.Proofs.YtnidmlngkpkmlaaT

set_option maxRecDepth 100000 in
theorem known06 {B : Base} {w : World} (hS : St B [] w) :
    CallsIn Fence.wide 0 Try.prog 23 #[] w (Ret B (fun _ : Unit => True) (fun _ => .bool true) (fun _ => [])) := by
  (refine enter Try.func23 rfl rfl hS ?_; simp only [List.zipIdx_cons, List.zipIdx_nil, List.map_cons, List.map_nil, Nat.reduceAdd, Nat.zero_add])
  refine wSeq ?_
  refine wRegion' ?_
  refine oAssign rfl ?_
  refine oNil ?_
  refine thn_n ?_
  refine wSeq ?_
  refine wRegion' ?_
  (refine oCall rfl (by kernel_rfl) (fun w hS => frame hS (by repeat' (first | exact Split.nil | exact Pick.here | apply Split.cons | apply Pick.there)) (fun B' hB hS' => queue_New hS')) ?_; rintro ⟨q, p, s0⟩ h0)
  dsimp only at h0
  refine oAssign rfl ?_
  refine oNil ?_
  refine thn_n ?_
  refine wSeq ?_
  refine wRegion' ?_
  refine oMove rfl ?_
  (refine oCall rfl (by kernel_rfl) (fun w hS => frame hS (by repeat' (first | exact Split.nil | exact Pick.here | apply Split.cons | apply Pick.there)) (fun B' hB hS' => queue_Put (p := p) (s := s0) hS' h0 3 9 (by decide))) ?_; rintro s1 h1)
  replace h1 : QOk s1 [(3, 9)] := h1
  refine oSet (t := 14) (v' := .bool true) rfl rfl ?_
  refine oAssign rfl ?_
  refine oNil ?_
  refine thn_n ?_
  refine wSeq ?_
  refine wRegion' ?_
  refine oMove rfl ?_
  (refine oCall rfl (by kernel_rfl) (fun w hS => frame hS (by repeat' (first | exact Split.nil | exact Pick.here | apply Split.cons | apply Pick.there)) (fun B' hB hS' => queue_Put (p := p) (s := s1) hS' h1 4 5 (by decide))) ?_; rintro s2 h2)
  replace h2 : QOk s2 [(4, 5), (3, 9)] := h2
  refine oSet (t := 16) (v' := .bool true) rfl rfl ?_
  refine oAssign rfl ?_
  refine oNil ?_
  refine thn_n ?_
  refine wSeq ?_
  refine wRegion' ?_
  refine oMove rfl ?_
  (refine oCall rfl (by kernel_rfl) (fun w hS => frame hS (by repeat' (first | exact Split.nil | exact Pick.here | apply Split.cons | apply Pick.there)) (fun B' hB hS' => queue_Put (p := p) (s := s2) hS' h2 1 9 (by decide))) ?_; rintro s3 h3)
  replace h3 : QOk s3 [(4, 5), (1, 9), (3, 9)] := h3
  refine oSet (t := 18) (v' := .bool true) rfl rfl ?_
  refine oAssign rfl ?_
  refine oNil ?_
  refine thn_n ?_
  refine wSeq ?_
  refine wRegion' ?_
  refine oMove rfl ?_
  (refine oCall rfl (by kernel_rfl) (fun w hS => frame hS (by repeat' (first | exact Split.nil | exact Pick.here | apply Split.cons | apply Pick.there)) (fun B' hB hS' => queue_Put (p := p) (s := s3) hS' h3 4 1 (by decide))) ?_; rintro s4 h4)
  replace h4 : QOk s4 [(4, 5), (1, 9), (3, 9)] := h4
  refine oSet (t := 20) (v' := .bool false) rfl rfl ?_
  refine oAssign rfl ?_
  refine oNil ?_
  refine thn_n ?_
  refine wSeq ?_
  refine wRegion' ?_
  refine oMove rfl ?_
  (refine oCall rfl (by kernel_rfl) (fun w hS => frame hS (by repeat' (first | exact Split.nil | exact Pick.here | apply Split.cons | apply Pick.there)) (fun B' hB hS' => queue_Take (p := p) (s := s4) hS' h4)) ?_; rintro s5 h5)
  replace h5 : QOk s5 [(1, 9), (3, 9)] := h5
  refine oMove rfl ?_
  refine oExt rfl (by repeat (first | exact GetAt.here | apply GetAt.there)) ?_
  refine oExt rfl (by repeat (first | exact GetAt.here | apply GetAt.there)) ?_
  refine oExt rfl (by repeat (first | exact GetAt.here | apply GetAt.there)) ?_
  refine oAssign rfl ?_
  refine oAssign rfl ?_
  refine oAssign rfl ?_
  refine oNil ?_
  refine thn_n ?_
  refine wSeq ?_
  refine wRegion' ?_
  refine oMove rfl ?_
  (refine oCall rfl (by kernel_rfl) (fun w hS => frame hS (by repeat' (first | exact Split.nil | exact Pick.here | apply Split.cons | apply Pick.there)) (fun B' hB hS' => queue_Take (p := p) (s := s5) hS' h5)) ?_; rintro s6 h6)
  replace h6 : QOk s6 [(3, 9)] := h6
  refine oMove rfl ?_
  refine oExt rfl (by repeat (first | exact GetAt.here | apply GetAt.there)) ?_
  refine oExt rfl (by repeat (first | exact GetAt.here | apply GetAt.there)) ?_
  refine oExt rfl (by repeat (first | exact GetAt.here | apply GetAt.there)) ?_
  refine oAssign rfl ?_
  refine oAssign rfl ?_
  refine oAssign rfl ?_
  refine oNil ?_
  refine thn_n ?_
  refine wSeq ?_
  refine wRegion' ?_
  refine oMove rfl ?_
  refine oMove rfl ?_
  refine oWant rfl rfl ?_
  refine oMove rfl ?_
  refine oPickT rfl rfl ?_
  refine oMove rfl ?_
  refine oWant rfl rfl ?_
  refine oMove rfl ?_
  refine oPickT rfl rfl ?_
  refine oMove rfl ?_
  refine oWant rfl rfl ?_
  refine oMove rfl ?_
  refine oWant rfl rfl ?_
  refine oNotF rfl ?_
  refine oPickT rfl rfl ?_
  refine oMove rfl ?_
  refine oWant rfl rfl ?_
  refine oMove rfl ?_
  refine oWant rfl rfl ?_
  refine oEql rfl rfl ?_
  refine oPickT rfl rfl ?_
  refine oMove rfl ?_
  first | refine oSplit (t := 48) rfl (fun h48 => ?_) (fun h48 => ?_) | refine oSplitB (t := 48) rfl (fun h48 => ?_) (fun h48 => ?_)
  ·
    refine oWant rfl rfl ?_
    refine oMove rfl ?_
    refine oWant rfl rfl ?_
    refine oEql rfl rfl ?_
    refine oPickT rfl rfl ?_
    refine oMove rfl ?_
    first | refine oSplit (t := 52) rfl (fun h52 => ?_) (fun h52 => ?_) | refine oSplitB (t := 52) rfl (fun h52 => ?_) (fun h52 => ?_)
    ·
      refine oWant rfl rfl ?_
      refine oMove rfl ?_
      refine oPickT rfl rfl ?_
      refine oMove rfl ?_
      refine oWant rfl rfl ?_
      refine oMove rfl ?_
      refine oWant rfl rfl ?_
      refine oEql rfl rfl ?_
      refine oPickT rfl rfl ?_
      refine oMove rfl ?_
      first | refine oSplit (t := 59) rfl (fun h59 => ?_) (fun h59 => ?_) | refine oSplitB (t := 59) rfl (fun h59 => ?_) (fun h59 => ?_)
      ·
        refine oWant rfl rfl ?_
        refine oMove rfl ?_
        refine oWant rfl rfl ?_
        (refine oCall rfl (by kernel_rfl) (fun w hS => frame hS (by repeat' (first | exact Split.nil | exact Pick.here | apply Split.cons | apply Pick.there)) (fun B' hB hS' => queue_Len (p := p) (s := s6) hS' h6)) ?_; rintro ⟨⟩ -)
        refine oWant rfl rfl ?_
        refine oEql rfl rfl ?_
        refine oPickT rfl rfl ?_
        refine oAssign rfl ?_
        refine oNil ?_
        refine thn_n ?_
        refine wRet ?_
        refine fin_r ?_
        refine ⟨rfl, _, (ResL.cons (ResR.tmp rfl) ResL.nil), ?_⟩
        exact ⟨(), trivial, by simp [resVal], fun _ h => h.has .nil⟩
      ·
        exact absurd rfl h59
    ·
      exact absurd rfl h52
  ·
    exact absurd rfl h48

theorem queueR_unit {B : Base} {w : World} {H : List Res} (h : St B H w) : St B [] w := h.has .nil
set_option maxRecDepth 100000 in
theorem Nobody {B : Base} {w : World} (hS : St B [] w) (id key : Int) :
    CallsIn Fence.wide 0 Try.prog 8 #[.int .i64 id, .int .i64 key] w (Ret B (fun _ : Unit => True) (fun _ => .bool true) (fun _ => [])) := by
  (refine enter Try.func8 rfl rfl hS ?_; simp only [List.zipIdx_cons, List.zipIdx_nil, List.map_cons, List.map_nil, Nat.reduceAdd, Nat.zero_add])
  refine wSeq ?_
  refine wRegion' ?_
  refine oAssign rfl ?_
  refine oNil ?_
  refine thn_n ?_
  refine wSeq ?_
  refine wRegion' ?_
  refine oAssign rfl ?_
  refine oNil ?_
  refine thn_n ?_
  refine wSeq ?_
  refine wRegion' ?_
  refine oBuild Parts.nil rfl rfl Built.nil ?_
  refine oBox rfl (by first | exact CellsOf.agg | exact CellsOf.one rfl) (fun b18 => ?_)
  refine oAssign rfl ?_
  refine oNil ?_
  refine thn_n ?_
  refine wSeq ?_
  refine wRegion' ?_
  refine oMove rfl ?_
  (refine oCall rfl (by kernel_rfl) (fun w hS => frame hS .nil (fun B' hB hS' => queue_Take0 .nil hS')) ?_; rintro ⟨⟩ -)
  refine oMove rfl ?_
  refine oExt rfl (by repeat (first | exact GetAt.here | apply GetAt.there)) ?_
  refine oExt rfl (by repeat (first | exact GetAt.here | apply GetAt.there)) ?_
  refine oExt rfl (by repeat (first | exact GetAt.here | apply GetAt.there)) ?_
  refine oAssign rfl ?_
  refine oAssign rfl ?_
  refine oAssign rfl ?_
  refine oNil ?_
  refine thn_n ?_
  refine wSeq ?_
  refine wRegion' ?_
  refine oMove rfl ?_
  (refine oCall rfl (by kernel_rfl) (fun w hS => queue_Take0 .odd hS) ?_; rintro ⟨⟩ -)
  refine oMove rfl ?_
  refine oExt rfl (by repeat (first | exact GetAt.here | apply GetAt.there)) ?_
  refine oExt rfl (by repeat (first | exact GetAt.here | apply GetAt.there)) ?_
  refine oExt rfl (by repeat (first | exact GetAt.here | apply GetAt.there)) ?_
  refine oAssign rfl ?_
  refine oAssign rfl ?_
  refine oAssign rfl ?_
  refine oNil ?_
  refine thn_n ?_
  refine wSeq ?_
  refine wRegion' ?_
  refine oMove rfl ?_
  refine oMove rfl ?_
  (refine oCall rfl (by kernel_rfl) (fun w hS => frame hS .nil (fun B' hB hS' => queue_Key0 .nil hS' id)) ?_; rintro ⟨⟩ -)
  refine oMove rfl ?_
  refine oExt rfl (by repeat (first | exact GetAt.here | apply GetAt.there)) ?_
  refine oExt rfl (by repeat (first | exact GetAt.here | apply GetAt.there)) ?_
  refine oAssign rfl ?_
  refine oAssign rfl ?_
  refine oNil ?_
  refine thn_n ?_
  refine wSeq ?_
  refine wRegion' ?_
  refine oMove rfl ?_
  refine oMove rfl ?_
  (refine oCall rfl (by kernel_rfl) (fun w hS => queue_Key0 .odd hS id) ?_; rintro ⟨⟩ -)
  refine oMove rfl ?_
  refine oExt rfl (by repeat (first | exact GetAt.here | apply GetAt.there)) ?_
  refine oExt rfl (by repeat (first | exact GetAt.here | apply GetAt.there)) ?_
  refine oAssign rfl ?_
  refine oAssign rfl ?_
  refine oNil ?_
  refine thn_n ?_
  refine wSeq ?_
  refine wRegion' ?_
  simp only [List.append_eq, List.cons_append, List.nil_append]
  refine oMove rfl ?_
  refine oMove rfl ?_
  refine oMove rfl ?_
  (refine oCall rfl (by kernel_rfl) (fun w hS => frame hS .nil (fun B' hB hS' => queue_Put0 .nil hS' id key)) ?_; rintro ⟨⟩ -)
  refine oNotF rfl ?_
  refine oMove rfl ?_
  refine oWant rfl rfl ?_
  refine oMove rfl ?_
  refine oWant rfl rfl ?_
  refine oMove rfl ?_
  refine oWant rfl rfl ?_
  refine oMove rfl ?_
  refine oWant rfl rfl ?_
  (refine oCall rfl (by kernel_rfl) (fun w hS => queue_Put0 .odd hS id key) ?_; rintro ⟨⟩ -)
  refine oWant rfl rfl ?_
  refine oNotF rfl ?_
  refine oPickT rfl rfl ?_
  refine oMove rfl ?_
  refine oWant rfl rfl ?_
  refine oMove rfl ?_
  refine oWant rfl rfl ?_
  refine oMove rfl ?_
  refine oWant rfl rfl ?_
  (refine oCall rfl (by kernel_rfl) (fun w hS => frame hS .nil (fun B' hB hS' => queue_Drop0 .nil hS' id)) ?_; rintro ⟨⟩ -)
  refine oWant rfl rfl ?_
  refine oNotF rfl ?_
  refine oPickT rfl rfl ?_
  refine oMove rfl ?_
  refine oWant rfl rfl ?_
  refine oMove rfl ?_
  refine oWant rfl rfl ?_
  refine oMove rfl ?_
  refine oWant rfl rfl ?_
  (refine oCall rfl (by kernel_rfl) (fun w hS => queue_Drop0 .odd hS id) ?_; rintro ⟨⟩ -)
  refine oWant rfl rfl ?_
  refine oNotF rfl ?_
  refine oPickT rfl rfl ?_
  refine oMove rfl ?_
  refine oWant rfl rfl ?_
  refine oMove rfl ?_
  refine oWant rfl rfl ?_
  refine oEql rfl rfl ?_
  refine oPickT rfl rfl ?_
  refine oMove rfl ?_
  first | refine oSplit (t := 71) rfl (fun h71 => ?_) (fun h71 => ?_) | refine oSplitB (t := 71) rfl (fun h71 => ?_) (fun h71 => ?_)
  ·
    refine oWant rfl rfl ?_
    refine oMove rfl ?_
    refine oWant rfl rfl ?_
    refine oEql rfl rfl ?_
    refine oPickT rfl rfl ?_
    refine oMove rfl ?_
    first | refine oSplit (t := 75) rfl (fun h75 => ?_) (fun h75 => ?_) | refine oSplitB (t := 75) rfl (fun h75 => ?_) (fun h75 => ?_)
    ·
      refine oWant rfl rfl ?_
      refine oMove rfl ?_
      refine oWant rfl rfl ?_
      refine oEql rfl rfl ?_
      refine oPickT rfl rfl ?_
      refine oMove rfl ?_
      first | refine oSplit (t := 79) rfl (fun h79 => ?_) (fun h79 => ?_) | refine oSplitB (t := 79) rfl (fun h79 => ?_) (fun h79 => ?_)
      ·
        refine oWant rfl rfl ?_
        refine oMove rfl ?_
        refine oWant rfl rfl ?_
        refine oEql rfl rfl ?_
        refine oPickT rfl rfl ?_
        refine oMove rfl ?_
        first | refine oSplit (t := 83) rfl (fun h83 => ?_) (fun h83 => ?_) | refine oSplitB (t := 83) rfl (fun h83 => ?_) (fun h83 => ?_)
        ·
          refine oWant rfl rfl ?_
          refine oMove rfl ?_
          refine oWant rfl rfl ?_
          refine oEql rfl rfl ?_
          refine oPickT rfl rfl ?_
          refine oMove rfl ?_
          first | refine oSplit (t := 87) rfl (fun h87 => ?_) (fun h87 => ?_) | refine oSplitB (t := 87) rfl (fun h87 => ?_) (fun h87 => ?_)
          ·
            refine oWant rfl rfl ?_
            refine oMove rfl ?_
            refine oWant rfl rfl ?_
            refine oEql rfl rfl ?_
            refine oPickT rfl rfl ?_
            refine oMove rfl ?_
            first | refine oSplit (t := 91) rfl (fun h91 => ?_) (fun h91 => ?_) | refine oSplitB (t := 91) rfl (fun h91 => ?_) (fun h91 => ?_)
            ·
              refine oWant rfl rfl ?_
              refine oMove rfl ?_
              refine oWant rfl rfl ?_
              refine oNotF rfl ?_
              refine oPickT rfl rfl ?_
              refine oMove rfl ?_
              refine oWant rfl rfl ?_
              refine oMove rfl ?_
              refine oWant rfl rfl ?_
              refine oNotF rfl ?_
              refine oPickT rfl rfl ?_
              refine oMove rfl ?_
              refine oWant rfl rfl ?_
              refine oMove rfl ?_
              refine oWant rfl rfl ?_
              refine oNotF rfl ?_
              refine oPickT rfl rfl ?_
              refine oMove rfl ?_
              refine oWant rfl rfl ?_
              refine oMove rfl ?_
              refine oWant rfl rfl ?_
              refine oNotF rfl ?_
              refine oPickT rfl rfl ?_
              refine oMove rfl ?_
              refine oWant rfl rfl ?_
              refine oMove rfl ?_
              refine oWant rfl rfl ?_
              (refine oCall rfl (by kernel_rfl) (fun w hS => frame hS .nil (fun B' hB hS' => queue_Len0 .nil hS')) ?_; rintro ⟨⟩ -)
              refine oWant rfl rfl ?_
              refine oEql rfl rfl ?_
              refine oPickT rfl rfl ?_
              refine oMove rfl ?_
              first | refine oSplit (t := 112) rfl (fun h112 => ?_) (fun h112 => ?_) | refine oSplitB (t := 112) rfl (fun h112 => ?_) (fun h112 => ?_)
              ·
                refine oWant rfl rfl ?_
                refine oMove rfl ?_
                refine oWant rfl rfl ?_
                (refine oCall rfl (by kernel_rfl) (fun w hS => queue_Len0 .odd hS) ?_; rintro ⟨⟩ -)
                refine oWant rfl rfl ?_
                refine oEql rfl rfl ?_
                refine oPickT rfl rfl ?_
                refine oMove rfl ?_
                first | refine oSplit (t := 117) rfl (fun h117 => ?_) (fun h117 => ?_) | refine oSplitB (t := 117) rfl (fun h117 => ?_) (fun h117 => ?_)
                ·
                  refine oWant rfl rfl ?_
                  (refine oCall rfl (by kernel_rfl) (fun w hS => frame hS .nil (fun B' hB hS' => known06 hS')) ?_; rintro ⟨⟩ -)
                  refine oPickT rfl rfl ?_
                  refine oAssign rfl ?_
                  refine oNil ?_
                  refine thn_n ?_
                  refine wRet ?_
                  refine fin_r ?_
                  refine ⟨rfl, _, (ResL.cons (ResR.tmp rfl) ResL.nil), ?_⟩
                  exact ⟨(), trivial, rfl, fun _ h => h.has .nil⟩
                ·
                  exact absurd rfl h117
              ·
                exact absurd rfl h112
            ·
              exact absurd rfl h91
          ·
            exact absurd rfl h87
        ·
          exact absurd rfl h83
      ·
        exact absurd rfl h79
    ·
      exact absurd rfl h75
  ·
    exact absurd rfl h71
end Go.Proofs.YtnidmlngkpkmlaaQ
