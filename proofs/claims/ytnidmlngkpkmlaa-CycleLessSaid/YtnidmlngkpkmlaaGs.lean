/-
  sheerleglaw11: CycleTells.
-/
import Derived.Test.YtnidmlngkpkmlaaGr
namespace Go.Proofs.YtnidmlngkpkmlaaG
set_option linter.unusedVariables false
set_option linter.unusedSimpArgs false
open Go.RowKit Go.Proofs.YtnidmlngkpkmlaaK Go.Proofs.YtnidmlngkpkmlaaT Go.Proofs.YtnidmlngkpkmlaaL

theorem few_small {g : Graph} (h : g.length ≤ 24 ∧ ∀ l ∈ g, l.length ≤ 30) : SmallG g := ⟨by omega, fun l hl => by have := h.2 l hl; omega⟩
theorem ordL_len {g : Graph} (h : SmallG g) (ib : List Bool) : (ordL g ib).length ≤ 9223372036854775807 := by
  have h1 : ∀ (ed : Nat → Nat → Bool) (f : Nat) (left : List Bool), (gr ed f left).length ≤ f := by
    intro ed f
    induction f with
    | zero => intro left; simp [gr]
    | succ f ih =>
      intro left
      unfold gr
      cases nxt ed left with
      | none => simp
      | some a => simp only [List.length_cons]; have := ih (left.set a false); omega
  have h2 := h1 (edR g ib) (trues (memL g ib)) (memL g ib)
  have h3 := trues_le (memL g ib)
  rw [memL_len] at h3
  have := h.1
  unfold ordL
  split
  · rw [List.length_map]; unfold seqN; omega
  · simp
set_option maxRecDepth 100000 in
set_option maxHeartbeats 1000000 in
theorem cycleTells {B : Base} {w : World} (hS : St B [] w) (A : Option Addr) (cp : Nat) (g : Graph) (hC : kII.C B.e A g) (A1 : Option Addr) (cp1 : Nat) (ib : List Bool) (hC1 : Kd.bool.C B.e A1 ib) :
    CallsIn Fence.wide 0 Try.prog 10 #[.slice A g.length cp, .slice A1 ib.length cp1] w (Ret B (fun _ : Unit => True) (fun _ => .bool true) (fun _ => [])) := by
  have m1 := hC1.1
  (refine enter Try.func10 rfl rfl hS ?_; simp only [List.zipIdx_cons, List.zipIdx_nil, List.map_cons, List.map_nil, Nat.reduceAdd, Nat.zero_add])
  refine wSeq ?_
  refine wRegion' ?_
  refine oAssign rfl ?_
  refine oNil ?_
  refine thn_n ?_
  refine wSeq ?_
  refine wSeq ?_
  refine wRegion' ?_
  refine oMove rfl ?_
  (refine oCall rfl (by kernel_rfl) (fun w hS => frame hS (by repeat' (first | exact Split.nil | exact Pick.here | apply Split.cons | apply Pick.there)) (fun B' hB hS' => few10 hS' A cp g (Kd.C_grow hB hC))) ?_; rintro r14 h14)
  first | refine oNot rfl ?_ | refine oNotB rfl ?_
  refine oMove rfl ?_
  first | refine oSplit (t := 16) rfl (fun h16 => ?_) (fun h16 => ?_) | refine oSplitB (t := 16) rfl (fun h16 => ?_) (fun h16 => ?_)
  ·
    refine oSkip rfl rfl rfl rfl ?_
    refine oSkip rfl rfl rfl rfl ?_
    refine oSkip rfl rfl rfl rfl ?_
    refine oPickT rfl rfl ?_
    refine oNil ?_
    refine thn_n ?_
    refine wCondT rfl ?_
    refine wSeq ?_
    refine wRegion' ?_
    (refine oCall rfl (by kernel_rfl) (fun w hS => frame hS (by repeat' (first | exact Split.nil | exact Pick.here | apply Split.cons | apply Pick.there)) (fun B' hB hS' => known11 hS')) ?_; rintro ⟨⟩ -)
    refine oAssign rfl ?_
    refine oNil ?_
    refine thn_n ?_
    refine wRet ?_
    refine thn_r ?_
    refine fin_r ?_
    refine ⟨rfl, _, (ResL.cons (ResR.tmp rfl) ResL.nil), ?_⟩
    exact ⟨(), trivial, rfl, (Leads.has (by repeat' (first | exact Has.nil | exact Pick.here | apply Has.cons | apply Pick.there)))⟩
  ·
    refine oWant rfl rfl ?_
    refine oMove rfl ?_
    refine oWant rfl rfl ?_
    refine oLenS rfl rfl ?_
    refine oWant rfl rfl ?_
    refine oGtr rfl rfl ?_
    refine oPickF rfl rfl ?_
    refine oNil ?_
    refine thn_n ?_
    first | refine wCond rfl (fun h20 => ?_) (fun h20 => ?_) | refine wCondB rfl (fun h20 => ?_) (fun h20 => ?_)
    ·
      refine wSeq ?_
      refine wRegion' ?_
      (refine oCall rfl (by kernel_rfl) (fun w hS => frame hS (by repeat' (first | exact Split.nil | exact Pick.here | apply Split.cons | apply Pick.there)) (fun B' hB hS' => known11 hS')) ?_; rintro ⟨⟩ -)
      refine oAssign rfl ?_
      refine oNil ?_
      refine thn_n ?_
      refine wRet ?_
      refine thn_r ?_
      refine fin_r ?_
      refine ⟨rfl, _, (ResL.cons (ResR.tmp rfl) ResL.nil), ?_⟩
      exact ⟨(), trivial, rfl, (Leads.has (by repeat' (first | exact Has.nil | exact Pick.here | apply Has.cons | apply Pick.there)))⟩
    ·
      have hsm := few_small (h14 (by simpa using h16))
      refine wSkip ?_
      refine thn_n ?_
      refine wSeq ?_
      refine wRegion' ?_
      refine oMove rfl ?_
      refine oMove rfl ?_
      (refine oCall rfl (by kernel_rfl) (fun w hS => frame hS (by repeat' (first | exact Split.nil | exact Pick.here | apply Split.cons | apply Pick.there)) (fun B' hB hS' => orderP hS' g A cp (Kd.C_grow hB hC) hsm ib A1 cp1 (Kd.C_grow hB hC1) (by omega) B.e)) ?_; rintro ⟨A25, c25⟩ -)
      refine oMove rfl ?_
      refine oExt rfl (by repeat (first | exact GetAt.here | apply GetAt.there)) ?_
      refine oExt rfl (by repeat (first | exact GetAt.here | apply GetAt.there)) ?_
      refine oAssign rfl ?_
      refine oAssign rfl ?_
      refine oNil ?_
      refine thn_n ?_
      refine wSeq ?_
      refine wRegion' ?_
      refine oMove rfl ?_
      refine oMove rfl ?_
      (refine oCall rfl (by kernel_rfl) (fun w hS => frame hS (by repeat' (first | exact Split.nil | exact Pick.here | apply Split.cons | apply Pick.there)) (fun B' hB hS' => refOrder hS' g A cp (Kd.C_grow hB hC) hsm ib A1 cp1 (Kd.C_grow hB hC1) B.e)) ?_; rintro ⟨A31, c31⟩ -)
      refine oMove rfl ?_
      refine oExt rfl (by repeat (first | exact GetAt.here | apply GetAt.there)) ?_
      refine oExt rfl (by repeat (first | exact GetAt.here | apply GetAt.there)) ?_
      refine oAssign rfl ?_
      refine oAssign rfl ?_
      refine oNil ?_
      refine thn_n ?_
      refine wSeq ?_
      refine wRegion' ?_
      refine oMove rfl ?_
      refine oMove rfl ?_
      (refine oCall rfl (by kernel_rfl) (fun w hS => frame hS (by repeat' (first | exact Split.nil | exact Pick.here | apply Split.cons | apply Pick.there)) (fun B' hB hS' => backP hS' g A cp (Kd.C_grow hB hC) hsm ib A1 cp1 (Kd.C_grow hB hC1) (by omega) B.e)) ?_; rintro ⟨A37, c37⟩ -)
      refine oMove rfl ?_
      refine oExt rfl (by repeat (first | exact GetAt.here | apply GetAt.there)) ?_
      refine oExt rfl (by repeat (first | exact GetAt.here | apply GetAt.there)) ?_
      refine oAssign rfl ?_
      refine oAssign rfl ?_
      refine oNil ?_
      refine thn_n ?_
      refine wSeq ?_
      refine wRegion' ?_
      refine oMove rfl ?_
      refine oMove rfl ?_
      (refine oCall rfl (by kernel_rfl) (fun w hS => frame hS (by repeat' (first | exact Split.nil | exact Pick.here | apply Split.cons | apply Pick.there)) (fun B' hB hS' => refBack hS' g A cp (Kd.C_grow hB hC) hsm ib A1 cp1 (Kd.C_grow hB hC1) B.e)) ?_; rintro ⟨A43, c43⟩ -)
      refine oMove rfl ?_
      refine oExt rfl (by repeat (first | exact GetAt.here | apply GetAt.there)) ?_
      refine oExt rfl (by repeat (first | exact GetAt.here | apply GetAt.there)) ?_
      refine oAssign rfl ?_
      refine oAssign rfl ?_
      refine oNil ?_
      refine thn_n ?_
      refine wSeq ?_
      refine wRegion' ?_
      refine oMove rfl ?_
      refine oMove rfl ?_
      (refine oCall rfl (by kernel_rfl) (fun w hS => frame hS (by repeat' (first | exact Split.nil | exact Pick.here | apply Split.cons | apply Pick.there)) (fun B' hB hS' => on_any hS' g A cp (Kd.C_grow hB hC) hsm ib A1 cp1 (Kd.C_grow hB hC1) (by omega) B.e)) ?_; rintro ⟨A48, c48⟩ -)
      refine oMove rfl ?_
      refine oMove rfl ?_
      (refine oCall rfl (by kernel_rfl) (fun w hS => frame hS (by repeat' (first | exact Split.nil | exact Pick.here | apply Split.cons | apply Pick.there)) (fun B' hB hS' => refOn hS' g A cp (Kd.C_grow hB hC) hsm ib A1 cp1 (Kd.C_grow hB hC1) B.e)) ?_; rintro ⟨A51, c51⟩ -)
      (refine oCall rfl (by kernel_rfl) (fun w hS => frame' hS .nil (fun B' hB hR hS' => ints_any hS' A48 c48 (onL g ib) (row_C (kd := Kd.int .i64) (W := B.e) (e := 3) (hR _ _ (by repeat (first | exact Pick.here | apply Pick.there))) hB).2.2.1 A51 c51 (onL g ib) (row_C (kd := Kd.int .i64) (W := B.e) (e := 3) (hR _ _ (by repeat (first | exact Pick.here | apply Pick.there))) hB).2.2.1)) ?_; rintro ⟨⟩ -)
      refine oMove rfl ?_
      first | refine oSplit (t := 53) rfl (fun h53 => ?_) (fun h53 => ?_) | refine oSplitB (t := 53) rfl (fun h53 => ?_) (fun h53 => ?_)
      ·
        refine oWant rfl rfl ?_
        refine oMove rfl ?_
        refine oWant rfl rfl ?_
        refine oMove rfl ?_
        refine oWant rfl rfl ?_
        (refine oCall rfl (by kernel_rfl) (fun w hS => frame' hS .nil (fun B' hB hR hS' => ints_any hS' A25 c25 (ordL g ib) (row_C (kd := Kd.int .i64) (W := B.e) (e := 3) (hR _ _ (by repeat (first | exact Pick.here | apply Pick.there))) hB).2.2.1 A31 c31 (ordL g ib) (row_C (kd := Kd.int .i64) (W := B.e) (e := 3) (hR _ _ (by repeat (first | exact Pick.here | apply Pick.there))) hB).2.2.1)) ?_; rintro ⟨⟩ -)
        refine oPickT rfl rfl ?_
        refine oMove rfl ?_
        first | refine oSplit (t := 58) rfl (fun h58 => ?_) (fun h58 => ?_) | refine oSplitB (t := 58) rfl (fun h58 => ?_) (fun h58 => ?_)
        ·
          refine oWant rfl rfl ?_
          refine oMove rfl ?_
          refine oWant rfl rfl ?_
          refine oMove rfl ?_
          refine oWant rfl rfl ?_
          refine oEqlBool rfl rfl rfl ?_
          refine oPickT rfl rfl ?_
          refine oMove rfl ?_
          first | refine oSplit (t := 63) rfl (fun h63 => ?_) (fun h63 => ?_) | refine oSplitB (t := 63) rfl (fun h63 => ?_) (fun h63 => ?_)
          ·
            refine oWant rfl rfl ?_
            refine oMove rfl ?_
            refine oWant rfl rfl ?_
            refine oMove rfl ?_
            refine oWant rfl rfl ?_
            (refine oCall rfl (by kernel_rfl) (fun w hS => frame' hS .nil (fun B' hB hR hS' => ints_any hS' A37 c37 (ordL (turnG g) ib) (row_C (kd := Kd.int .i64) (W := B.e) (e := 3) (hR _ _ (by repeat (first | exact Pick.here | apply Pick.there))) hB).2.2.1 A43 c43 (ordL (turnG g) ib) (row_C (kd := Kd.int .i64) (W := B.e) (e := 3) (hR _ _ (by repeat (first | exact Pick.here | apply Pick.there))) hB).2.2.1)) ?_; rintro ⟨⟩ -)
            refine oPickT rfl rfl ?_
            refine oMove rfl ?_
            first | refine oSplit (t := 68) rfl (fun h68 => ?_) (fun h68 => ?_) | refine oSplitB (t := 68) rfl (fun h68 => ?_) (fun h68 => ?_)
            ·
              refine oWant rfl rfl ?_
              refine oMove rfl ?_
              refine oWant rfl rfl ?_
              refine oMove rfl ?_
              refine oWant rfl rfl ?_
              refine oEqlBool rfl rfl rfl ?_
              refine oPickT rfl rfl ?_
              refine oMove rfl ?_
              first | refine oSplit (t := 73) rfl (fun h73 => ?_) (fun h73 => ?_) | refine oSplitB (t := 73) rfl (fun h73 => ?_) (fun h73 => ?_)
              ·
                refine oWant rfl rfl ?_
                (refine oCall rfl (by kernel_rfl) (fun w hS => frame hS (by repeat' (first | exact Split.nil | exact Pick.here | apply Split.cons | apply Pick.there)) (fun B' hB hS' => known11 hS')) ?_; rintro ⟨⟩ -)
                refine oPickT rfl rfl ?_
                refine oAssign rfl ?_
                refine oNil ?_
                refine thn_n ?_
                refine wRet ?_
                refine fin_r ?_
                refine ⟨rfl, _, (ResL.cons (ResR.tmp rfl) ResL.nil), ?_⟩
                exact ⟨(), trivial, rfl, (Leads.has (by repeat' (first | exact Has.nil | exact Pick.here | apply Has.cons | apply Pick.there)))⟩
              ·
                first | exact absurd rfl h73 | cases h73 | (simp at h73)
            ·
              first | exact absurd rfl h68 | cases h68 | (simp at h68)
          ·
            first | exact absurd rfl h63 | cases h63 | (simp at h63)
        ·
          first | exact absurd rfl h58 | cases h58 | (simp at h58)
      ·
        first | exact absurd rfl h53 | cases h53 | (simp at h53)
end Go.Proofs.YtnidmlngkpkmlaaG
