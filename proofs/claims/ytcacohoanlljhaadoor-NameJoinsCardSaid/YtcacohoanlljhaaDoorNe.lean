import Derived.Test.YtcacohoanlljhaaDoorNd

/-
  The statements on names.
-/
namespace Go.Proofs.YtcacohoanlljhaaDoorN
set_option linter.unusedVariables false
set_option linter.unusedSimpArgs false
open Go.RowKit Go.Proofs.YtcacohoanlljhaaDoorK Go.Proofs.YtcacohoanlljhaaDoorT Go.Proofs.YtcacohoanlljhaaDoorL

def sA : ByteArray := ⟨#[97]⟩
def sB : ByteArray := ⟨#[98]⟩
def knL : List ByteArray := [sB, ⟨#[65]⟩, sA, sB]
theorem ok_A : okN ⟨#[65]⟩ = false := by decide +kernel
theorem ok_a : okN sA = true := by decide +kernel
theorem ok_b : okN sB = true := by decide +kernel
theorem srt_kn : srt4 knL = [sA, sB] := by
  refine (srt4_eq (l := knL) (out := [sA, sB]) ?_ ?_).symm
  · refine List.pairwise_cons.2 ⟨fun y hy => ?_, List.pairwise_cons.2 ⟨fun y hy => (by cases hy), List.Pairwise.nil⟩⟩
    rw [List.mem_singleton.1 hy]
    show ltS sA sB
    decide +kernel
  · intro x
    constructor
    · intro h
      rcases List.mem_cons.1 h with h | h
      · subst h; exact ⟨by simp [knL], ok_a⟩
      · rw [List.mem_singleton.1 h]; exact ⟨by simp [knL], ok_b⟩
    · rintro ⟨h, ho⟩
      simp only [knL, List.mem_cons, List.not_mem_nil, or_false] at h
      rcases h with h | h | h | h
      · subst h; simp
      · rw [h, ok_A] at ho; cases ho
      · subst h; simp
      · subst h; simp
theorem n_main : nameF4 ⟨#[109, 97, 105, 110]⟩ = 0 := by decide +kernel
theorem n_1a : nameF4 ⟨#[49, 97]⟩ = 7 := by decide +kernel
theorem n_long : nameF4 ⟨#[97, 98, 99, 100, 101, 102, 103, 104, 105, 106, 107, 108, 109, 110, 111, 112, 113, 114, 115, 116, 117, 118, 119, 120, 121]⟩ = 6 := by decide +kernel
theorem f_b : fndS [sA, sB] ⟨#[98]⟩ = 1 := by decide +kernel
theorem j_main : joinF 2 ⟨#[109, 97, 105, 110]⟩ = ⟨#[109, 97, 105, 110, 46, 102, 50]⟩ := by decide +kernel
theorem j_neg : joinF (-1) ⟨#[97]⟩ = ByteArray.empty := by unfold joinF; rw [if_pos (.inl (by decide))]
set_option maxRecDepth 100000 in
set_option maxHeartbeats 1000000 in
theorem known4 {B : Base} {w : World} (hS : St B [] w) (hT : TabP Tryd.prog B.e) :
    CallsIn Fence.wide 0 Tryd.prog 7 #[] w (Ret B (fun _ : Unit => True) (fun _ => .bool true) (fun _ => [])) := by
  (refine enter Tryd.func7 rfl rfl hS ?_; simp only [List.zipIdx_cons, List.zipIdx_nil, List.map_cons, List.map_nil, Nat.reduceAdd, Nat.zero_add])
  refine wSeq ?_
  refine wRegion' ?_
  refine oAssign rfl ?_
  refine oNil ?_
  refine thn_n ?_
  refine wSeq ?_
  refine wRegion' ?_
  refine oBuildSliceF (Parts.cons rfl (Parts.cons rfl (Parts.cons rfl (Parts.cons rfl Parts.nil)))) rfl rfl rfl rfl rfl (Fulls.cons (by first | exact CellsOf.agg | exact CellsOf.one rfl) rfl (Fulls.cons (by first | exact CellsOf.agg | exact CellsOf.one rfl) rfl (Fulls.cons (by first | exact CellsOf.agg | exact CellsOf.one rfl) rfl (Fulls.cons (by first | exact CellsOf.agg | exact CellsOf.one rfl) rfl Fulls.nil (by repeat (first | exact AppL.nil | apply AppL.cons))) (by repeat (first | exact AppL.nil | apply AppL.cons))) (by repeat (first | exact AppL.nil | apply AppL.cons))) (by repeat (first | exact AppL.nil | apply AppL.cons))) (fun b2 => ?_)
  refine oConv (blk_row (enc := Value.string) (h1 := fun _ => rfl) (W := B.w) (xs := knL) (by repeat (first | exact Pick.here | apply Pick.there)) rfl rfl (by decide)) ?_
  (refine oCall rfl (by kernel_rfl) (fun w hS => frame' hS .nil (fun B' hB hR hS' => name_Sort hS' (some ⟨b2, 0, none⟩) 4 knL (row_Cs (W := B.w) (e := 9) (n := 4) (cp := 4) (hR _ _ (by repeat (first | exact Pick.here | apply Pick.there)))) (by decide) B.w)) ?_; rintro ⟨A3, c3⟩ -)
  rw [srt_kn]; try dsimp only
  refine oAssign rfl ?_
  refine oNil ?_
  refine thn_n ?_
  refine wSeq ?_
  refine wRegion' ?_
  (refine oCall rfl (by kernel_rfl) (fun w hS => frame hS (by repeat' (first | exact Split.nil | exact Pick.here | apply Split.cons | apply Pick.there)) (fun B' hB hS' => name_Check hS' ⟨#[109, 97, 105, 110]⟩)) ?_; rintro ⟨⟩ -)
  rw [n_main]
  refine oEql rfl rfl ?_
  refine oMove rfl ?_
  first | refine oSplit (t := 6) rfl (fun h6 => ?_) (fun h6 => ?_) | refine oSplitB (t := 6) rfl (fun h6 => ?_) (fun h6 => ?_)
  ·
    refine oWant rfl rfl ?_
    (refine oCall rfl (by kernel_rfl) (fun w hS => frame hS (by repeat' (first | exact Split.nil | exact Pick.here | apply Split.cons | apply Pick.there)) (fun B' hB hS' => name_Check hS' ⟨#[49, 97]⟩)) ?_; rintro ⟨⟩ -)
    rw [n_1a]
    refine oWant rfl rfl ?_
    refine oEql rfl rfl ?_
    refine oPickT rfl rfl ?_
    refine oMove rfl ?_
    first | refine oSplit (t := 10) rfl (fun h10 => ?_) (fun h10 => ?_) | refine oSplitB (t := 10) rfl (fun h10 => ?_) (fun h10 => ?_)
    ·
      refine oWant rfl rfl ?_
      (refine oCall rfl (by kernel_rfl) (fun w hS => frame hS (by repeat' (first | exact Split.nil | exact Pick.here | apply Split.cons | apply Pick.there)) (fun B' hB hS' => name_Check hS' ⟨#[97, 98, 99, 100, 101, 102, 103, 104, 105, 106, 107, 108, 109, 110, 111, 112, 113, 114, 115, 116, 117, 118, 119, 120, 121]⟩)) ?_; rintro ⟨⟩ -)
      rw [n_long]
      refine oWant rfl rfl ?_
      refine oEql rfl rfl ?_
      refine oPickT rfl rfl ?_
      refine oMove rfl ?_
      first | refine oSplit (t := 14) rfl (fun h14 => ?_) (fun h14 => ?_) | refine oSplitB (t := 14) rfl (fun h14 => ?_) (fun h14 => ?_)
      ·
        refine oWant rfl rfl ?_
        refine oMove rfl ?_
        refine oWant rfl rfl ?_
        refine oLenS rfl rfl ?_
        refine oWant rfl rfl ?_
        refine oEql rfl rfl ?_
        refine oPickT rfl rfl ?_
        refine oMove rfl ?_
        first | refine oSplit (t := 19) rfl (fun h19 => ?_) (fun h19 => ?_) | refine oSplitB (t := 19) rfl (fun h19 => ?_) (fun h19 => ?_)
        ·
          refine oWant rfl rfl ?_
          refine oMove rfl ?_
          refine oWant rfl rfl ?_
          refine oIdxR rfl rfl (by repeat (first | exact Pick.here | apply Pick.there)) (by decide) rfl rfl (fun g21 hg21 => ?_)
          first | subst hg21 | (injection hg21 with hg21; injection hg21 with hg21; subst hg21)
          refine oWant rfl rfl ?_
          first | refine oLdX rfl hc21 rfl rfl ?_ | refine oLdXA rfl hc21 rfl (by repeat (first | exact SubL.done | apply SubL.take | apply SubL.drop)) ?_ | (refine oLdR1 rfl (by repeat (first | exact Pick.here | apply Pick.there)) (by decide) rfl (fun u22 hu22 => ?_))
          obtain rfl : sA = u22 := Option.some.inj hu22
          refine oWant rfl rfl ?_
          refine oSEq rfl rfl ?_
          refine oPickT rfl rfl ?_
          refine oMove rfl ?_
          first | refine oSplit (t := 25) rfl (fun h25 => ?_) (fun h25 => ?_) | refine oSplitB (t := 25) rfl (fun h25 => ?_) (fun h25 => ?_)
          ·
            refine oWant rfl rfl ?_
            refine oMove rfl ?_
            refine oWant rfl rfl ?_
            (refine oCall rfl (by kernel_rfl) (fun w hS => frame' hS .nil (fun B' hB hR hS' => name_Find hS' (some ⟨g21, 0, none⟩) c3 [sA, sB] (row_Cs (W := B.w) (e := 9) (n := 2) (cp := c3) (hR _ _ (by repeat (first | exact Pick.here | apply Pick.there)))) ⟨#[98]⟩)) ?_; rintro ⟨⟩ -)
            rw [f_b]
            refine oWant rfl rfl ?_
            refine oEql rfl rfl ?_
            refine oPickT rfl rfl ?_
            refine oMove rfl ?_
            first | refine oSplit (t := 30) rfl (fun h30 => ?_) (fun h30 => ?_) | refine oSplitB (t := 30) rfl (fun h30 => ?_) (fun h30 => ?_)
            ·
              refine oWant rfl rfl ?_
              (refine oCall rfl (by kernel_rfl) (fun w hS => frameK hS (by repeat' (first | exact Split.nil | exact Pick.here | apply Split.cons | apply Pick.there)) (fun B' hB hK hS' => name_Join hS' (Keeps.tabP hK hT) 2 ⟨by decide, by decide⟩ ⟨#[109, 97, 105, 110]⟩ (by decide))) ?_; rintro ⟨⟩ -)
              rw [j_main]
              refine oWant rfl rfl ?_
              refine oSEq rfl rfl ?_
              refine oPickT rfl rfl ?_
              refine oMove rfl ?_
              first | refine oSplit (t := 34) rfl (fun h34 => ?_) (fun h34 => ?_) | refine oSplitB (t := 34) rfl (fun h34 => ?_) (fun h34 => ?_)
              ·
                refine oWant rfl rfl ?_
                (refine oCall rfl (by kernel_rfl) (fun w hS => frameK hS (by repeat' (first | exact Split.nil | exact Pick.here | apply Split.cons | apply Pick.there)) (fun B' hB hK hS' => name_Join hS' (Keeps.tabP hK hT) (-1) ⟨by decide, by decide⟩ ⟨#[97]⟩ (by decide))) ?_; rintro ⟨⟩ -)
                rw [j_neg]
                refine oWant rfl rfl ?_
                refine oSEq rfl rfl ?_
                refine oPickT rfl rfl ?_
                refine oAssign rfl ?_
                refine oNil ?_
                refine thn_n ?_
                refine wRet ?_
                refine fin_r ?_
                refine ⟨rfl, _, (ResL.cons (ResR.tmp rfl) ResL.nil), ?_⟩
                exact ⟨(), trivial, rfl, (Leads.has (by repeat' (first | exact Has.nil | exact Pick.here | apply Has.cons | apply Pick.there)))⟩
              ·
                first | exact absurd rfl h34 | cases h34
            ·
              first | exact absurd rfl h30 | cases h30
          ·
            first | exact absurd rfl h25 | cases h25
        ·
          first | exact absurd rfl h19 | cases h19
      ·
        first | exact absurd rfl h14 | cases h14
    ·
      first | exact absurd rfl h10 | cases h10
  ·
    first | exact absurd rfl h6 | cases h6
theorem fewT_len {l : List ByteArray} (h : fewT l = true) : l.length ≤ 60 := by
  unfold fewT at h
  simp only [Bool.and_eq_true, decide_eq_true_eq] at h
  exact h.2
theorem in64_wf {z : Int} (h : (Lit.int .i64 z).wf = true) : in64 z := by
  have e1 : IntKind.i64.min = -9223372036854775808 := rfl
  have e2 : IntKind.i64.max = 9223372036854775807 := rfl
  simp [Lit.wf, e1, e2] at h
  exact ⟨by omega, by omega⟩
set_option maxRecDepth 100000 in
set_option maxHeartbeats 1000000 in
theorem nameTells {B : Base} {w : World} (hS : St B [] w) (hT : TabP Tryd.prog B.e) (s : ByteArray) (file : Int) (hf : in64 file) (A : Option Addr) (cp : Nat) (l : List ByteArray) (hC : Kd.string.C B.e A l) :
    CallsIn Fence.wide 0 Tryd.prog 3 #[.string s, .int .i64 file, .slice A l.length cp] w (Ret B (fun _ : Unit => True) (fun _ => .bool true) (fun _ => [])) := by
  (refine enter Tryd.func3 rfl rfl hS ?_; simp only [List.zipIdx_cons, List.zipIdx_nil, List.map_cons, List.map_nil, Nat.reduceAdd, Nat.zero_add])
  refine wSeq ?_
  refine wRegion' ?_
  refine oAssign rfl ?_
  refine oNil ?_
  refine thn_n ?_
  refine wSeq ?_
  refine wSeq ?_
  refine wRegion' ?_
  refine oMove rfl ?_
  refine oLenStr rfl rfl ?_
  refine oGtr rfl rfl ?_
  refine oMove rfl ?_
  first | refine oSplit (t := 10) rfl (fun h10 => ?_) (fun h10 => ?_) | refine oSplitB (t := 10) rfl (fun h10 => ?_) (fun h10 => ?_)
  ·
    refine oSkip rfl rfl rfl rfl ?_
    refine oSkip rfl rfl rfl rfl ?_
    refine oSkip rfl rfl rfl rfl ?_
    refine oPickT rfl rfl ?_
    refine oNil ?_
    refine thn_n ?_
    first | refine wCondT rfl ?_ | refine wCondTd h14 rfl ?_ | refine wCondTb h14 rfl ?_
    refine wSeq ?_
    refine wRegion' ?_
    (refine oCall rfl (by kernel_rfl) (fun w hS => frameK hS (by repeat' (first | exact Split.nil | exact Pick.here | apply Split.cons | apply Pick.there)) (fun B' hB hK hS' => known4 hS' (Keeps.tabP hK hT))) ?_; rintro ⟨⟩ -)
    refine oAssign rfl ?_
    refine oNil ?_
    refine thn_n ?_
    refine wRet ?_
    refine thn_r ?_
    refine fin_r ?_
    refine ⟨rfl, _, (ResL.cons (ResR.tmp rfl) ResL.nil), ?_⟩
    exact ⟨(), trivial, rfl, (Leads.has (by repeat' (first | exact Has.nil | exact Pick.here | apply Has.cons | apply Pick.there)))⟩
  ·
    refine oWant rfl rfl ?_
    refine oMove rfl ?_
    refine oWant rfl rfl ?_
    (refine oCall rfl (by kernel_rfl) (fun w hS => frame hS (by repeat' (first | exact Split.nil | exact Pick.here | apply Split.cons | apply Pick.there)) (fun B' hB hS' => law4_few hS' A cp l (Kd.C_grow hB hC))) ?_; rintro ⟨⟩ -)
    refine oWant rfl rfl ?_
    first | refine oNot rfl ?_ | refine oNotB rfl ?_
    refine oPickF rfl rfl ?_
    refine oNil ?_
    refine thn_n ?_
    first | refine wCond rfl (fun h14 => ?_) (fun h14 => ?_) | refine wCondB rfl (fun h14 => ?_) (fun h14 => ?_)
    ·
      refine wSeq ?_
      refine wRegion' ?_
      (refine oCall rfl (by kernel_rfl) (fun w hS => frameK hS (by repeat' (first | exact Split.nil | exact Pick.here | apply Split.cons | apply Pick.there)) (fun B' hB hK hS' => known4 hS' (Keeps.tabP hK hT))) ?_; rintro ⟨⟩ -)
      refine oAssign rfl ?_
      refine oNil ?_
      refine thn_n ?_
      refine wRet ?_
      refine thn_r ?_
      refine fin_r ?_
      refine ⟨rfl, _, (ResL.cons (ResR.tmp rfl) ResL.nil), ?_⟩
      exact ⟨(), trivial, rfl, (Leads.has (by repeat' (first | exact Has.nil | exact Pick.here | apply Has.cons | apply Pick.there)))⟩
    ·
      refine wSkip ?_
      refine thn_n ?_
      refine wSeq ?_
      refine wRegion' ?_
      refine oMove rfl ?_
      have hl : l.length ≤ 60 := fewT_len (by simpa using h14)
      have hs : s.size ≤ 200 := by omega
      (refine oCall rfl (by kernel_rfl) (fun w hS => frame hS (by repeat' (first | exact Split.nil | exact Pick.here | apply Split.cons | apply Pick.there)) (fun B' hB hS' => name_Check hS' s)) ?_; rintro ⟨⟩ -)
      refine oMove rfl ?_
      (refine oCall rfl (by kernel_rfl) (fun w hS => frame hS (by repeat' (first | exact Split.nil | exact Pick.here | apply Split.cons | apply Pick.there)) (fun B' hB hS' => ref4_Check hS' s)) ?_; rintro ⟨⟩ -)
      refine oEql rfl rfl ?_
      refine oMove rfl ?_
      first | refine oSplit (t := 21) rfl (fun h21 => ?_) (fun h21 => ?_) | refine oSplitB (t := 21) rfl (fun h21 => ?_) (fun h21 => ?_)
      ·
        refine oWant rfl rfl ?_
        refine oMove rfl ?_
        refine oWant rfl rfl ?_
        refine oMove rfl ?_
        refine oWant rfl rfl ?_
        (refine oCall rfl (by kernel_rfl) (fun w hS => frameK hS (by repeat' (first | exact Split.nil | exact Pick.here | apply Split.cons | apply Pick.there)) (fun B' hB hK hS' => name_Join hS' (Keeps.tabP hK hT) file hf s (by omega))) ?_; rintro ⟨⟩ -)
        refine oWant rfl rfl ?_
        refine oMove rfl ?_
        refine oWant rfl rfl ?_
        refine oMove rfl ?_
        refine oWant rfl rfl ?_
        (refine oCall rfl (by kernel_rfl) (fun w hS => frame hS (by repeat' (first | exact Split.nil | exact Pick.here | apply Split.cons | apply Pick.there)) (fun B' hB hS' => ref4_Join hS' file hf s (by omega))) ?_; rintro ⟨⟩ -)
        refine oWant rfl rfl ?_
        refine oSEq rfl rfl ?_
        refine oPickT rfl rfl ?_
        refine oMove rfl ?_
        first | refine oSplit (t := 30) rfl (fun h30 => ?_) (fun h30 => ?_) | refine oSplitB (t := 30) rfl (fun h30 => ?_) (fun h30 => ?_)
        ·
          refine oWant rfl rfl ?_
          refine oMove rfl ?_
          refine oWant rfl rfl ?_
          refine oMove rfl ?_
          refine oWant rfl rfl ?_
          (refine oCall rfl (by kernel_rfl) (fun w hS => frame hS (by repeat' (first | exact Split.nil | exact Pick.here | apply Split.cons | apply Pick.there)) (fun B' hB hS' => name_Find hS' A cp l (Kd.C_grow hB hC) s)) ?_; rintro ⟨⟩ -)
          refine oWant rfl rfl ?_
          refine oMove rfl ?_
          refine oWant rfl rfl ?_
          refine oMove rfl ?_
          refine oWant rfl rfl ?_
          (refine oCall rfl (by kernel_rfl) (fun w hS => frame hS (by repeat' (first | exact Split.nil | exact Pick.here | apply Split.cons | apply Pick.there)) (fun B' hB hS' => ref4_Find hS' A cp l (Kd.C_grow hB hC) (by omega) s)) ?_; rintro ⟨⟩ -)
          refine oWant rfl rfl ?_
          refine oEql rfl rfl ?_
          refine oPickT rfl rfl ?_
          refine oMove rfl ?_
          first | refine oSplit (t := 39) rfl (fun h39 => ?_) (fun h39 => ?_) | refine oSplitB (t := 39) rfl (fun h39 => ?_) (fun h39 => ?_)
          ·
            refine oWant rfl rfl ?_
            refine oMove rfl ?_
            refine oWant rfl rfl ?_
            (refine oCall rfl (by kernel_rfl) (fun w hS => frame hS (by repeat' (first | exact Split.nil | exact Pick.here | apply Split.cons | apply Pick.there)) (fun B' hB hS' => name_Sort hS' A cp l (Kd.C_grow hB hC) (by omega) B.w)) ?_; rintro ⟨A41, c41⟩ -)
            refine oWant rfl rfl ?_
            refine oMove rfl ?_
            refine oWant rfl rfl ?_
            (refine oCall rfl (by kernel_rfl) (fun w hS => frame hS (by repeat' (first | exact Split.nil | exact Pick.here | apply Split.cons | apply Pick.there)) (fun B' hB hS' => ref4_Sort hS' A cp l (Kd.C_grow hB hC) (by omega) B.w)) ?_; rintro ⟨A43, c43⟩ -)
            refine oWant rfl rfl ?_
            (refine oCall rfl (by kernel_rfl) (fun w hS => frame' hS .nil (fun B' hB hR hS' => ref1_Texts hS' A41 c41 (srt4 l) (row_Cs (W := B.w) (e := 9) (n := (srt4 l).length) (cp := c41) (hR _ _ (by repeat (first | exact Pick.here | apply Pick.there)))) A43 c43 (srt4 l) (row_Cs (W := B.w) (e := 9) (n := (srt4 l).length) (cp := c43) (hR _ _ (by repeat (first | exact Pick.here | apply Pick.there)))) (by have := srt4_len l; omega))) ?_; rintro ⟨⟩ -)
            refine oPickT rfl rfl ?_
            refine oMove rfl ?_
            first | refine oSplit (t := 46) rfl (fun h46 => ?_) (fun h46 => ?_) | refine oSplitB (t := 46) rfl (fun h46 => ?_) (fun h46 => ?_)
            ·
              refine oWant rfl rfl ?_
              (refine oCall rfl (by kernel_rfl) (fun w hS => frameK hS (by repeat' (first | exact Split.nil | exact Pick.here | apply Split.cons | apply Pick.there)) (fun B' hB hK hS' => known4 hS' (Keeps.tabP hK hT))) ?_; rintro ⟨⟩ -)
              refine oPickT rfl rfl ?_
              refine oAssign rfl ?_
              refine oNil ?_
              refine thn_n ?_
              refine wRet ?_
              refine fin_r ?_
              refine ⟨rfl, _, (ResL.cons (ResR.tmp rfl) ResL.nil), ?_⟩
              exact ⟨(), trivial, rfl, (Leads.has (by repeat' (first | exact Has.nil | exact Pick.here | apply Has.cons | apply Pick.there)))⟩
            ·
              exact absurd rfl h46
          ·
            exact absurd rfl h39
        ·
          exact absurd rfl h30
      ·
        exact absurd rfl h21
end Go.Proofs.YtcacohoanlljhaaDoorN
