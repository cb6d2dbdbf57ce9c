import Derived.Test.YtcacohoanlljhaaGreatKha
import Derived.Test.YtcacohoanlljhaaGreatKt
import Derived.Test.YtcacohoanlljhaaGreatLay

/-
  Packages sig, op, instr: what they tell.
-/
namespace Go.Proofs.YtcacohoanlljhaaGreatV
set_option linter.unusedVariables false
set_option linter.unusedSimpArgs false
open Go.RowKit Go.Proofs.YtcacohoanlljhaaGreatK Go.Proofs.YtcacohoanlljhaaGreatT Go.Proofs.YtcacohoanlljhaaGreatL

/-! ### classes -/
def isC (c : Int) : Bool := decide (0 ≤ c) && decide (c < 8)
def parF (c : Int) : Int := if isC c then c / 2 else 0
def ansF (c : Int) : Bool := isC c && decide (c % 2 = 1)
def latF (c : Int) : Bool := isC c && !ansF c && decide (parF c ≤ 1)
theorem isC_iff {c : Int} : isC c = true ↔ 0 ≤ c ∧ c < 8 := by simp [isC]
theorem parF_in (c : Int) : 0 ≤ parF c ∧ parF c ≤ 3 := by
  unfold parF
  split
  · next h => have := isC_iff.1 h; omega
  · omega
set_option maxRecDepth 100000 in
theorem sig_Is {B : Base} {w : World} (hS : St B [] w) (c : Int) :
    CallsIn Fence.wide 0 Tryz.prog 53 #[.int .i64 c] w (Ret B (fun _ : Unit => True) (fun _ => .bool (isC c)) (fun _ => [])) := by
  (refine enter Tryz.func53 rfl rfl hS ?_; simp only [List.zipIdx_cons, List.zipIdx_nil, List.map_cons, List.map_nil, Nat.reduceAdd, Nat.zero_add])
  refine wSeq ?_
  refine wRegion' ?_
  refine oAssign rfl ?_
  refine oNil ?_
  refine thn_n ?_
  refine wSeq ?_
  refine wRegion' ?_
  refine oMove rfl ?_
  refine oGeq rfl rfl ?_
  refine oMove rfl ?_
  first | refine oSplit (t := 5) rfl (fun h5 => ?_) (fun h5 => ?_) | refine oSplitB (t := 5) rfl (fun h5 => ?_) (fun h5 => ?_)
  ·
    refine oWant rfl rfl ?_
    refine oMove rfl ?_
    refine oWant rfl rfl ?_
    refine oLss rfl rfl ?_
    refine oPickT rfl rfl ?_
    refine oAssign rfl ?_
    refine oNil ?_
    refine thn_n ?_
    refine wRet ?_
    refine fin_r ?_
    refine ⟨rfl, _, (ResL.cons (ResR.tmp rfl) ResL.nil), ?_⟩
    exact ⟨(), trivial, by simp_all [resVal, isC] <;> omega, (Leads.has (by repeat' (first | exact Has.nil | exact Pick.here | apply Has.cons | apply Pick.there)))⟩
  ·
    refine oSkip rfl rfl rfl rfl ?_
    refine oSkip rfl rfl rfl rfl ?_
    refine oPickF rfl rfl ?_
    refine oAssign rfl ?_
    refine oNil ?_
    refine thn_n ?_
    refine wRet ?_
    refine fin_r ?_
    refine ⟨rfl, _, (ResL.cons (ResR.tmp rfl) ResL.nil), ?_⟩
    exact ⟨(), trivial, by simp_all [resVal, isC] <;> omega, (Leads.has (by repeat' (first | exact Has.nil | exact Pick.here | apply Has.cons | apply Pick.there)))⟩
set_option maxRecDepth 100000 in
theorem sig_Params {B : Base} {w : World} (hS : St B [] w) (c : Int) :
    CallsIn Fence.wide 0 Tryz.prog 104 #[.int .i64 c] w (Ret B (fun _ : Unit => True) (fun _ => .int .i64 (parF c)) (fun _ => [])) := by
  (refine enter Tryz.func104 rfl rfl hS ?_; simp only [List.zipIdx_cons, List.zipIdx_nil, List.map_cons, List.map_nil, Nat.reduceAdd, Nat.zero_add])
  refine wSeq ?_
  refine wRegion' ?_
  refine oAssign rfl ?_
  refine oNil ?_
  refine thn_n ?_
  refine wSeq ?_
  refine wSeq ?_
  refine wRegion' ?_
  refine oMove rfl ?_
  (refine oCall rfl (by kernel_rfl) (fun w hS => frame hS (by repeat' (first | exact Split.nil | exact Pick.here | apply Split.cons | apply Pick.there)) (fun B' hB hS' => sig_Is hS' c)) ?_; rintro ⟨⟩ -)
  first | refine oNot rfl ?_ | refine oNotB rfl ?_
  refine oNil ?_
  refine thn_n ?_
  first | refine wCond rfl (fun h5 => ?_) (fun h5 => ?_) | refine wCondB rfl (fun h5 => ?_) (fun h5 => ?_)
  ·
    refine wSeq ?_
    refine wRegion' ?_
    refine oAssign rfl ?_
    refine oNil ?_
    refine thn_n ?_
    refine wRet ?_
    refine thn_r ?_
    refine fin_r ?_
    refine ⟨rfl, _, (ResL.cons (ResR.tmp rfl) ResL.nil), ?_⟩
    exact ⟨(), trivial, by simp_all [resVal, parF], (Leads.has (by repeat' (first | exact Has.nil | exact Pick.here | apply Has.cons | apply Pick.there)))⟩
  ·
    refine wSkip ?_
    refine thn_n ?_
    refine wSeq ?_
    refine wRegion' ?_
    refine oMove rfl ?_
    refine oShr1 rfl rfl ?_
    refine oAssign rfl ?_
    refine oNil ?_
    refine thn_n ?_
    refine wRet ?_
    refine fin_r ?_
    refine ⟨rfl, _, (ResL.cons (ResR.tmp rfl) ResL.nil), ?_⟩
    exact ⟨(), trivial, by simp_all [resVal, parF], (Leads.has (by repeat' (first | exact Has.nil | exact Pick.here | apply Has.cons | apply Pick.there)))⟩
set_option maxRecDepth 100000 in
theorem sig_Answers {B : Base} {w : World} (hS : St B [] w) (c : Int) :
    CallsIn Fence.wide 0 Tryz.prog 103 #[.int .i64 c] w (Ret B (fun _ : Unit => True) (fun _ => .bool (ansF c)) (fun _ => [])) := by
  (refine enter Tryz.func103 rfl rfl hS ?_; simp only [List.zipIdx_cons, List.zipIdx_nil, List.map_cons, List.map_nil, Nat.reduceAdd, Nat.zero_add])
  refine wSeq ?_
  refine wRegion' ?_
  refine oAssign rfl ?_
  refine oNil ?_
  refine thn_n ?_
  refine wSeq ?_
  refine wRegion' ?_
  refine oMove rfl ?_
  (refine oCall rfl (by kernel_rfl) (fun w hS => frame hS (by repeat' (first | exact Split.nil | exact Pick.here | apply Split.cons | apply Pick.there)) (fun B' hB hS' => sig_Is hS' c)) ?_; rintro ⟨⟩ -)
  refine oMove rfl ?_
  first | refine oSplit (t := 5) rfl (fun h5 => ?_) (fun h5 => ?_) | refine oSplitB (t := 5) rfl (fun h5 => ?_) (fun h5 => ?_)
  ·
    refine oWant rfl rfl ?_
    refine oMove rfl ?_
    refine oWant rfl rfl ?_
    refine oAnd1 rfl rfl ?_
    refine oWant rfl rfl ?_
    refine oEql rfl rfl ?_
    refine oPickT rfl rfl ?_
    refine oAssign rfl ?_
    refine oNil ?_
    refine thn_n ?_
    refine wRet ?_
    refine fin_r ?_
    refine ⟨rfl, _, (ResL.cons (ResR.tmp rfl) ResL.nil), ?_⟩
    exact ⟨(), trivial, by simp_all [resVal, ansF], (Leads.has (by repeat' (first | exact Has.nil | exact Pick.here | apply Has.cons | apply Pick.there)))⟩
  ·
    refine oSkip rfl rfl rfl rfl ?_
    refine oSkip rfl rfl rfl rfl ?_
    refine oSkip rfl rfl rfl rfl ?_
    refine oPickF rfl rfl ?_
    refine oAssign rfl ?_
    refine oNil ?_
    refine thn_n ?_
    refine wRet ?_
    refine fin_r ?_
    refine ⟨rfl, _, (ResL.cons (ResR.tmp rfl) ResL.nil), ?_⟩
    exact ⟨(), trivial, by simp_all [resVal, ansF], (Leads.has (by repeat' (first | exact Has.nil | exact Pick.here | apply Has.cons | apply Pick.there)))⟩
set_option maxRecDepth 100000 in
theorem sig_Later {B : Base} {w : World} (hS : St B [] w) (c : Int) :
    CallsIn Fence.wide 0 Tryz.prog 54 #[.int .i64 c] w (Ret B (fun _ : Unit => True) (fun _ => .bool (latF c)) (fun _ => [])) := by
  (refine enter Tryz.func54 rfl rfl hS ?_; simp only [List.zipIdx_cons, List.zipIdx_nil, List.map_cons, List.map_nil, Nat.reduceAdd, Nat.zero_add])
  refine wSeq ?_
  refine wRegion' ?_
  refine oAssign rfl ?_
  refine oNil ?_
  refine thn_n ?_
  refine wSeq ?_
  refine wRegion' ?_
  refine oMove rfl ?_
  (refine oCall rfl (by kernel_rfl) (fun w hS => frame hS (by repeat' (first | exact Split.nil | exact Pick.here | apply Split.cons | apply Pick.there)) (fun B' hB hS' => sig_Is hS' c)) ?_; rintro ⟨⟩ -)
  refine oMove rfl ?_
  first | refine oSplit (t := 5) rfl (fun h5 => ?_) (fun h5 => ?_) | refine oSplitB (t := 5) rfl (fun h5 => ?_) (fun h5 => ?_)
  ·
    refine oWant rfl rfl ?_
    refine oMove rfl ?_
    refine oWant rfl rfl ?_
    (refine oCall rfl (by kernel_rfl) (fun w hS => frame hS (by repeat' (first | exact Split.nil | exact Pick.here | apply Split.cons | apply Pick.there)) (fun B' hB hS' => sig_Answers hS' c)) ?_; rintro ⟨⟩ -)
    refine oWant rfl rfl ?_
    first | refine oNot rfl ?_ | refine oNotB rfl ?_
    refine oPickT rfl rfl ?_
    refine oMove rfl ?_
    first | refine oSplit (t := 10) rfl (fun h10 => ?_) (fun h10 => ?_) | refine oSplitB (t := 10) rfl (fun h10 => ?_) (fun h10 => ?_)
    ·
      refine oWant rfl rfl ?_
      refine oMove rfl ?_
      refine oWant rfl rfl ?_
      (refine oCall rfl (by kernel_rfl) (fun w hS => frame hS (by repeat' (first | exact Split.nil | exact Pick.here | apply Split.cons | apply Pick.there)) (fun B' hB hS' => sig_Params hS' c)) ?_; rintro ⟨⟩ -)
      refine oWant rfl rfl ?_
      refine oLeq rfl rfl ?_
      refine oPickT rfl rfl ?_
      refine oAssign rfl ?_
      refine oNil ?_
      refine thn_n ?_
      refine wRet ?_
      refine fin_r ?_
      refine ⟨rfl, _, (ResL.cons (ResR.tmp rfl) ResL.nil), ?_⟩
      exact ⟨(), trivial, by simp_all [resVal, latF], (Leads.has (by repeat' (first | exact Has.nil | exact Pick.here | apply Has.cons | apply Pick.there)))⟩
    ·
      refine oSkip rfl rfl rfl rfl ?_
      refine oSkip rfl rfl rfl rfl ?_
      refine oSkip rfl rfl rfl rfl ?_
      refine oPickF rfl rfl ?_
      refine oAssign rfl ?_
      refine oNil ?_
      refine thn_n ?_
      refine wRet ?_
      refine fin_r ?_
      refine ⟨rfl, _, (ResL.cons (ResR.tmp rfl) ResL.nil), ?_⟩
      exact ⟨(), trivial, by simp_all [resVal, latF], (Leads.has (by repeat' (first | exact Has.nil | exact Pick.here | apply Has.cons | apply Pick.there)))⟩
  ·
    refine oSkip rfl rfl rfl rfl ?_
    refine oSkip rfl rfl rfl rfl ?_
    refine oSkip rfl rfl rfl rfl ?_
    refine oPickF rfl rfl ?_
    refine oMove rfl ?_
    refine oSkip rfl rfl rfl rfl ?_
    refine oSkip rfl rfl rfl rfl ?_
    refine oSkip rfl rfl rfl rfl ?_
    refine oPickF rfl rfl ?_
    refine oAssign rfl ?_
    refine oNil ?_
    refine thn_n ?_
    refine wRet ?_
    refine fin_r ?_
    refine ⟨rfl, _, (ResL.cons (ResR.tmp rfl) ResL.nil), ?_⟩
    exact ⟨(), trivial, by simp_all [resVal, latF], (Leads.has (by repeat' (first | exact Has.nil | exact Pick.here | apply Has.cons | apply Pick.there)))⟩
set_option maxRecDepth 100000 in
theorem sig_Class {B : Base} {w : World} (hS : St B [] w) (k : Int) :
    CallsIn Fence.wide 0 Tryz.prog 142 #[.int .i64 k] w (Ret B (fun _ : Unit => True) (fun _ => .tuple #[.int .i64 (if isC (IntKind.i64.wrap (k - 1)) then IntKind.i64.wrap (k - 1) else 0), .bool (isC (IntKind.i64.wrap (k - 1)))]) (fun _ => [])) := by
  generalize hz : IntKind.i64.wrap (k - 1) = z
  (refine enter Tryz.func142 rfl rfl hS ?_; simp only [List.zipIdx_cons, List.zipIdx_nil, List.map_cons, List.map_nil, Nat.reduceAdd, Nat.zero_add])
  refine wSeq ?_
  refine wRegion' ?_
  refine oAssign rfl ?_
  refine oAssign rfl ?_
  refine oNil ?_
  refine thn_n ?_
  refine wSeq ?_
  refine wSeq ?_
  refine wRegion' ?_
  refine oMove rfl ?_
  refine oSubW rfl rfl ?_
  rw [hz]
  (refine oCall rfl (by kernel_rfl) (fun w hS => frame hS (by repeat' (first | exact Split.nil | exact Pick.here | apply Split.cons | apply Pick.there)) (fun B' hB hS' => sig_Is hS' z)) ?_; rintro ⟨⟩ -)
  first | refine oNot rfl ?_ | refine oNotB rfl ?_
  refine oNil ?_
  refine thn_n ?_
  first | refine wCond rfl (fun h7 => ?_) (fun h7 => ?_) | refine wCondB rfl (fun h7 => ?_) (fun h7 => ?_)
  ·
    refine wSeq ?_
    refine wRegion' ?_
    refine oAssign rfl ?_
    refine oAssign rfl ?_
    refine oNil ?_
    refine thn_n ?_
    refine wRet ?_
    refine thn_r ?_
    refine fin_r ?_
    refine ⟨rfl, _, (ResL.cons (ResR.tmp rfl) (ResL.cons (ResR.tmp rfl) ResL.nil)), ?_⟩
    exact ⟨(), trivial, by simp_all [resVal], (Leads.has (by repeat' (first | exact Has.nil | exact Pick.here | apply Has.cons | apply Pick.there)))⟩
  ·
    refine wSkip ?_
    refine thn_n ?_
    refine wSeq ?_
    refine wRegion' ?_
    refine oMove rfl ?_
    refine oSubW rfl rfl ?_
    rw [hz]
    refine oAssign rfl ?_
    refine oAssign rfl ?_
    refine oNil ?_
    refine thn_n ?_
    refine wRet ?_
    refine fin_r ?_
    refine ⟨rfl, _, (ResL.cons (ResR.tmp rfl) (ResL.cons (ResR.tmp rfl) ResL.nil)), ?_⟩
    exact ⟨(), trivial, by simp_all [resVal], (Leads.has (by repeat' (first | exact Has.nil | exact Pick.here | apply Has.cons | apply Pick.there)))⟩
/-! ### kinds' texts -/
def textsL : List ByteArray := [⟨#[110]⟩, ⟨#[102, 48]⟩, ⟨#[102, 48, 114]⟩, ⟨#[102, 49]⟩, ⟨#[102, 49, 114]⟩, ⟨#[102, 50]⟩, ⟨#[102, 50, 114]⟩, ⟨#[102, 51]⟩, ⟨#[102, 51, 114]⟩]
def textF (k : Int) : ByteArray := if 0 ≤ k ∧ k < 9 then textsL.getD k.toNat ByteArray.empty else ByteArray.empty
theorem textF_no {k : Int} : textF k = ByteArray.empty ↔ ¬ (0 ≤ k ∧ k < 9) := by
  unfold textF
  by_cases h : 0 ≤ k ∧ k < 9
  · rw [if_pos h]
    obtain ⟨n, rfl⟩ := Int.eq_ofNat_of_zero_le h.1
    have : ∀ n, n < 9 → textsL.getD n ByteArray.empty ≠ ByteArray.empty := by decide
    rw [Int.toNat_natCast]
    constructor
    · intro e; exact absurd e (this n (by omega))
    · intro e; exact absurd h e
  · rw [if_neg h]; simp [h]
theorem strs_at {L : List ByteArray} {k n : Nat} (hn : L.length = n) (h : k < n) : (L.map Value.string)[k]? = some (.string (L.getD k ByteArray.empty)) := by
  subst hn
  rw [List.getElem?_map, List.getD_eq_getElem?_getD, List.getElem?_eq_getElem h]; rfl
set_option maxRecDepth 100000 in
theorem sig_texts {B : Base} {w : World} (hS : St B [] w) (W0 : World) :
    CallsIn Fence.wide 0 Tryz.prog 165 #[] w (Ret B (fun _ : Nat => True) (fun b => .slice (some ⟨b, 0, none⟩) 9 9) (fun b => [row Kd.string W0 9 (.slice (some ⟨b, 0, none⟩) 9 9) textsL])) := by
  (refine enter Tryz.func165 rfl rfl hS ?_; simp only [List.zipIdx_cons, List.zipIdx_nil, List.map_cons, List.map_nil, Nat.reduceAdd, Nat.zero_add])
  refine wSeq ?_
  refine wRegion' ?_
  refine oAssign rfl ?_
  refine oNil ?_
  refine thn_n ?_
  refine wSeq ?_
  refine wRegion' ?_
  refine oBuildSliceF (Parts.cons rfl (Parts.cons rfl (Parts.cons rfl (Parts.cons rfl (Parts.cons rfl (Parts.cons rfl (Parts.cons rfl (Parts.cons rfl (Parts.cons rfl Parts.nil))))))))) rfl rfl rfl rfl rfl (Fulls.cons (by first | exact CellsOf.agg | exact CellsOf.one rfl) rfl (Fulls.cons (by first | exact CellsOf.agg | exact CellsOf.one rfl) rfl (Fulls.cons (by first | exact CellsOf.agg | exact CellsOf.one rfl) rfl (Fulls.cons (by first | exact CellsOf.agg | exact CellsOf.one rfl) rfl (Fulls.cons (by first | exact CellsOf.agg | exact CellsOf.one rfl) rfl (Fulls.cons (by first | exact CellsOf.agg | exact CellsOf.one rfl) rfl (Fulls.cons (by first | exact CellsOf.agg | exact CellsOf.one rfl) rfl (Fulls.cons (by first | exact CellsOf.agg | exact CellsOf.one rfl) rfl (Fulls.cons (by first | exact CellsOf.agg | exact CellsOf.one rfl) rfl Fulls.nil (by repeat (first | exact AppL.nil | apply AppL.cons))) (by repeat (first | exact AppL.nil | apply AppL.cons))) (by repeat (first | exact AppL.nil | apply AppL.cons))) (by repeat (first | exact AppL.nil | apply AppL.cons))) (by repeat (first | exact AppL.nil | apply AppL.cons))) (by repeat (first | exact AppL.nil | apply AppL.cons))) (by repeat (first | exact AppL.nil | apply AppL.cons))) (by repeat (first | exact AppL.nil | apply AppL.cons))) (by repeat (first | exact AppL.nil | apply AppL.cons))) (fun b1 => ?_)
  refine oAssign rfl ?_
  refine oNil ?_
  refine thn_n ?_
  refine wRet ?_
  refine fin_r ?_
  refine ⟨rfl, _, (ResL.cons (ResR.tmp rfl) ResL.nil), ?_⟩
  exact ⟨b1, trivial, rfl, Leads.trans (blk_row (enc := Value.string) (h1 := fun _ => rfl) (W := W0) (xs := textsL) (by repeat (first | exact Pick.here | apply Pick.there)) rfl rfl (by decide)) (Leads.has (by repeat' (first | exact Has.nil | exact Pick.here | apply Has.cons | apply Pick.there)))⟩
set_option maxRecDepth 100000 in
theorem sig_Text {B : Base} {w : World} (hS : St B [] w) (k : Int) :
    CallsIn Fence.wide 0 Tryz.prog 134 #[.int .i64 k] w (Ret B (fun _ : Unit => True) (fun _ => .string (textF k)) (fun _ => [])) := by
  (refine enter Tryz.func134 rfl rfl hS ?_; simp only [List.zipIdx_cons, List.zipIdx_nil, List.map_cons, List.map_nil, Nat.reduceAdd, Nat.zero_add])
  refine wSeq ?_
  refine wRegion' ?_
  refine oAssign rfl ?_
  refine oNil ?_
  refine thn_n ?_
  refine wSeq ?_
  refine wRegion' ?_
  (refine oCall rfl (by kernel_rfl) (fun w hS => frame hS (by repeat' (first | exact Split.nil | exact Pick.here | apply Split.cons | apply Pick.there)) (fun B' hB hS' => sig_texts hS' B.e)) ?_; rintro b4 -)
  refine oAssign rfl ?_
  refine oNil ?_
  refine thn_n ?_
  refine wSeq ?_
  refine wSeq ?_
  refine wRegion' ?_
  refine oMove rfl ?_
  refine oLss rfl rfl ?_
  refine oMove rfl ?_
  first | refine oSplit (t := 7) rfl (fun h7 => ?_) (fun h7 => ?_) | refine oSplitB (t := 7) rfl (fun h7 => ?_) (fun h7 => ?_)
  ·
    refine oSkip rfl rfl rfl rfl ?_
    refine oSkip rfl rfl rfl rfl ?_
    refine oSkip rfl rfl rfl rfl ?_
    refine oSkip rfl rfl rfl rfl ?_
    refine oPickT rfl rfl ?_
    refine oNil ?_
    refine thn_n ?_
    first | refine wCondT rfl ?_ | refine wCondTd h12 rfl ?_ | refine wCondTb h12 rfl ?_
    refine wSeq ?_
    refine wRegion' ?_
    refine oAssign rfl ?_
    refine oNil ?_
    refine thn_n ?_
    refine wRet ?_
    refine thn_r ?_
    refine fin_r ?_
    refine ⟨rfl, _, (ResL.cons (ResR.tmp rfl) ResL.nil), ?_⟩
    exact ⟨(), trivial, by unfold textF; rw [if_neg (by omega)]; rfl, (Leads.has (by repeat' (first | exact Has.nil | exact Pick.here | apply Has.cons | apply Pick.there)))⟩
  ·
    refine oWant rfl rfl ?_
    refine oMove rfl ?_
    refine oWant rfl rfl ?_
    refine oMove rfl ?_
    refine oWant rfl rfl ?_
    refine oLenS rfl rfl ?_
    refine oWant rfl rfl ?_
    refine oGeq rfl rfl ?_
    refine oPickF rfl rfl ?_
    refine oNil ?_
    refine thn_n ?_
    first | refine wCond rfl (fun h12 => ?_) (fun h12 => ?_) | refine wCondB rfl (fun h12 => ?_) (fun h12 => ?_)
    ·
      refine wSeq ?_
      refine wRegion' ?_
      refine oAssign rfl ?_
      refine oNil ?_
      refine thn_n ?_
      refine wRet ?_
      refine thn_r ?_
      refine fin_r ?_
      refine ⟨rfl, _, (ResL.cons (ResR.tmp rfl) ResL.nil), ?_⟩
      exact ⟨(), trivial, by unfold textF; rw [if_neg (by omega)]; rfl, (Leads.has (by repeat' (first | exact Has.nil | exact Pick.here | apply Has.cons | apply Pick.there)))⟩
    ·
      obtain ⟨n, rfl⟩ := Int.eq_ofNat_of_zero_le (show 0 ≤ k by omega)
      have hn9 : n < 9 := by omega
      refine wSkip ?_
      refine thn_n ?_
      refine wSeq ?_
      refine wRegion' ?_
      refine oMove rfl ?_
      refine oMove rfl ?_
      refine oIdxR rfl rfl (by repeat (first | exact Pick.here | apply Pick.there)) (by first | exact hn9 | (show n < 9; omega)) rfl rfl (fun g15 hg15 => ?_)
      first | subst hg15 | (injection hg15 with hg15; injection hg15 with hg15; subst hg15)
      first | refine oLdX rfl hc15 rfl rfl ?_ | refine oLdXA rfl hc15 rfl (by repeat (first | exact SubL.done | apply SubL.take | apply SubL.drop)) ?_ | (refine oLdR1 rfl (by repeat (first | exact Pick.here | apply Pick.there)) (by first | exact hn9 | (show n < 9; omega)) rfl (fun u16 hu16 => ?_))
      obtain rfl : u16 = textsL.getD n ByteArray.empty := by rw [List.getD_eq_getElem?_getD, hu16]; rfl
      refine oAssign rfl ?_
      refine oNil ?_
      refine thn_n ?_
      refine wRet ?_
      refine fin_r ?_
      refine ⟨rfl, _, (ResL.cons (ResR.tmp rfl) ResL.nil), ?_⟩
      exact ⟨(), trivial, by unfold textF; rw [if_pos (by omega), Int.toNat_natCast]; rfl, (Leads.has (by repeat' (first | exact Has.nil | exact Pick.here | apply Has.cons | apply Pick.there)))⟩
/-! ### operations -/
def ownF (o : Int) : Bool := decide (1 ≤ o) && decide (o ≤ 24)
theorem ownF_iff {o : Int} : ownF o = true ↔ 1 ≤ o ∧ o ≤ 24 := by simp [ownF]
def needF (o : Int) : Int := if o = 19 then 1 else if o = 17 then 2 else if o = 15 ∨ o = 16 then 3 else if o = 18 then 4 else if o = 21 then 5 else 0
def endsF (o : Int) : Bool := decide (o = 11 ∨ o = 22 ∨ o = 24)
def shapesL : List ByteArray := [⟨#[45, 45, 45, 45]⟩, ⟨#[119, 45, 45, 110]⟩, ⟨#[119, 114, 45, 45]⟩, ⟨#[119, 114, 114, 45]⟩, ⟨#[119, 114, 114, 45]⟩, ⟨#[119, 114, 114, 45]⟩, ⟨#[119, 114, 114, 45]⟩, ⟨#[119, 114, 114, 45]⟩, ⟨#[119, 114, 114, 45]⟩, ⟨#[119, 114, 114, 45]⟩, ⟨#[45, 45, 45, 116]⟩, ⟨#[114, 45, 45, 116]⟩, ⟨#[119, 45, 45, 45]⟩, ⟨#[114, 45, 45, 45]⟩, ⟨#[119, 114, 45, 45]⟩, ⟨#[114, 114, 45, 45]⟩, ⟨#[103, 45, 45, 45]⟩, ⟨#[103, 114, 45, 45]⟩, ⟨#[99, 45, 45, 45]⟩, ⟨#[99, 102, 107, 45]⟩, ⟨#[100, 45, 45, 45]⟩, ⟨#[114, 45, 45, 45]⟩, ⟨#[119, 119, 45, 45]⟩, ⟨#[118, 45, 45, 45]⟩]
def namesL : List ByteArray := [⟨#[110, 111, 112]⟩, ⟨#[115, 101, 116]⟩, ⟨#[109, 111, 118, 101]⟩, ⟨#[97, 100, 100]⟩, ⟨#[115, 117, 98]⟩, ⟨#[109, 117, 108]⟩, ⟨#[100, 105, 118]⟩, ⟨#[109, 111, 100]⟩, ⟨#[108, 101, 115, 115]⟩, ⟨#[115, 97, 109, 101]⟩, ⟨#[106, 117, 109, 112]⟩, ⟨#[122, 101, 114, 111]⟩, ⟨#[105, 110]⟩, ⟨#[111, 117, 116]⟩, ⟨#[108, 111, 97, 100]⟩, ⟨#[115, 116, 111, 114, 101]⟩, ⟨#[102, 117, 110, 99]⟩, ⟨#[112, 105, 99, 107]⟩, ⟨#[99, 97, 108, 108]⟩, ⟨#[118, 105, 97]⟩, ⟨#[100, 101, 102, 101, 114]⟩, ⟨#[112, 97, 110, 105, 99]⟩, ⟨#[114, 101, 99, 111, 118, 101, 114]⟩, ⟨#[114, 101, 116, 117, 114, 110]⟩, ⟨#[99, 104, 101, 99, 107]⟩, ⟨#[101, 110, 116, 101, 114]⟩, ⟨#[98, 111, 116, 116, 111, 109]⟩, ⟨#[100, 114, 105, 118, 101, 114]⟩]
def shapeF (o : Int) : ByteArray := if ownF o then shapesL.getD (o - 1).toNat ByteArray.empty else ByteArray.empty
def nameF (o : Int) : ByteArray := if 1 ≤ o ∧ o ≤ 28 then namesL.getD (o - 1).toNat ByteArray.empty else ByteArray.empty
theorem nameF_no {o : Int} : nameF o = ByteArray.empty ↔ ¬ (1 ≤ o ∧ o ≤ 28) := by
  unfold nameF
  by_cases h : 1 ≤ o ∧ o ≤ 28
  · rw [if_pos h]
    obtain ⟨n, hn⟩ := Int.eq_ofNat_of_zero_le (show 0 ≤ o - 1 by omega)
    have : ∀ n, n < 28 → namesL.getD n ByteArray.empty ≠ ByteArray.empty := by decide
    rw [hn, Int.toNat_natCast]
    constructor
    · intro e; exact absurd e (this n (by omega))
    · intro e; exact absurd h e
  · rw [if_neg h]; simp [h]
theorem shapeF_size (o : Int) : (shapeF o).size = if ownF o then 4 else 0 := by
  unfold shapeF
  by_cases h : ownF o = true
  · rw [if_pos h, if_pos h]
    have h2 := ownF_iff.1 h
    have : ∀ n, n < 24 → (shapesL.getD n ByteArray.empty).size = 4 := by decide
    exact this _ (by omega)
  · rw [if_neg h, if_neg h]; rfl
theorem shapeF_asc (o : Int) : Asc (shapeF o) := by
  intro i hi
  have hs := shapeF_size o
  unfold shapeF at *
  by_cases h : ownF o = true
  · rw [if_pos h] at *
    rw [hs, if_pos h] at hi
    have h2 := ownF_iff.1 h
    have : ∀ n, n < 24 → ∀ i, i < 4 → byteAt (shapesL.getD n ByteArray.empty) i < 128 := by decide
    exact this _ (by omega) i hi
  · rw [if_neg h] at *
    exact absurd hi (Nat.not_lt_zero _)
set_option maxRecDepth 100000 in
theorem op_Own {B : Base} {w : World} (hS : St B [] w) (o : Int) :
    CallsIn Fence.wide 0 Tryz.prog 137 #[.int .i64 o] w (Ret B (fun _ : Unit => True) (fun _ => .bool (ownF o)) (fun _ => [])) := by
  (refine enter Tryz.func137 rfl rfl hS ?_; simp only [List.zipIdx_cons, List.zipIdx_nil, List.map_cons, List.map_nil, Nat.reduceAdd, Nat.zero_add])
  refine wSeq ?_
  refine wRegion' ?_
  refine oAssign rfl ?_
  refine oNil ?_
  refine thn_n ?_
  refine wSeq ?_
  refine wRegion' ?_
  refine oMove rfl ?_
  refine oGeq rfl rfl ?_
  refine oMove rfl ?_
  first | refine oSplit (t := 5) rfl (fun h5 => ?_) (fun h5 => ?_) | refine oSplitB (t := 5) rfl (fun h5 => ?_) (fun h5 => ?_)
  ·
    refine oWant rfl rfl ?_
    refine oMove rfl ?_
    refine oWant rfl rfl ?_
    refine oLeq rfl rfl ?_
    refine oPickT rfl rfl ?_
    refine oAssign rfl ?_
    refine oNil ?_
    refine thn_n ?_
    refine wRet ?_
    refine fin_r ?_
    refine ⟨rfl, _, (ResL.cons (ResR.tmp rfl) ResL.nil), ?_⟩
    exact ⟨(), trivial, by simp_all [resVal, ownF] <;> omega, (Leads.has (by repeat' (first | exact Has.nil | exact Pick.here | apply Has.cons | apply Pick.there)))⟩
  ·
    refine oSkip rfl rfl rfl rfl ?_
    refine oSkip rfl rfl rfl rfl ?_
    refine oPickF rfl rfl ?_
    refine oAssign rfl ?_
    refine oNil ?_
    refine thn_n ?_
    refine wRet ?_
    refine fin_r ?_
    refine ⟨rfl, _, (ResL.cons (ResR.tmp rfl) ResL.nil), ?_⟩
    exact ⟨(), trivial, by simp_all [resVal, ownF] <;> omega, (Leads.has (by repeat' (first | exact Has.nil | exact Pick.here | apply Has.cons | apply Pick.there)))⟩
set_option maxRecDepth 100000 in
theorem op_Need {B : Base} {w : World} (hS : St B [] w) (o : Int) :
    CallsIn Fence.wide 0 Tryz.prog 101 #[.int .i64 o] w (Ret B (fun _ : Unit => True) (fun _ => .int .i64 (needF o)) (fun _ => [])) := by
  (refine enter Tryz.func101 rfl rfl hS ?_; simp only [List.zipIdx_cons, List.zipIdx_nil, List.map_cons, List.map_nil, Nat.reduceAdd, Nat.zero_add])
  refine wSeq ?_
  refine wRegion' ?_
  refine oAssign rfl ?_
  refine oNil ?_
  refine thn_n ?_
  refine wSeq ?_
  refine wSeq ?_
  refine wRegion' ?_
  refine oMove rfl ?_
  refine oNil ?_
  refine thn_n ?_
  refine wBlock ?_
  refine wSeq ?_
  refine wRegion' ?_
  refine oEql rfl rfl ?_
  refine oAssign rfl ?_
  refine oNil ?_
  refine thn_n ?_
  first | refine wCond rfl (fun h4 => ?_) (fun h4 => ?_) | refine wCondB rfl (fun h4 => ?_) (fun h4 => ?_)
  ·
    refine wSeq ?_
    refine wRegion' ?_
    refine oAssign rfl ?_
    refine oNil ?_
    refine thn_n ?_
    refine wRet ?_
    refine blk_r ?_
    refine thn_r ?_
    refine fin_r ?_
    refine ⟨rfl, _, (ResL.cons (ResR.tmp rfl) ResL.nil), ?_⟩
    exact ⟨(), trivial, by simp_all [resVal, needF], (Leads.has (by repeat' (first | exact Has.nil | exact Pick.here | apply Has.cons | apply Pick.there)))⟩
  ·
    refine wSeq ?_
    refine wRegion' ?_
    refine oEql rfl rfl ?_
    refine oAssign rfl ?_
    refine oNil ?_
    refine thn_n ?_
    first | refine wCond rfl (fun h6 => ?_) (fun h6 => ?_) | refine wCondB rfl (fun h6 => ?_) (fun h6 => ?_)
    ·
      refine wSeq ?_
      refine wRegion' ?_
      refine oAssign rfl ?_
      refine oNil ?_
      refine thn_n ?_
      refine wRet ?_
      refine blk_r ?_
      refine thn_r ?_
      refine fin_r ?_
      refine ⟨rfl, _, (ResL.cons (ResR.tmp rfl) ResL.nil), ?_⟩
      exact ⟨(), trivial, by simp_all [resVal, needF], (Leads.has (by repeat' (first | exact Has.nil | exact Pick.here | apply Has.cons | apply Pick.there)))⟩
    ·
      refine wSeq ?_
      refine wSeq ?_
      refine wRegion' ?_
      refine oEql rfl rfl ?_
      refine oAssign rfl ?_
      refine oNil ?_
      refine thn_n ?_
      first | refine wCond rfl (fun h8 => ?_) (fun h8 => ?_) | refine wCondB rfl (fun h8 => ?_) (fun h8 => ?_)
      ·
        refine wSkip ?_
        refine thn_n ?_
        first | refine wCondT rfl ?_ | refine wCondTd h8 rfl ?_ | refine wCondTb h8 rfl ?_
        refine wSeq ?_
        refine wRegion' ?_
        refine oAssign rfl ?_
        refine oNil ?_
        refine thn_n ?_
        refine wRet ?_
        refine blk_r ?_
        refine thn_r ?_
        refine fin_r ?_
        refine ⟨rfl, _, (ResL.cons (ResR.tmp rfl) ResL.nil), ?_⟩
        exact ⟨(), trivial, by simp_all [resVal, needF], (Leads.has (by repeat' (first | exact Has.nil | exact Pick.here | apply Has.cons | apply Pick.there)))⟩
      ·
        refine wRegion' ?_
        refine oEql rfl rfl ?_
        refine oAssign rfl ?_
        refine oNil ?_
        refine thn_n ?_
        first | refine wCond rfl (fun h8 => ?_) (fun h8 => ?_) | refine wCondB rfl (fun h8 => ?_) (fun h8 => ?_)
        ·
          refine wSeq ?_
          refine wRegion' ?_
          refine oAssign rfl ?_
          refine oNil ?_
          refine thn_n ?_
          refine wRet ?_
          refine blk_r ?_
          refine thn_r ?_
          refine fin_r ?_
          refine ⟨rfl, _, (ResL.cons (ResR.tmp rfl) ResL.nil), ?_⟩
          exact ⟨(), trivial, by simp_all [resVal, needF], (Leads.has (by repeat' (first | exact Has.nil | exact Pick.here | apply Has.cons | apply Pick.there)))⟩
        ·
          refine wSeq ?_
          refine wRegion' ?_
          refine oEql rfl rfl ?_
          refine oAssign rfl ?_
          refine oNil ?_
          refine thn_n ?_
          first | refine wCond rfl (fun h11 => ?_) (fun h11 => ?_) | refine wCondB rfl (fun h11 => ?_) (fun h11 => ?_)
          ·
            refine wSeq ?_
            refine wRegion' ?_
            refine oAssign rfl ?_
            refine oNil ?_
            refine thn_n ?_
            refine wRet ?_
            refine blk_r ?_
            refine thn_r ?_
            refine fin_r ?_
            refine ⟨rfl, _, (ResL.cons (ResR.tmp rfl) ResL.nil), ?_⟩
            exact ⟨(), trivial, by simp_all [resVal, needF], (Leads.has (by repeat' (first | exact Has.nil | exact Pick.here | apply Has.cons | apply Pick.there)))⟩
          ·
            refine wSeq ?_
            refine wRegion' ?_
            refine oEql rfl rfl ?_
            refine oAssign rfl ?_
            refine oNil ?_
            refine thn_n ?_
            first | refine wCond rfl (fun h13 => ?_) (fun h13 => ?_) | refine wCondB rfl (fun h13 => ?_) (fun h13 => ?_)
            ·
              refine wSeq ?_
              refine wRegion' ?_
              refine oAssign rfl ?_
              refine oNil ?_
              refine thn_n ?_
              refine wRet ?_
              refine blk_r ?_
              refine thn_r ?_
              refine fin_r ?_
              refine ⟨rfl, _, (ResL.cons (ResR.tmp rfl) ResL.nil), ?_⟩
              exact ⟨(), trivial, by simp_all [resVal, needF], (Leads.has (by repeat' (first | exact Has.nil | exact Pick.here | apply Has.cons | apply Pick.there)))⟩
            ·
              refine wSkip ?_
              refine blk_n ?_
              refine thn_n ?_
              refine wSeq ?_
              refine wRegion' ?_
              refine oAssign rfl ?_
              refine oNil ?_
              refine thn_n ?_
              refine wRet ?_
              refine fin_r ?_
              refine ⟨rfl, _, (ResL.cons (ResR.tmp rfl) ResL.nil), ?_⟩
              exact ⟨(), trivial, by simp_all [resVal, needF], (Leads.has (by repeat' (first | exact Has.nil | exact Pick.here | apply Has.cons | apply Pick.there)))⟩
set_option maxRecDepth 100000 in
theorem op_Ends {B : Base} {w : World} (hS : St B [] w) (o : Int) :
    CallsIn Fence.wide 0 Tryz.prog 195 #[.int .i64 o] w (Ret B (fun _ : Unit => True) (fun _ => .bool (endsF o)) (fun _ => [])) := by
  (refine enter Tryz.func195 rfl rfl hS ?_; simp only [List.zipIdx_cons, List.zipIdx_nil, List.map_cons, List.map_nil, Nat.reduceAdd, Nat.zero_add])
  refine wSeq ?_
  refine wRegion' ?_
  refine oAssign rfl ?_
  refine oNil ?_
  refine thn_n ?_
  refine wSeq ?_
  refine wRegion' ?_
  refine oMove rfl ?_
  refine oEql rfl rfl ?_
  refine oMove rfl ?_
  first | refine oSplit (t := 5) rfl (fun h5 => ?_) (fun h5 => ?_) | refine oSplitB (t := 5) rfl (fun h5 => ?_) (fun h5 => ?_)
  ·
    refine oSkip rfl rfl rfl rfl ?_
    refine oSkip rfl rfl rfl rfl ?_
    refine oPickT rfl rfl ?_
    refine oMove rfl ?_
    refine oSkip rfl rfl rfl rfl ?_
    refine oSkip rfl rfl rfl rfl ?_
    refine oPickT rfl rfl ?_
    refine oAssign rfl ?_
    refine oNil ?_
    refine thn_n ?_
    refine wRet ?_
    refine fin_r ?_
    refine ⟨rfl, _, (ResL.cons (ResR.tmp rfl) ResL.nil), ?_⟩
    exact ⟨(), trivial, by simp_all [resVal, endsF], (Leads.has (by repeat' (first | exact Has.nil | exact Pick.here | apply Has.cons | apply Pick.there)))⟩
  ·
    refine oWant rfl rfl ?_
    refine oMove rfl ?_
    refine oWant rfl rfl ?_
    refine oEql rfl rfl ?_
    refine oPickF rfl rfl ?_
    refine oMove rfl ?_
    first | refine oSplit (t := 9) rfl (fun h9 => ?_) (fun h9 => ?_) | refine oSplitB (t := 9) rfl (fun h9 => ?_) (fun h9 => ?_)
    ·
      refine oSkip rfl rfl rfl rfl ?_
      refine oSkip rfl rfl rfl rfl ?_
      refine oPickT rfl rfl ?_
      refine oAssign rfl ?_
      refine oNil ?_
      refine thn_n ?_
      refine wRet ?_
      refine fin_r ?_
      refine ⟨rfl, _, (ResL.cons (ResR.tmp rfl) ResL.nil), ?_⟩
      exact ⟨(), trivial, by simp_all [resVal, endsF], (Leads.has (by repeat' (first | exact Has.nil | exact Pick.here | apply Has.cons | apply Pick.there)))⟩
    ·
      refine oWant rfl rfl ?_
      refine oMove rfl ?_
      refine oWant rfl rfl ?_
      refine oEql rfl rfl ?_
      refine oPickF rfl rfl ?_
      refine oAssign rfl ?_
      refine oNil ?_
      refine thn_n ?_
      refine wRet ?_
      refine fin_r ?_
      refine ⟨rfl, _, (ResL.cons (ResR.tmp rfl) ResL.nil), ?_⟩
      exact ⟨(), trivial, by simp_all [resVal, endsF], (Leads.has (by repeat' (first | exact Has.nil | exact Pick.here | apply Has.cons | apply Pick.there)))⟩
set_option maxRecDepth 100000 in
theorem op_shapes {B : Base} {w : World} (hS : St B [] w) :
    CallsIn Fence.wide 0 Tryz.prog 149 #[] w (Ret B (fun _ : Unit => True) (fun _ => .agg (shapesL.map Value.string).toArray) (fun _ => [])) := by
  (refine enter Tryz.func149 rfl rfl hS ?_; simp only [List.zipIdx_cons, List.zipIdx_nil, List.map_cons, List.map_nil, Nat.reduceAdd, Nat.zero_add])
  refine wSeq ?_
  refine wRegion' ?_
  refine oAlloc rfl (by first | exact CellsOf.agg | exact CellsOf.one rfl) (fun b0 => ?_)
  refine oNil ?_
  refine thn_n ?_
  refine wSeq ?_
  refine wRegion' ?_
  refine oBuildArr (Parts.cons rfl (Parts.cons rfl (Parts.cons rfl (Parts.cons rfl (Parts.cons rfl (Parts.cons rfl (Parts.cons rfl (Parts.cons rfl (Parts.cons rfl (Parts.cons rfl (Parts.cons rfl (Parts.cons rfl (Parts.cons rfl (Parts.cons rfl (Parts.cons rfl (Parts.cons rfl (Parts.cons rfl (Parts.cons rfl (Parts.cons rfl (Parts.cons rfl (Parts.cons rfl (Parts.cons rfl (Parts.cons rfl (Parts.cons rfl Parts.nil)))))))))))))))))))))))) rfl rfl (Built.cons (off := 0) (s := 1) rfl (by first | exact CellsOf.agg | exact CellsOf.one rfl) rfl (by repeat (first | exact PutL.done | apply PutL.put | apply PutL.skip)) (Built.cons (off := 1) (s := 1) rfl (by first | exact CellsOf.agg | exact CellsOf.one rfl) rfl (by repeat (first | exact PutL.done | apply PutL.put | apply PutL.skip)) (Built.cons (off := 2) (s := 1) rfl (by first | exact CellsOf.agg | exact CellsOf.one rfl) rfl (by repeat (first | exact PutL.done | apply PutL.put | apply PutL.skip)) (Built.cons (off := 3) (s := 1) rfl (by first | exact CellsOf.agg | exact CellsOf.one rfl) rfl (by repeat (first | exact PutL.done | apply PutL.put | apply PutL.skip)) (Built.cons (off := 4) (s := 1) rfl (by first | exact CellsOf.agg | exact CellsOf.one rfl) rfl (by repeat (first | exact PutL.done | apply PutL.put | apply PutL.skip)) (Built.cons (off := 5) (s := 1) rfl (by first | exact CellsOf.agg | exact CellsOf.one rfl) rfl (by repeat (first | exact PutL.done | apply PutL.put | apply PutL.skip)) (Built.cons (off := 6) (s := 1) rfl (by first | exact CellsOf.agg | exact CellsOf.one rfl) rfl (by repeat (first | exact PutL.done | apply PutL.put | apply PutL.skip)) (Built.cons (off := 7) (s := 1) rfl (by first | exact CellsOf.agg | exact CellsOf.one rfl) rfl (by repeat (first | exact PutL.done | apply PutL.put | apply PutL.skip)) (Built.cons (off := 8) (s := 1) rfl (by first | exact CellsOf.agg | exact CellsOf.one rfl) rfl (by repeat (first | exact PutL.done | apply PutL.put | apply PutL.skip)) (Built.cons (off := 9) (s := 1) rfl (by first | exact CellsOf.agg | exact CellsOf.one rfl) rfl (by repeat (first | exact PutL.done | apply PutL.put | apply PutL.skip)) (Built.cons (off := 10) (s := 1) rfl (by first | exact CellsOf.agg | exact CellsOf.one rfl) rfl (by repeat (first | exact PutL.done | apply PutL.put | apply PutL.skip)) (Built.cons (off := 11) (s := 1) rfl (by first | exact CellsOf.agg | exact CellsOf.one rfl) rfl (by repeat (first | exact PutL.done | apply PutL.put | apply PutL.skip)) (Built.cons (off := 12) (s := 1) rfl (by first | exact CellsOf.agg | exact CellsOf.one rfl) rfl (by repeat (first | exact PutL.done | apply PutL.put | apply PutL.skip)) (Built.cons (off := 13) (s := 1) rfl (by first | exact CellsOf.agg | exact CellsOf.one rfl) rfl (by repeat (first | exact PutL.done | apply PutL.put | apply PutL.skip)) (Built.cons (off := 14) (s := 1) rfl (by first | exact CellsOf.agg | exact CellsOf.one rfl) rfl (by repeat (first | exact PutL.done | apply PutL.put | apply PutL.skip)) (Built.cons (off := 15) (s := 1) rfl (by first | exact CellsOf.agg | exact CellsOf.one rfl) rfl (by repeat (first | exact PutL.done | apply PutL.put | apply PutL.skip)) (Built.cons (off := 16) (s := 1) rfl (by first | exact CellsOf.agg | exact CellsOf.one rfl) rfl (by repeat (first | exact PutL.done | apply PutL.put | apply PutL.skip)) (Built.cons (off := 17) (s := 1) rfl (by first | exact CellsOf.agg | exact CellsOf.one rfl) rfl (by repeat (first | exact PutL.done | apply PutL.put | apply PutL.skip)) (Built.cons (off := 18) (s := 1) rfl (by first | exact CellsOf.agg | exact CellsOf.one rfl) rfl (by repeat (first | exact PutL.done | apply PutL.put | apply PutL.skip)) (Built.cons (off := 19) (s := 1) rfl (by first | exact CellsOf.agg | exact CellsOf.one rfl) rfl (by repeat (first | exact PutL.done | apply PutL.put | apply PutL.skip)) (Built.cons (off := 20) (s := 1) rfl (by first | exact CellsOf.agg | exact CellsOf.one rfl) rfl (by repeat (first | exact PutL.done | apply PutL.put | apply PutL.skip)) (Built.cons (off := 21) (s := 1) rfl (by first | exact CellsOf.agg | exact CellsOf.one rfl) rfl (by repeat (first | exact PutL.done | apply PutL.put | apply PutL.skip)) (Built.cons (off := 22) (s := 1) rfl (by first | exact CellsOf.agg | exact CellsOf.one rfl) rfl (by repeat (first | exact PutL.done | apply PutL.put | apply PutL.skip)) (Built.cons (off := 23) (s := 1) rfl (by first | exact CellsOf.agg | exact CellsOf.one rfl) rfl (by repeat (first | exact PutL.done | apply PutL.put | apply PutL.skip)) Built.nil)))))))))))))))))))))))) ?_
  refine oStA rfl rfl rfl rfl (by repeat (first | exact Pick.here | apply Pick.there)) (by rfl) ?_
  refine oNil ?_
  refine thn_n ?_
  refine wRet ?_
  refine fin_r ?_
  refine ⟨rfl, _, (ResL.cons (by first | exact ResR.cell rfl (by repeat (first | exact Pick.here | apply Pick.there)) rfl | exact ResR.agg rfl (by repeat (first | exact Pick.here | apply Pick.there)) rfl rfl) ResL.nil), ?_⟩
  exact ⟨(), trivial, rfl, (Leads.has (by repeat' (first | exact Has.nil | exact Pick.here | apply Has.cons | apply Pick.there)))⟩
set_option maxRecDepth 100000 in
theorem op_names {B : Base} {w : World} (hS : St B [] w) :
    CallsIn Fence.wide 0 Tryz.prog 187 #[] w (Ret B (fun _ : Unit => True) (fun _ => .agg (namesL.map Value.string).toArray) (fun _ => [])) := by
  (refine enter Tryz.func187 rfl rfl hS ?_; simp only [List.zipIdx_cons, List.zipIdx_nil, List.map_cons, List.map_nil, Nat.reduceAdd, Nat.zero_add])
  refine wSeq ?_
  refine wRegion' ?_
  refine oAlloc rfl (by first | exact CellsOf.agg | exact CellsOf.one rfl) (fun b0 => ?_)
  refine oNil ?_
  refine thn_n ?_
  refine wSeq ?_
  refine wRegion' ?_
  refine oBuildArr (Parts.cons rfl (Parts.cons rfl (Parts.cons rfl (Parts.cons rfl (Parts.cons rfl (Parts.cons rfl (Parts.cons rfl (Parts.cons rfl (Parts.cons rfl (Parts.cons rfl (Parts.cons rfl (Parts.cons rfl (Parts.cons rfl (Parts.cons rfl (Parts.cons rfl (Parts.cons rfl (Parts.cons rfl (Parts.cons rfl (Parts.cons rfl (Parts.cons rfl (Parts.cons rfl (Parts.cons rfl (Parts.cons rfl (Parts.cons rfl (Parts.cons rfl (Parts.cons rfl (Parts.cons rfl (Parts.cons rfl Parts.nil)))))))))))))))))))))))))))) rfl rfl (Built.cons (off := 0) (s := 1) rfl (by first | exact CellsOf.agg | exact CellsOf.one rfl) rfl (by repeat (first | exact PutL.done | apply PutL.put | apply PutL.skip)) (Built.cons (off := 1) (s := 1) rfl (by first | exact CellsOf.agg | exact CellsOf.one rfl) rfl (by repeat (first | exact PutL.done | apply PutL.put | apply PutL.skip)) (Built.cons (off := 2) (s := 1) rfl (by first | exact CellsOf.agg | exact CellsOf.one rfl) rfl (by repeat (first | exact PutL.done | apply PutL.put | apply PutL.skip)) (Built.cons (off := 3) (s := 1) rfl (by first | exact CellsOf.agg | exact CellsOf.one rfl) rfl (by repeat (first | exact PutL.done | apply PutL.put | apply PutL.skip)) (Built.cons (off := 4) (s := 1) rfl (by first | exact CellsOf.agg | exact CellsOf.one rfl) rfl (by repeat (first | exact PutL.done | apply PutL.put | apply PutL.skip)) (Built.cons (off := 5) (s := 1) rfl (by first | exact CellsOf.agg | exact CellsOf.one rfl) rfl (by repeat (first | exact PutL.done | apply PutL.put | apply PutL.skip)) (Built.cons (off := 6) (s := 1) rfl (by first | exact CellsOf.agg | exact CellsOf.one rfl) rfl (by repeat (first | exact PutL.done | apply PutL.put | apply PutL.skip)) (Built.cons (off := 7) (s := 1) rfl (by first | exact CellsOf.agg | exact CellsOf.one rfl) rfl (by repeat (first | exact PutL.done | apply PutL.put | apply PutL.skip)) (Built.cons (off := 8) (s := 1) rfl (by first | exact CellsOf.agg | exact CellsOf.one rfl) rfl (by repeat (first | exact PutL.done | apply PutL.put | apply PutL.skip)) (Built.cons (off := 9) (s := 1) rfl (by first | exact CellsOf.agg | exact CellsOf.one rfl) rfl (by repeat (first | exact PutL.done | apply PutL.put | apply PutL.skip)) (Built.cons (off := 10) (s := 1) rfl (by first | exact CellsOf.agg | exact CellsOf.one rfl) rfl (by repeat (first | exact PutL.done | apply PutL.put | apply PutL.skip)) (Built.cons (off := 11) (s := 1) rfl (by first | exact CellsOf.agg | exact CellsOf.one rfl) rfl (by repeat (first | exact PutL.done | apply PutL.put | apply PutL.skip)) (Built.cons (off := 12) (s := 1) rfl (by first | exact CellsOf.agg | exact CellsOf.one rfl) rfl (by repeat (first | exact PutL.done | apply PutL.put | apply PutL.skip)) (Built.cons (off := 13) (s := 1) rfl (by first | exact CellsOf.agg | exact CellsOf.one rfl) rfl (by repeat (first | exact PutL.done | apply PutL.put | apply PutL.skip)) (Built.cons (off := 14) (s := 1) rfl (by first | exact CellsOf.agg | exact CellsOf.one rfl) rfl (by repeat (first | exact PutL.done | apply PutL.put | apply PutL.skip)) (Built.cons (off := 15) (s := 1) rfl (by first | exact CellsOf.agg | exact CellsOf.one rfl) rfl (by repeat (first | exact PutL.done | apply PutL.put | apply PutL.skip)) (Built.cons (off := 16) (s := 1) rfl (by first | exact CellsOf.agg | exact CellsOf.one rfl) rfl (by repeat (first | exact PutL.done | apply PutL.put | apply PutL.skip)) (Built.cons (off := 17) (s := 1) rfl (by first | exact CellsOf.agg | exact CellsOf.one rfl) rfl (by repeat (first | exact PutL.done | apply PutL.put | apply PutL.skip)) (Built.cons (off := 18) (s := 1) rfl (by first | exact CellsOf.agg | exact CellsOf.one rfl) rfl (by repeat (first | exact PutL.done | apply PutL.put | apply PutL.skip)) (Built.cons (off := 19) (s := 1) rfl (by first | exact CellsOf.agg | exact CellsOf.one rfl) rfl (by repeat (first | exact PutL.done | apply PutL.put | apply PutL.skip)) (Built.cons (off := 20) (s := 1) rfl (by first | exact CellsOf.agg | exact CellsOf.one rfl) rfl (by repeat (first | exact PutL.done | apply PutL.put | apply PutL.skip)) (Built.cons (off := 21) (s := 1) rfl (by first | exact CellsOf.agg | exact CellsOf.one rfl) rfl (by repeat (first | exact PutL.done | apply PutL.put | apply PutL.skip)) (Built.cons (off := 22) (s := 1) rfl (by first | exact CellsOf.agg | exact CellsOf.one rfl) rfl (by repeat (first | exact PutL.done | apply PutL.put | apply PutL.skip)) (Built.cons (off := 23) (s := 1) rfl (by first | exact CellsOf.agg | exact CellsOf.one rfl) rfl (by repeat (first | exact PutL.done | apply PutL.put | apply PutL.skip)) (Built.cons (off := 24) (s := 1) rfl (by first | exact CellsOf.agg | exact CellsOf.one rfl) rfl (by repeat (first | exact PutL.done | apply PutL.put | apply PutL.skip)) (Built.cons (off := 25) (s := 1) rfl (by first | exact CellsOf.agg | exact CellsOf.one rfl) rfl (by repeat (first | exact PutL.done | apply PutL.put | apply PutL.skip)) (Built.cons (off := 26) (s := 1) rfl (by first | exact CellsOf.agg | exact CellsOf.one rfl) rfl (by repeat (first | exact PutL.done | apply PutL.put | apply PutL.skip)) (Built.cons (off := 27) (s := 1) rfl (by first | exact CellsOf.agg | exact CellsOf.one rfl) rfl (by repeat (first | exact PutL.done | apply PutL.put | apply PutL.skip)) Built.nil)))))))))))))))))))))))))))) ?_
  refine oStA rfl rfl rfl rfl (by repeat (first | exact Pick.here | apply Pick.there)) (by rfl) ?_
  refine oNil ?_
  refine thn_n ?_
  refine wRet ?_
  refine fin_r ?_
  refine ⟨rfl, _, (ResL.cons (by first | exact ResR.cell rfl (by repeat (first | exact Pick.here | apply Pick.there)) rfl | exact ResR.agg rfl (by repeat (first | exact Pick.here | apply Pick.there)) rfl rfl) ResL.nil), ?_⟩
  exact ⟨(), trivial, rfl, (Leads.has (by repeat' (first | exact Has.nil | exact Pick.here | apply Has.cons | apply Pick.there)))⟩
set_option maxRecDepth 100000 in
theorem op_Shape {B : Base} {w : World} (hS : St B [] w) (o : Int) :
    CallsIn Fence.wide 0 Tryz.prog 106 #[.int .i64 o] w (Ret B (fun _ : Unit => True) (fun _ => .string (shapeF o)) (fun _ => [])) := by
  (refine enter Tryz.func106 rfl rfl hS ?_; simp only [List.zipIdx_cons, List.zipIdx_nil, List.map_cons, List.map_nil, Nat.reduceAdd, Nat.zero_add])
  refine wSeq ?_
  refine wRegion' ?_
  refine oAssign rfl ?_
  refine oNil ?_
  refine thn_n ?_
  refine wSeq ?_
  refine wSeq ?_
  refine wRegion' ?_
  refine oMove rfl ?_
  (refine oCall rfl (by kernel_rfl) (fun w hS => frame hS (by repeat' (first | exact Split.nil | exact Pick.here | apply Split.cons | apply Pick.there)) (fun B' hB hS' => op_Own hS' o)) ?_; rintro ⟨⟩ -)
  first | refine oNot rfl ?_ | refine oNotB rfl ?_
  refine oNil ?_
  refine thn_n ?_
  first | refine wCond rfl (fun h5 => ?_) (fun h5 => ?_) | refine wCondB rfl (fun h5 => ?_) (fun h5 => ?_)
  ·
    refine wSeq ?_
    refine wRegion' ?_
    refine oAssign rfl ?_
    refine oNil ?_
    refine thn_n ?_
    refine wRet ?_
    refine thn_r ?_
    refine fin_r ?_
    refine ⟨rfl, _, (ResL.cons (ResR.tmp rfl) ResL.nil), ?_⟩
    exact ⟨(), trivial, by unfold shapeF; rw [if_neg (by simpa using h5)]; rfl, (Leads.has (by repeat' (first | exact Has.nil | exact Pick.here | apply Has.cons | apply Pick.there)))⟩
  ·
    have ho : ownF o = true := by simpa using h5
    have ho2 := ownF_iff.1 ho
    refine wSkip ?_
    refine thn_n ?_
    refine wSeq ?_
    refine wRegion' ?_
    (refine oCall rfl (by kernel_rfl) (fun w hS => frame hS (by repeat' (first | exact Split.nil | exact Pick.here | apply Split.cons | apply Pick.there)) (fun B' hB hS' => op_shapes hS')) ?_; rintro ⟨⟩ -)
    refine oMove rfl ?_
    first | refine oSub rfl rfl (by omega) ?_ | refine oSubW rfl rfl ?_
    refine oIndexArr (i := (o - 1).toNat) rfl rfl (by omega) rfl rfl (by omega) (strs_at rfl (by show _ < 24; omega)) ?_
    refine oAssign rfl ?_
    refine oNil ?_
    refine thn_n ?_
    refine wRet ?_
    refine fin_r ?_
    refine ⟨rfl, _, (ResL.cons (ResR.tmp rfl) ResL.nil), ?_⟩
    exact ⟨(), trivial, by unfold shapeF; rw [if_pos ho]; rfl, (Leads.has (by repeat' (first | exact Has.nil | exact Pick.here | apply Has.cons | apply Pick.there)))⟩
set_option maxRecDepth 100000 in
theorem op_Name {B : Base} {w : World} (hS : St B [] w) (o : Int) :
    CallsIn Fence.wide 0 Tryz.prog 169 #[.int .i64 o] w (Ret B (fun _ : Unit => True) (fun _ => .string (nameF o)) (fun _ => [])) := by
  (refine enter Tryz.func169 rfl rfl hS ?_; simp only [List.zipIdx_cons, List.zipIdx_nil, List.map_cons, List.map_nil, Nat.reduceAdd, Nat.zero_add])
  refine wSeq ?_
  refine wRegion' ?_
  refine oAssign rfl ?_
  refine oNil ?_
  refine thn_n ?_
  refine wSeq ?_
  refine wRegion' ?_
  (refine oCall rfl (by kernel_rfl) (fun w hS => frame hS (by repeat' (first | exact Split.nil | exact Pick.here | apply Split.cons | apply Pick.there)) (fun B' hB hS' => op_names hS')) ?_; rintro ⟨⟩ -)
  refine oAlloc rfl (by first | exact CellsOf.agg | exact CellsOf.one rfl) (fun b3 => ?_)
  refine oStA rfl rfl rfl rfl (by repeat (first | exact Pick.here | apply Pick.there)) (by rfl) ?_
  refine oNil ?_
  refine thn_n ?_
  refine wSeq ?_
  refine wSeq ?_
  refine wRegion' ?_
  refine oMove rfl ?_
  refine oLss rfl rfl ?_
  refine oMove rfl ?_
  first | refine oSplit (t := 7) rfl (fun h7 => ?_) (fun h7 => ?_) | refine oSplitB (t := 7) rfl (fun h7 => ?_) (fun h7 => ?_)
  ·
    refine oSkip rfl rfl rfl rfl ?_
    refine oSkip rfl rfl rfl rfl ?_
    refine oPickT rfl rfl ?_
    refine oNil ?_
    refine thn_n ?_
    first | refine wCondT rfl ?_ | refine wCondTd h10 rfl ?_ | refine wCondTb h10 rfl ?_
    refine wSeq ?_
    refine wRegion' ?_
    refine oAssign rfl ?_
    refine oNil ?_
    refine thn_n ?_
    refine wRet ?_
    refine thn_r ?_
    refine fin_r ?_
    refine ⟨rfl, _, (ResL.cons (ResR.tmp rfl) ResL.nil), ?_⟩
    exact ⟨(), trivial, by unfold nameF; rw [if_neg (by omega)]; rfl, (Leads.has (by repeat' (first | exact Has.nil | exact Pick.here | apply Has.cons | apply Pick.there)))⟩
  ·
    refine oWant rfl rfl ?_
    refine oMove rfl ?_
    refine oWant rfl rfl ?_
    refine oGtr rfl rfl ?_
    refine oPickF rfl rfl ?_
    refine oNil ?_
    refine thn_n ?_
    first | refine wCond rfl (fun h10 => ?_) (fun h10 => ?_) | refine wCondB rfl (fun h10 => ?_) (fun h10 => ?_)
    ·
      refine wSeq ?_
      refine wRegion' ?_
      refine oAssign rfl ?_
      refine oNil ?_
      refine thn_n ?_
      refine wRet ?_
      refine thn_r ?_
      refine fin_r ?_
      refine ⟨rfl, _, (ResL.cons (ResR.tmp rfl) ResL.nil), ?_⟩
      exact ⟨(), trivial, by unfold nameF; rw [if_neg (by omega)]; rfl, (Leads.has (by repeat' (first | exact Has.nil | exact Pick.here | apply Has.cons | apply Pick.there)))⟩
    ·
      refine wSkip ?_
      refine thn_n ?_
      refine wSeq ?_
      refine wRegion' ?_
      refine oMove rfl ?_
      first | refine oSub rfl rfl (by omega) ?_ | refine oSubW rfl rfl ?_
      refine oIdxA (s := 1) (i := (o - 1).toNat) (m := (o - 1).toNat) rfl rfl (by omega) rfl (by omega) (by omega) ?_
      refine oLd rfl (by repeat (first | exact Pick.here | apply Pick.there)) (strs_at rfl (by show _ < 28; omega)) rfl ?_
      refine oAssign rfl ?_
      refine oNil ?_
      refine thn_n ?_
      refine wRet ?_
      refine fin_r ?_
      refine ⟨rfl, _, (ResL.cons (ResR.tmp rfl) ResL.nil), ?_⟩
      exact ⟨(), trivial, by unfold nameF; rw [if_pos (by omega)]; rfl, (Leads.has (by repeat' (first | exact Has.nil | exact Pick.here | apply Has.cons | apply Pick.there)))⟩
end Go.Proofs.YtcacohoanlljhaaGreatV
