import Derived.Test.YtcacohoanlljhaaDoorNa

/-
  Sorted names, plainly and by the program and the document.
-/
namespace Go.Proofs.YtcacohoanlljhaaDoorN
set_option linter.unusedVariables false
set_option linter.unusedSimpArgs false
open Go.RowKit Go.Proofs.YtcacohoanlljhaaDoorK Go.Proofs.YtcacohoanlljhaaDoorT Go.Proofs.YtcacohoanlljhaaDoorL

theorem ltB_of {x y : List UInt8} (h : x ≤ y) (k : x ≠ y) : x < y := by
  apply Classical.byContradiction
  intro hn
  exact k (List.le_antisymm h (List.not_lt.1 hn))
theorem compactB_spec {zs : List (List UInt8)} (hs : zs.Pairwise (· ≤ ·)) : ∀ m, m ≤ zs.length → (Lib.compactUpTo zs.toArray m).Pairwise (· < ·) ∧ (∀ x, x ∈ Lib.compactUpTo zs.toArray m ↔ ∃ j, j < m ∧ zs[j]? = some x)
  | 0, _ => by refine ⟨by simp [Lib.compactUpTo], fun x => by simp [Lib.compactUpTo]⟩
  | m + 1, hm => by
    obtain ⟨h1, h2⟩ := compactB_spec hs m (by omega)
    have hml : m < zs.length := by omega
    have hd : ∀ j, j < zs.length → (zs.toArray)[j]! = zs[j]! := fun j hj => by simp [hj]
    have hg : zs[m]? = some zs[m] := List.getElem?_eq_getElem hml
    have hmono : ∀ i j (hi : i < zs.length) (hj : j < zs.length), i ≤ j → zs[i] ≤ zs[j] := fun i j hi hj hij => by
      rcases Nat.lt_or_ge i j with h | h
      · exact List.pairwise_iff_getElem.1 hs i j hi hj h
      · have : i = j := by omega
        subst this; exact List.le_refl _
    rw [Lib.compactUpTo_succ]
    have hdm : (zs.toArray)[m]! = zs[m] := by simp [hml]
    cases hk : Lib.keeps zs.toArray m with
    | true =>
      simp only [if_true, hdm]
      refine ⟨List.pairwise_append.2 ⟨h1, by simp, fun x hx y hy => ?_⟩, fun x => ?_⟩
      · obtain ⟨j, hj, hjx⟩ := (h2 x).1 hx
        obtain ⟨hjl, rfl⟩ := List.getElem?_eq_some_iff.1 hjx
        rw [List.mem_singleton.1 hy]
        have hm0 : 0 < m := by omega
        have hne : ¬ zs[m] = zs[m - 1] := fun e => by
          have : Lib.keeps zs.toArray m = false := Lib.keeps_neg hm0 (by rw [hdm, show (zs.toArray)[m - 1]! = zs[m - 1] by simp [show m - 1 < zs.length by omega]]; exact e)
          rw [this] at hk; cases hk
        have a1 := hmono j (m - 1) hjl (by omega) (by omega)
        have a2 := hmono (m - 1) m (by omega) hml (by omega)
        exact List.lt_of_le_of_lt a1 (ltB_of a2 (fun e => hne e.symm))
      · rw [List.mem_append, h2, List.mem_singleton]
        constructor
        · rintro (⟨j, hj, hx⟩ | rfl)
          · exact ⟨j, by omega, hx⟩
          · exact ⟨m, by omega, hg⟩
        · rintro ⟨j, hj, hx⟩
          rcases Nat.lt_or_ge j m with h | h
          · exact .inl ⟨j, h, hx⟩
          · have : j = m := by omega
            subst this
            rw [hg] at hx
            exact .inr (Option.some.inj hx).symm
    | false =>
      simp only [Bool.false_eq_true, if_false, List.append_nil]
      refine ⟨h1, fun x => ?_⟩
      rw [h2]
      constructor
      · rintro ⟨j, hj, hx⟩; exact ⟨j, by omega, hx⟩
      · rintro ⟨j, hj, hx⟩
        rcases Nat.lt_or_ge j m with h | h
        · exact ⟨j, h, hx⟩
        · have : j = m := by omega
          subst this
          have hm0 : 0 < j := by
            rcases Nat.eq_zero_or_pos j with h0 | h0
            · subst h0
              rw [Lib.keeps_lt_one _ 0 (by omega)] at hk; cases hk
            · exact h0
          have heq : zs[j] = zs[j - 1] := by
            apply Classical.byContradiction
            intro hne
            have : Lib.keeps zs.toArray j = true := Lib.keeps_pos (by rw [hdm, show (zs.toArray)[j - 1]! = zs[j - 1] by simp [show j - 1 < zs.length by omega]]; exact hne)
            rw [this] at hk; cases hk
          rw [hg] at hx
          refine ⟨j - 1, by omega, ?_⟩
          rw [List.getElem?_eq_getElem (by omega), ← heq]
          exact hx
/-- The order of texts. -/
def ltS (x y : ByteArray) : Prop := toL x < toL y
instance (x y : ByteArray) : Decidable (ltS x y) := inferInstanceAs (Decidable (toL x < toL y))
theorem toL_inj {x y : ByteArray} (h : toL x = toL y) : x = y := by rw [← ofL_toL x, h, ofL_toL]
theorem ltS_irrefl (x : ByteArray) : ¬ ltS x x := List.lt_irrefl _
theorem ltS_trans {x y z : ByteArray} (h : ltS x y) (k : ltS y z) : ltS x z := List.lt_trans h k
theorem ltS_tri {x y : ByteArray} (h : ¬ ltS x y) (k : x ≠ y) : ltS y x := by
  have h1 : toL y ≤ toL x := List.not_lt.1 h
  exact ltB_of h1 (fun e => k (toL_inj e).symm)
/-- Two rising lists of the same members are alike. -/
theorem risingS_eq : ∀ {a b : List ByteArray}, a.Pairwise ltS → b.Pairwise ltS → (∀ x, x ∈ a ↔ x ∈ b) → a = b
  | [], [], _, _, _ => rfl
  | [], y :: b, _, _, h => by have := (h y).2 (by simp); cases this
  | x :: a, [], _, _, h => by have := (h x).1 (by simp); cases this
  | x :: a, y :: b, ha, hb, h => by
    obtain ⟨ha1, ha2⟩ := List.pairwise_cons.1 ha
    obtain ⟨hb1, hb2⟩ := List.pairwise_cons.1 hb
    have hxy : x = y := by
      rcases List.mem_cons.1 ((h x).1 (by simp)) with h1 | h1
      · exact h1
      · rcases List.mem_cons.1 ((h y).2 (by simp)) with h2 | h2
        · exact h2.symm
        · exact absurd (ltS_trans (hb1 x h1) (ha1 y h2)) (ltS_irrefl _)
    subst hxy
    congr 1
    refine risingS_eq ha2 hb2 (fun z => ?_)
    constructor
    · intro hz
      rcases List.mem_cons.1 ((h z).1 (List.mem_cons_of_mem _ hz)) with h1 | h1
      · subst h1; exact absurd (ha1 _ hz) (ltS_irrefl _)
      · exact h1
    · intro hz
      rcases List.mem_cons.1 ((h z).2 (List.mem_cons_of_mem _ hz)) with h1 | h1
      · subst h1; exact absurd (hb1 _ hz) (ltS_irrefl _)
      · exact h1
/-- What sorting and compacting gives. -/
theorem sortS_spec (zs : List ByteArray) : (cmpS (srtS zs)).Pairwise ltS ∧ ∀ x, x ∈ cmpS (srtS zs) ↔ x ∈ zs := by
  have e0 : (srtS zs).map toL = (zs.map toL).mergeSort leB := by
    unfold srtS; rw [List.map_map]
    conv => rhs; rw [← List.map_id ((zs.map toL).mergeSort leB)]
    exact List.map_congr_left (fun l _ => toL_ofL l)
  have hs : ((zs.map toL).mergeSort leB).Pairwise (· ≤ ·) := by
    have := List.pairwise_mergeSort (le := leB) (by intro a b c; simp only [leB, decide_eq_true_eq]; exact List.le_trans) (by intro a b; simp only [leB, Bool.or_eq_true, decide_eq_true_eq]; exact List.le_total a b) (zs.map toL)
    exact this.imp (fun h => by simpa [leB] using h)
  obtain ⟨h1, h2⟩ := compactB_spec hs _ (Nat.le_refl _)
  unfold cmpS
  rw [e0]
  refine ⟨List.pairwise_map.2 (h1.imp (fun {a b} h => by show toL (ofL a) < toL (ofL b); rw [toL_ofL, toL_ofL]; exact h)), fun x => ?_⟩
  have h3 : toL x ∈ Lib.compact ((zs.map toL).mergeSort leB) ↔ toL x ∈ zs.map toL := by
    refine (h2 (toL x)).trans ?_
    rw [← List.mem_mergeSort (le := leB) (l := zs.map toL), List.mem_iff_getElem?]
    constructor
    · rintro ⟨j, _, hx⟩; exact ⟨j, hx⟩
    · rintro ⟨j, hx⟩; exact ⟨j, (List.getElem?_eq_some_iff.1 hx).1, hx⟩
  constructor
  · intro hx
    obtain ⟨y, hy, e⟩ := List.mem_map.1 hx
    have hy' : toL x ∈ Lib.compact ((zs.map toL).mergeSort leB) := by rw [← e, toL_ofL]; exact hy
    obtain ⟨z, hz, ez⟩ := List.mem_map.1 (h3.1 hy')
    exact toL_inj ez ▸ hz
  · intro hx
    exact List.mem_map.2 ⟨toL x, h3.2 (List.mem_map.2 ⟨x, hx, rfl⟩), ofL_toL x⟩
def okN (s : ByteArray) : Bool := decide (nameF4 s = 0)
/-- Names, rising, each once. -/
def srt4 (l : List ByteArray) : List ByteArray := cmpS (srtS (l.filter okN))
theorem srt4_rise (l : List ByteArray) : (srt4 l).Pairwise ltS := (sortS_spec _).1
theorem srt4_mem {l : List ByteArray} {x : ByteArray} : x ∈ srt4 l ↔ x ∈ l ∧ okN x = true := ((sortS_spec _).2 x).trans List.mem_filter
theorem srt4_eq {l out : List ByteArray} (h : out.Pairwise ltS) (hm : ∀ x, x ∈ out ↔ x ∈ l ∧ okN x = true) : out = srt4 l := risingS_eq h (srt4_rise l) (fun x => (hm x).trans srt4_mem.symm)
theorem srtS_len (l : List ByteArray) : (srtS l).length = l.length := by simp [srtS]
theorem cmpS_len (l : List ByteArray) : (cmpS l).length ≤ l.length := by
  unfold cmpS Lib.compact Lib.compactUpTo
  rw [List.length_map, List.length_map]
  refine Nat.le_trans (List.length_filter_le _ _) ?_
  simp
theorem srt4_len (l : List ByteArray) : (srt4 l).length ≤ l.length := by
  unfold srt4
  exact Nat.le_trans (cmpS_len _) (by rw [srtS_len]; exact List.length_filter_le _ _)

/-! ### the program's -/
set_option maxRecDepth 100000 in
theorem name_Sort1 {B : Base} {w : World} (hS : St B [] w) (s : ByteArray) :
    CallsIn Fence.wide 0 Tryd.prog 22 #[.string s] w (Ret B (fun _ : Unit => True) (fun _ => .bool (okN s)) (fun _ => [])) := by
  (refine enter Tryd.func22 rfl rfl hS ?_; simp only [List.zipIdx_cons, List.zipIdx_nil, List.map_cons, List.map_nil, Nat.reduceAdd, Nat.zero_add])
  refine wSeq ?_
  refine wRegion' ?_
  refine oAssign rfl ?_
  refine oNil ?_
  refine thn_n ?_
  refine wSeq ?_
  refine wRegion' ?_
  refine oMove rfl ?_
  (refine oCall rfl (by kernel_rfl) (fun w hS => frame hS (by repeat' (first | exact Split.nil | exact Pick.here | apply Split.cons | apply Pick.there)) (fun B' hB hS' => name_Check hS' s)) ?_; rintro ⟨⟩ -)
  refine oEql rfl rfl ?_
  refine oAssign rfl ?_
  refine oNil ?_
  refine thn_n ?_
  refine wRet ?_
  refine fin_r ?_
  refine ⟨rfl, _, (ResL.cons (ResR.tmp rfl) ResL.nil), ?_⟩
  exact ⟨(), trivial, rfl, (Leads.has (by repeat' (first | exact Has.nil | exact Pick.here | apply Has.cons | apply Pick.there)))⟩
theorem filter_stepS (p : ByteArray → Bool) {l : List ByteArray} {i : Nat} {x : ByteArray} (h : l[i]? = some x) : (l.take (i + 1)).filter p = (l.take i).filter p ++ (if p x = true then [x] else []) := by
  rw [List.take_add_one, h, List.filter_append]
  congr 1
  simp only [Option.toList, List.filter_cons, List.filter_nil]
set_option maxRecDepth 100000 in
set_option maxHeartbeats 600000 in
theorem name_keep {B : Base} {w : World} (hS : St B [] w) (A : Option Addr) (cp : Nat) (l : List ByteArray) (hC : Kd.string.C B.e A l) (hl : l.length ≤ 1000000) (W0 : World) :
    CallsIn Fence.wide 0 Tryd.prog 21 #[.slice A l.length cp, .func (.func 22) #[] #[]] w (Ret B (fun _ : Option Addr × Nat => True) (fun z => .slice z.1 (l.filter okN).length z.2) (fun z => [row Kd.string W0 9 (.slice z.1 (l.filter okN).length z.2) (l.filter okN)])) := by
  (refine enter Tryd.func21 rfl rfl hS ?_; simp only [List.zipIdx_cons, List.zipIdx_nil, List.map_cons, List.map_nil, Nat.reduceAdd, Nat.zero_add])
  refine wSeq ?_
  refine wRegion' ?_
  refine oAssign rfl ?_
  refine oNil ?_
  refine thn_n ?_
  refine wSeq ?_
  refine wRegion' ?_
  refine oAssign rfl ?_
  refine oNil ?_
  refine thn_n ?_
  refine wSeq ?_
  refine wSeq ?_
  refine wRegion' ?_
  refine oMove rfl ?_
  refine oLenS rfl rfl ?_
  refine oMove rfl ?_
  refine oNil ?_
  refine thn_n ?_
  refine wBlock ?_
  refine wLoop (ι := Nat × Option Addr × Nat) (fun z => [(1, .func (.func 22) #[] #[]), (5, .slice z.2.1 ((l.take z.1).filter okN).length z.2.2), (8, .slice A l.length cp), (9, .int .i64 (l.length : Int)), (10, .int .i64 (z.1 : Int))]) (fun z => [row Kd.string W0 9 (.slice z.2.1 ((l.take z.1).filter okN).length z.2.2) ((l.take z.1).filter okN)]) (fun z => z.1 ≤ l.length) (fun z => l.length - z.1) (0, none, 0) ?_ (by repeat (first | exact trivial | refine And.intro rfl ?_)) (Leads.nilrow.trans (Leads.has (by repeat' (first | exact Has.nil | exact Pick.here | apply Has.cons | apply Pick.there)))) ?_
  ·
    exact Nat.zero_le _
  ·
    rintro ⟨i, A2, c2⟩ hi
    dsimp only at hi
    have hle : ((l.take i).filter okN).length ≤ 1000000 := Nat.le_trans (List.length_filter_le _ _) (by rw [List.length_take]; omega)
    try dsimp only
    refine wSeq ?_
    refine wRegion' ?_
    refine oLss rfl rfl ?_
    refine oNil ?_
    refine thn_n ?_
    refine wSeq ?_
    first | refine wCond rfl (fun h11 => ?_) (fun h11 => ?_) | refine wCondB rfl (fun h11 => ?_) (fun h11 => ?_)
    ·
      refine wSkip ?_
      refine thn_n ?_
      refine wSeq ?_
      refine wBlock ?_
      refine wSeq ?_
      refine wRegion' ?_
      refine oIdx rfl rfl (hC) rfl (by omega) rfl rfl (fun e12 u12 cs12 hu12 hk12 hc12 => ?_)
      obtain rfl := hk12
      have hft := filter_stepS okN hu12
      first | refine oLdX rfl hc12 rfl rfl ?_ | refine oLdXA rfl hc12 rfl (by repeat (first | exact SubL.done | apply SubL.take | apply SubL.drop)) ?_ | (refine oLdR1 rfl (by repeat (first | exact Pick.here | apply Pick.there)) (by omega) rfl (fun u13 hu13 => ?_))
      refine oAssign rfl ?_
      refine oNil ?_
      refine thn_n ?_
      refine wSeq ?_
      refine wRegion' ?_
      refine oMove rfl ?_
      refine oMove rfl ?_
      (refine oCallV rfl rfl rfl (by kernel_rfl) (fun w hS => frame hS (by repeat' (first | exact Split.nil | exact Pick.here | apply Split.cons | apply Pick.there)) (fun B' hB hS' => name_Sort1 hS' u12)) ?_; rintro ⟨⟩ -)
      refine oNil ?_
      refine thn_n ?_
      first | refine wCond rfl (fun h16 => ?_) (fun h16 => ?_) | refine wCondB rfl (fun h16 => ?_) (fun h16 => ?_)
      ·
        refine wRegion' ?_
        refine oMove rfl ?_
        refine oMove rfl ?_
        refine oBuildSlice1 rfl rfl rfl rfl rfl (by first | exact CellsOf.agg | exact CellsOf.one rfl) rfl (fun b19 => ?_)
        refine oApp1 u12 rfl rfl rfl rfl (by repeat (first | exact Pick.here | apply Pick.there)) (by repeat (first | exact Pick.here | apply Pick.there)) rfl (by omega) rfl (fun g20 cp20 => ?_)
        rw [if_pos (show okN _ = true from decide_eq_true (by simpa [okN] using h16))] at hft
        rw [show ((l.take i).filter okN).length + 1 = ((l.take (i + 1)).filter okN).length by rw [hft, List.length_append]; rfl, ← hft]
        refine oAssign rfl ?_
        refine oNil ?_
        refine blk_n ?_
        refine thn_n ?_
        refine wRegion' ?_
        refine oSucc rfl rfl (by omega) ?_
        refine oMove rfl ?_
        refine oNil ?_
        refine thn_n ?_
        exact ⟨rfl, (i + 1, some ⟨g20, 0, none⟩, cp20), by show i + 1 ≤ _; omega, by show l.length - (i + 1) < l.length - i; omega, (by repeat (first | exact trivial | refine And.intro rfl ?_)), (Leads.has (by repeat' (first | exact Has.nil | exact Pick.here | apply Has.cons | apply Pick.there)))⟩
      ·
        refine wSkip ?_
        refine blk_n ?_
        refine thn_n ?_
        refine wRegion' ?_
        refine oSucc rfl rfl (by omega) ?_
        refine oMove rfl ?_
        refine oNil ?_
        refine thn_n ?_
        rw [if_neg (show ¬ okN _ = true by simpa [okN] using h16), List.append_nil] at hft
        exact ⟨rfl, (i + 1, A2, c2), by show i + 1 ≤ _; omega, by show l.length - (i + 1) < l.length - i; omega, by dsimp only; rw [hft]; exact (by repeat (first | exact trivial | refine And.intro rfl ?_)), by dsimp only; rw [hft]; exact (Leads.has (by repeat' (first | exact Has.nil | exact Pick.here | apply Has.cons | apply Pick.there)))⟩
    ·
      obtain rfl : i = l.length := by omega
      rw [List.take_length]
      refine wExit ?_
      refine thn_x ?_
      refine thn_x ?_
      refine blk_x ?_
      refine thn_n ?_
      refine wSeq ?_
      refine wRegion' ?_
      refine oMove rfl ?_
      refine oAssign rfl ?_
      refine oNil ?_
      refine thn_n ?_
      refine wRet ?_
      refine fin_r ?_
      refine ⟨rfl, _, (ResL.cons (ResR.tmp rfl) ResL.nil), ?_⟩
      exact ⟨(A2, c2), trivial, rfl, (Leads.has (by repeat' (first | exact Has.nil | exact Pick.here | apply Has.cons | apply Pick.there)))⟩
set_option maxRecDepth 100000 in
theorem name_Sort {B : Base} {w : World} (hS : St B [] w) (A : Option Addr) (cp : Nat) (l : List ByteArray) (hC : Kd.string.C B.e A l) (hl : l.length ≤ 1000000) (W0 : World) :
    CallsIn Fence.wide 0 Tryd.prog 15 #[.slice A l.length cp] w (Ret B (fun _ : Option Addr × Nat => True) (fun z => .slice z.1 (srt4 l).length z.2) (fun z => [row Kd.string W0 9 (.slice z.1 (srt4 l).length z.2) (srt4 l)])) := by
  have hf : (l.filter okN).length ≤ 1000000 := Nat.le_trans (List.length_filter_le _ _) hl
  (refine enter Tryd.func15 rfl rfl hS ?_; simp only [List.zipIdx_cons, List.zipIdx_nil, List.map_cons, List.map_nil, Nat.reduceAdd, Nat.zero_add])
  refine wSeq ?_
  refine wRegion' ?_
  refine oAssign rfl ?_
  refine oNil ?_
  refine thn_n ?_
  refine wSeq ?_
  refine wRegion' ?_
  refine oMove rfl ?_
  (refine oCall rfl (by kernel_rfl) (fun w hS => frame hS (by repeat' (first | exact Split.nil | exact Pick.here | apply Split.cons | apply Pick.there)) (fun B' hB hS' => name_keep hS' A cp l (Kd.C_grow hB hC) hl W0)) ?_; rintro ⟨A5, c5⟩ -)
  refine oAssign rfl ?_
  refine oNil ?_
  refine thn_n ?_
  refine wSeq ?_
  refine wRegion' ?_
  refine oMove rfl ?_
  (refine oCall rfl (by kernel_rfl) (fun w hS => frame hS (by repeat' (first | exact Split.nil | exact Pick.here | apply Split.cons | apply Pick.there)) (fun B' hB hS' => sort_str laysn190_at hS' (by omega))) ?_; rintro ⟨⟩ -)
  refine oNil ?_
  refine thn_n ?_
  refine wSeq ?_
  refine wRegion' ?_
  refine oMove rfl ?_
  (refine oCall rfl (by kernel_rfl) (fun w hS => frame hS (by repeat' (first | exact Split.nil | exact Pick.here | apply Split.cons | apply Pick.there)) (fun B' hB hS' => compact_str laysn194_at hS' (by rw [srtS_len]; omega))) ?_; rintro ⟨⟩ -)
  refine oAssign rfl ?_
  refine oNil ?_
  refine thn_n ?_
  refine wRet ?_
  refine fin_r ?_
  refine ⟨rfl, _, (ResL.cons (ResR.tmp rfl) ResL.nil), ?_⟩
  exact ⟨(A5, c5), trivial, rfl, (Leads.has (by repeat' (first | exact Has.nil | exact Pick.here | apply Has.cons | apply Pick.there)))⟩
end Go.Proofs.YtcacohoanlljhaaDoorN
