import Derived.Test.YtcacohoanlljhaaDoorNb

/-
  Sorted names as the document has them; names of files.
-/
namespace Go.Proofs.YtcacohoanlljhaaDoorN
set_option linter.unusedVariables false
set_option linter.unusedSimpArgs false
open Go.RowKit Go.Proofs.YtcacohoanlljhaaDoorK Go.Proofs.YtcacohoanlljhaaDoorT Go.Proofs.YtcacohoanlljhaaDoorL

def bub (out : List ByteArray) (x : ByteArray) (k : Nat) : List ByteArray := out.take k ++ x :: out.drop k
theorem bub_len (out : List ByteArray) (x : ByteArray) {k : Nat} (h : k ≤ out.length) : (bub out x k).length = out.length + 1 := by
  unfold bub; rw [List.length_append, List.length_cons, List.length_take, List.length_drop]; omega
theorem bub_at (out : List ByteArray) (x : ByteArray) {k : Nat} (h : k ≤ out.length) : (bub out x k)[k]? = some x := by
  unfold bub
  rw [List.getElem?_append_right (by rw [List.length_take]; omega), List.length_take, Nat.min_eq_left h, Nat.sub_self]; rfl
theorem bub_pre (out : List ByteArray) (x : ByteArray) {k j : Nat} (h : k ≤ out.length) (hj : j < k) : (bub out x k)[j]? = out[j]? := by
  unfold bub
  rw [List.getElem?_append_left (by rw [List.length_take]; omega), List.getElem?_take, if_pos hj]
theorem bub_post (out : List ByteArray) (x : ByteArray) {k j : Nat} (h : k ≤ out.length) (hj : k < j) : (bub out x k)[j]? = out[j - 1]? := by
  unfold bub
  rw [List.getElem?_append_right (by rw [List.length_take]; omega), List.length_take, Nat.min_eq_left h, show j - k = (j - 1 - k) + 1 by omega, List.getElem?_cons_succ, List.getElem?_drop]
  congr 1; omega
theorem bub_step {out : List ByteArray} {x y : ByteArray} {m : Nat} (h : m + 1 ≤ out.length) (hy : out[m]? = some y) : ((bub out x (m + 1)).set (m + 1) y).set m x = bub out x m := by
  apply List.ext_getElem?
  intro j
  rw [List.getElem?_set, List.getElem?_set]
  by_cases h1 : m = j
  · subst h1
    rw [if_pos rfl, bub_at out x (by omega), if_pos (by rw [List.length_set, bub_len out x h]; omega)]
  · rw [if_neg h1]
    by_cases h2 : m + 1 = j
    · subst h2
      rw [if_pos rfl, bub_post out x (by omega) (by omega), if_pos (by rw [bub_len out x h]; omega), ← hy]; rfl
    · rw [if_neg h2]
      rcases Nat.lt_or_ge j m with h3 | h3
      · rw [bub_pre out x h (by omega), bub_pre out x (by omega) h3]
      · rw [bub_post out x h (by omega), bub_post out x (by omega) (by omega)]
theorem bub_all (out : List ByteArray) (x : ByteArray) : bub out x out.length = out ++ [x] := by
  unfold bub; rw [List.take_length, List.drop_length]
theorem bub_mem {out : List ByteArray} {x : ByteArray} {k : Nat} {y : ByteArray} : y ∈ bub out x k ↔ y ∈ out ∨ y = x := by
  unfold bub
  rw [List.mem_append, List.mem_cons]
  conv => rhs; rw [← List.take_append_drop k out, List.mem_append]
  constructor
  · rintro (h | h | h) <;> simp [h]
  · rintro ((h | h) | h) <;> simp [h]
/-- Where it stops, the list rises. -/
theorem bub_rise {out : List ByteArray} {x : ByteArray} {k : Nat} (hr : out.Pairwise ltS) (hk : k ≤ out.length) (hx : x ∉ out) (hg : ∀ y ∈ out.drop k, ltS x y) (hs : ∀ m y, k = m + 1 → out[m]? = some y → ¬ ltS x y) : (bub out x k).Pairwise ltS := by
  have hr' := hr
  rw [← List.take_append_drop k out] at hr'
  obtain ⟨h1, h2, h3⟩ := List.pairwise_append.1 hr'
  have hlt : ∀ y ∈ out.take k, ltS y x := by
    intro y hy
    cases k with
    | zero => simp at hy
    | succ m =>
      have hml : m < out.length := by omega
      have hz := hs m out[m] rfl (List.getElem?_eq_getElem hml)
      have hzx : ltS out[m] x := ltS_tri hz (fun e => hx (e ▸ List.getElem_mem hml))
      rw [List.take_succ_eq_append_getElem hml] at hy h1
      rcases List.mem_append.1 hy with h4 | h4
      · exact ltS_trans ((List.pairwise_append.1 h1).2.2 y h4 _ (by simp)) hzx
      · rw [List.mem_singleton.1 h4]; exact hzx
  unfold bub
  refine List.pairwise_append.2 ⟨h1, List.pairwise_cons.2 ⟨hg, h2⟩, fun y hy z hz => ?_⟩
  rcases List.mem_cons.1 hz with h4 | h4
  · rw [h4]; exact hlt y hy
  · exact h3 y hy z h4
theorem fndS_mem {out : List ByteArray} {x : ByteArray} : 0 ≤ fndS out x ↔ x ∈ out := by
  unfold fndS
  rw [idxI_iff, List.any_eq_true]
  constructor
  · rintro ⟨y, hy, e⟩; exact of_decide_eq_true e ▸ hy
  · intro h; exact ⟨x, h, decide_eq_true rfl⟩
theorem mem_skip {l out : List ByteArray} {i : Nat} {x : ByteArray} (hm : ∀ y, y ∈ out ↔ y ∈ l.take i ∧ okN y = true) (hx : l[i]? = some x) (h : okN x = false ∨ x ∈ out) : ∀ y, y ∈ out ↔ y ∈ l.take (i + 1) ∧ okN y = true := by
  intro y
  rw [List.take_add_one, hx, List.mem_append, hm]
  simp only [Option.toList, List.mem_singleton]
  constructor
  · rintro ⟨h1, h2⟩; exact ⟨.inl h1, h2⟩
  · rintro ⟨h1 | h1, h2⟩
    · exact ⟨h1, h2⟩
    · subst h1
      rcases h with h | h
      · rw [h] at h2; cases h2
      · exact (hm _).1 h
theorem mem_ins {l out : List ByteArray} {i k : Nat} {x : ByteArray} (hm : ∀ y, y ∈ out ↔ y ∈ l.take i ∧ okN y = true) (hx : l[i]? = some x) (h : okN x = true) : ∀ y, y ∈ bub out x k ↔ y ∈ l.take (i + 1) ∧ okN y = true := by
  intro y
  rw [List.take_add_one, hx, List.mem_append, bub_mem, hm]
  simp only [Option.toList, List.mem_singleton]
  constructor
  · rintro (⟨h1, h2⟩ | h1)
    · exact ⟨.inl h1, h2⟩
    · subst h1; exact ⟨.inr rfl, h⟩
  · rintro ⟨h1 | h1, h2⟩
    · exact .inl ⟨h1, h2⟩
    · exact .inr h1
theorem drop_lt {out : List ByteArray} {x y : ByteArray} {m : Nat} (hy : out[m]? = some y) (h : ltS x y) (hg : ∀ z ∈ out.drop (m + 1), ltS x z) : ∀ z ∈ out.drop m, ltS x z := by
  obtain ⟨hm, rfl⟩ := List.getElem?_eq_some_iff.1 hy
  intro z hz
  rw [List.drop_eq_getElem_cons hm] at hz
  rcases List.mem_cons.1 hz with h1 | h1
  · rw [h1]; exact h
  · exact hg z h1
set_option maxRecDepth 100000 in
set_option maxHeartbeats 1000000 in
theorem ref4_Sort {B : Base} {w : World} (hS : St B [] w) (A : Option Addr) (cp : Nat) (l : List ByteArray) (hC : Kd.string.C B.e A l) (hl : l.length ≤ 1000) (W0 : World) :
    CallsIn Fence.wide 0 Tryd.prog 16 #[.slice A l.length cp] w (Ret B (fun _ : Option Addr × Nat => True) (fun z => .slice z.1 (srt4 l).length z.2) (fun z => [row Kd.string W0 9 (.slice z.1 (srt4 l).length z.2) (srt4 l)])) := by
  (refine enter Tryd.func16 rfl rfl hS ?_; simp only [List.zipIdx_cons, List.zipIdx_nil, List.map_cons, List.map_nil, Nat.reduceAdd, Nat.zero_add])
  refine wSeq ?_
  refine wRegion' ?_
  refine oAssign rfl ?_
  refine oNil ?_
  refine thn_n ?_
  refine wSeq ?_
  refine wRegion' ?_
  refine oAssign rfl ?_
  refine oNil ?_
  refine thn_n ?_
  refine wSeq ?_
  refine wSeq ?_
  refine wRegion' ?_
  refine oAssign rfl ?_
  refine oNil ?_
  refine thn_n ?_
  refine wBlock ?_
  refine wLoop (ι := Nat × Option Addr × Nat × List ByteArray) (fun z => [(0, .slice A l.length cp), (3, .slice z.2.1 z.2.2.2.length z.2.2.1), (4, .int .i64 (z.1 : Int))]) (fun z => [row Kd.string W0 9 (.slice z.2.1 z.2.2.2.length z.2.2.1) z.2.2.2]) (fun z => z.1 ≤ l.length ∧ z.2.2.2.Pairwise ltS ∧ (∀ x, x ∈ z.2.2.2 ↔ x ∈ l.take z.1 ∧ okN x = true) ∧ z.2.2.2.length ≤ z.1) (fun z => l.length - z.1) (0, none, 0, []) ?_ (by repeat (first | exact trivial | refine And.intro rfl ?_)) (Leads.nilrow.trans (Leads.has (by repeat' (first | exact Has.nil | exact Pick.here | apply Has.cons | apply Pick.there)))) ?_
  ·
    exact ⟨Nat.zero_le _, List.Pairwise.nil, fun x => by simp, Nat.zero_le _⟩
  ·
    rintro ⟨i, A2, c2, out⟩ ⟨hi, hr, hm, hle⟩
    dsimp only at hi hr hm hle
    try dsimp only
    refine wSeq ?_
    refine wSeq ?_
    refine wRegion' ?_
    refine oMove rfl ?_
    refine oMove rfl ?_
    refine oLenS rfl rfl ?_
    refine oLss rfl rfl ?_
    refine oNil ?_
    refine thn_n ?_
    first | refine wCond rfl (fun h10 => ?_) (fun h10 => ?_) | refine wCondB rfl (fun h10 => ?_) (fun h10 => ?_)
    ·
      obtain ⟨x, hx⟩ : ∃ x, l[i]? = some x := ⟨_, List.getElem?_eq_getElem (by omega)⟩
      obtain ⟨e1, cs1, hE⟩ := hC.elm hx
      obtain rfl := (show cs1 = [Value.string x] from hE.K)
      have hmx := List.mem_of_getElem? hx
      refine wSkip ?_
      refine thn_n ?_
      refine wSeq ?_
      refine wBlock ?_
      refine wSeq ?_
      refine wSeq ?_
      refine wRegion' ?_
      refine oMove rfl ?_
      refine oMove rfl ?_
      refine oIdxE rfl rfl (hE) (by omega) rfl rfl ?_
      have hc15 := (hE).cell
      first | refine oLdX rfl hc15 rfl rfl ?_ | refine oLdXA rfl hc15 rfl (by repeat (first | exact SubL.done | apply SubL.take | apply SubL.drop)) ?_ | (refine oLdR1 rfl (by repeat (first | exact Pick.here | apply Pick.there)) (by omega) rfl (fun u16 hu16 => ?_))
      (refine oCall rfl (by kernel_rfl) (fun w hS => frame hS (by repeat' (first | exact Split.nil | exact Pick.here | apply Split.cons | apply Pick.there)) (fun B' hB hS' => ref4_Check hS' x)) ?_; rintro ⟨⟩ -)
      refine oNeq rfl rfl ?_
      refine oMove rfl ?_
      first | refine oSplit (t := 19) rfl (fun h19 => ?_) (fun h19 => ?_) | refine oSplitB (t := 19) rfl (fun h19 => ?_) (fun h19 => ?_)
      ·
        refine oSkip rfl rfl rfl rfl ?_
        refine oSkip rfl rfl rfl rfl ?_
        refine oSkip rfl rfl rfl rfl ?_
        refine oSkip rfl rfl rfl rfl ?_
        refine oSkip rfl rfl rfl rfl ?_
        refine oSkip rfl rfl rfl rfl ?_
        refine oSkip rfl rfl rfl rfl ?_
        refine oPickT rfl rfl ?_
        refine oNil ?_
        refine thn_n ?_
        first | refine wCondT rfl ?_ | refine wCondTd h27 rfl ?_ | refine wCondTb h27 rfl ?_
        refine wExit ?_
        refine thn_x ?_
        refine blk_x ?_
        refine thn_n ?_
        refine wRegion' ?_
        refine oMove rfl ?_
        refine oSucc rfl rfl (by omega) ?_
        refine oAssign rfl ?_
        refine oNil ?_
        refine thn_n ?_
        exact ⟨rfl, (i + 1, A2, c2, out), ⟨by show i + 1 ≤ _; omega, hr, mem_skip hm hx (.inl (decide_eq_false h19)), by show out.length ≤ i + 1; omega⟩, by show l.length - (i + 1) < l.length - i; omega, (by repeat (first | exact trivial | refine And.intro rfl ?_)), (Leads.has (by repeat' (first | exact Has.nil | exact Pick.here | apply Has.cons | apply Pick.there)))⟩
      ·
        refine oWant rfl rfl ?_
        refine oMove rfl ?_
        refine oWant rfl rfl ?_
        refine oMove rfl ?_
        refine oWant rfl rfl ?_
        refine oMove rfl ?_
        refine oWant rfl rfl ?_
        refine oIdxE rfl rfl (hE) (by omega) rfl rfl ?_
        have hc23 := (hE).cell
        refine oWant rfl rfl ?_
        first | refine oLdX rfl hc23 rfl rfl ?_ | refine oLdXA rfl hc23 rfl (by repeat (first | exact SubL.done | apply SubL.take | apply SubL.drop)) ?_ | (refine oLdR1 rfl (by repeat (first | exact Pick.here | apply Pick.there)) (by omega) rfl (fun u24 hu24 => ?_))
        refine oWant rfl rfl ?_
        (refine oCall rfl (by kernel_rfl) (fun w hS => frame' hS .nil (fun B' hB hR hS' => ref4_Find hS' A2 c2 out (row_Cs (W := W0) (e := 9) (n := out.length) (cp := c2) (hR _ _ (by repeat (first | exact Pick.here | apply Pick.there)))) (by omega) x)) ?_; rintro ⟨⟩ -)
        refine oWant rfl rfl ?_
        refine oGeq rfl rfl ?_
        refine oPickF rfl rfl ?_
        refine oNil ?_
        refine thn_n ?_
        first | refine wCond rfl (fun h27 => ?_) (fun h27 => ?_) | refine wCondB rfl (fun h27 => ?_) (fun h27 => ?_)
        ·
          refine wExit ?_
          refine thn_x ?_
          refine blk_x ?_
          refine thn_n ?_
          refine wRegion' ?_
          refine oMove rfl ?_
          refine oSucc rfl rfl (by omega) ?_
          refine oAssign rfl ?_
          refine oNil ?_
          refine thn_n ?_
          exact ⟨rfl, (i + 1, A2, c2, out), ⟨by show i + 1 ≤ _; omega, hr, mem_skip hm hx (.inr (fndS_mem.1 (by omega))), by show out.length ≤ i + 1; omega⟩, by show l.length - (i + 1) < l.length - i; omega, (by repeat (first | exact trivial | refine And.intro rfl ?_)), (Leads.has (by repeat' (first | exact Has.nil | exact Pick.here | apply Has.cons | apply Pick.there)))⟩
        ·
          refine wSkip ?_
          refine thn_n ?_
          refine wSeq ?_
          refine wRegion' ?_
          refine oMove rfl ?_
          refine oMove rfl ?_
          refine oMove rfl ?_
          refine oIdxE rfl rfl (hE) (by omega) rfl rfl ?_
          have hc31 := (hE).cell
          first | refine oLdX rfl hc31 rfl rfl ?_ | refine oLdXA rfl hc31 rfl (by repeat (first | exact SubL.done | apply SubL.take | apply SubL.drop)) ?_ | (refine oLdR1 rfl (by repeat (first | exact Pick.here | apply Pick.there)) (by omega) rfl (fun u32 hu32 => ?_))
          refine oBuildSlice1 rfl rfl rfl rfl rfl (by first | exact CellsOf.agg | exact CellsOf.one rfl) rfl (fun b33 => ?_)
          refine oApp1 x rfl rfl rfl rfl (by repeat (first | exact Pick.here | apply Pick.there)) (by repeat (first | exact Pick.here | apply Pick.there)) rfl (by omega) rfl (fun g34 cp34 => ?_)
          rw [← bub_all out x]
          refine oAssign rfl ?_
          refine oNil ?_
          refine thn_n ?_
          refine wSeq ?_
          refine wRegion' ?_
          refine oMove rfl ?_
          refine oLenS rfl rfl ?_
          refine oSub rfl rfl (by omega) ?_
          refine oSet (t := 37) (v' := .int .i64 ((out.length : Nat) : Int)) rfl (by congr 1; omega) ?_
          refine oAssign rfl ?_
          refine oNil ?_
          refine thn_n ?_
          refine wBlock ?_
          refine wLoop (ι := Nat) (fun k => [(0, .slice A l.length cp), (3, .slice (some ⟨g34, 0, none⟩) (out.length + 1) cp34), (4, .int .i64 (i : Int)), (5, .int .i64 (k : Int))]) (fun k => [row Kd.string W0 9 (.slice (some ⟨g34, 0, none⟩) (out.length + 1) cp34) (bub out x k)]) (fun k => k ≤ out.length ∧ ∀ y ∈ out.drop k, ltS x y) (fun k => k) out.length ?_ (by repeat (first | exact trivial | refine And.intro rfl ?_)) (Leads.has (by repeat' (first | exact Has.nil | exact Pick.here | apply Has.cons | apply Pick.there))) ?_
          ·
            exact ⟨Nat.le_refl _, by simp⟩
          ·
            rintro k ⟨hk, hg⟩
            try dsimp only
            refine wSeq ?_
            refine wSeq ?_
            refine wDraw2 rfl rfl [0] [1, 2, 3, 4, 5, 6, 7, 8, 9, 10, 11, 12] 13 (by kernel_rfl) rfl rfl rfl (fun w0 => ?_)
            refine oGtr rfl rfl ?_
            refine oMove rfl ?_
            first | refine oSplit (t := 40) rfl (fun h40 => ?_) (fun h40 => ?_) | refine oSplitB (t := 40) rfl (fun h40 => ?_) (fun h40 => ?_)
            ·
              obtain ⟨m, rfl⟩ : ∃ m, k = m + 1 := ⟨k - 1, by omega⟩
              have hbl := bub_len out x hk
              refine oWant rfl rfl ?_
              refine oMove rfl ?_
              refine oWant rfl rfl ?_
              refine oMove rfl ?_
              refine oWant rfl rfl ?_
              refine oIdxR rfl rfl (by repeat (first | exact Pick.here | apply Pick.there)) (by omega) rfl rfl (fun g43 hg43 => ?_)
              first | subst hg43 | (injection hg43 with hg43; injection hg43 with hg43; subst hg43)
              refine oWant rfl rfl ?_
              first | refine oLdX rfl hc43 rfl rfl ?_ | refine oLdXA rfl hc43 rfl (by repeat (first | exact SubL.done | apply SubL.take | apply SubL.drop)) ?_ | (refine oLdR1 rfl (by repeat (first | exact Pick.here | apply Pick.there)) (by omega) rfl (fun u44 hu44 => ?_))
              rw [bub_at out x hk] at hu44
              obtain rfl := Option.some.inj hu44
              refine oWant rfl rfl ?_
              refine oMove rfl ?_
              refine oWant rfl rfl ?_
              refine oMove rfl ?_
              refine oWant rfl rfl ?_
              refine oSub rfl rfl (by omega) ?_
              refine oSet (t := 47) (v' := .int .i64 ((m : Nat) : Int)) rfl (by congr 1; omega) ?_
              refine oWant rfl rfl ?_
              refine oIdxR rfl rfl (by repeat (first | exact Pick.here | apply Pick.there)) (by omega) rfl rfl (fun g48 hg48 => ?_)
              first | subst hg48 | (injection hg48 with hg48; injection hg48 with hg48; subst hg48)
              refine oWant rfl rfl ?_
              first | refine oLdX rfl hc48 rfl rfl ?_ | refine oLdXA rfl hc48 rfl (by repeat (first | exact SubL.done | apply SubL.take | apply SubL.drop)) ?_ | (refine oLdR1 rfl (by repeat (first | exact Pick.here | apply Pick.there)) (by omega) rfl (fun u49 hu49 => ?_))
              rw [bub_pre out x hk (by omega)] at hu49
              refine oWant rfl rfl ?_
              refine oSLt rfl rfl ?_
              refine oHead ?_
              refine oPickT rfl rfl ?_
              refine oNilT ?_
              refine thn_n ?_
              first | refine wCond rfl (fun h51 => ?_) (fun h51 => ?_) | refine wCondB rfl (fun h51 => ?_) (fun h51 => ?_)
              ·
                refine wSkip ?_
                refine thn_n ?_
                refine wSeq ?_
                refine wBlock ?_
                refine wSeq ?_
                refine wRegion' ?_
                refine oMove rfl ?_
                refine oMove rfl ?_
                refine oIdxR rfl rfl (by repeat (first | exact Pick.here | apply Pick.there)) (by omega) rfl rfl (fun g56 hg56 => ?_)
                first | subst hg56 | (injection hg56 with hg56; injection hg56 with hg56; subst hg56)
                first | refine oLdX rfl hc56 rfl rfl ?_ | refine oLdXA rfl hc56 rfl (by repeat (first | exact SubL.done | apply SubL.take | apply SubL.drop)) ?_ | (refine oLdR1 rfl (by repeat (first | exact Pick.here | apply Pick.there)) (by omega) rfl (fun u57 hu57 => ?_))
                rw [bub_at out x hk] at hu57
                obtain rfl := Option.some.inj hu57
                refine oAssign rfl ?_
                refine oNil ?_
                refine thn_n ?_
                refine wSeq ?_
                refine wRegion' ?_
                refine oMove rfl ?_
                refine oMove rfl ?_
                refine oMove rfl ?_
                refine oMove rfl ?_
                refine oSub rfl rfl (by omega) ?_
                refine oSet (t := 62) (v' := .int .i64 ((m : Nat) : Int)) rfl (by congr 1; omega) ?_
                refine oIdxR rfl rfl (by repeat (first | exact Pick.here | apply Pick.there)) (by omega) rfl rfl (fun g63 hg63 => ?_)
                first | subst hg63 | (injection hg63 with hg63; injection hg63 with hg63; subst hg63)
                first | refine oLdX rfl hc63 rfl rfl ?_ | refine oLdXA rfl hc63 rfl (by repeat (first | exact SubL.done | apply SubL.take | apply SubL.drop)) ?_ | (refine oLdR1 rfl (by repeat (first | exact Pick.here | apply Pick.there)) (by omega) rfl (fun u64 hu64 => ?_))
                rw [bub_pre out x hk (by omega), hu49] at hu64
                obtain rfl := Option.some.inj hu64
                refine oIdxR rfl rfl (by repeat (first | exact Pick.here | apply Pick.there)) (by omega) rfl rfl (fun g65 hg65 => ?_)
                first | subst hg65 | (injection hg65 with hg65; injection hg65 with hg65; subst hg65)
                refine oStR (enc := Value.string) u49 rfl rfl rfl rfl (by repeat (first | exact Pick.here | apply Pick.there)) (by first | omega | (rw [hbl]; omega)) ?_
                refine oNil ?_
                refine thn_n ?_
                refine wRegion' ?_
                refine oMove rfl ?_
                refine oMove rfl ?_
                refine oSub rfl rfl (by omega) ?_
                refine oSet (t := 68) (v' := .int .i64 ((m : Nat) : Int)) rfl (by congr 1; omega) ?_
                refine oMove rfl ?_
                refine oIdxR rfl rfl (by repeat (first | exact Pick.here | apply Pick.there)) (by omega) rfl rfl (fun g70 hg70 => ?_)
                first | subst hg70 | (injection hg70 with hg70; injection hg70 with hg70; subst hg70)
                refine oStR (enc := Value.string) x rfl rfl rfl rfl (by repeat (first | exact Pick.here | apply Pick.there)) (by first | omega | (rw [List.length_set, hbl]; omega)) ?_
                rw [bub_step hk hu49]
                refine oNil ?_
                refine blk_n ?_
                refine thn_n ?_
                refine wRegion' ?_
                refine oMove rfl ?_
                refine oSub rfl rfl (by omega) ?_
                refine oSet (t := 53) (v' := .int .i64 ((m : Nat) : Int)) rfl (by congr 1; omega) ?_
                refine oAssign rfl ?_
                refine oNil ?_
                refine thn_n ?_
                exact ⟨rfl, m, ⟨by omega, drop_lt hu49 h51 hg⟩, by omega, (by repeat (first | exact trivial | refine And.intro rfl ?_)), (Leads.has (by repeat' (first | exact Has.nil | exact Pick.here | apply Has.cons | apply Pick.there)))⟩
              ·
                refine wExit ?_
                refine thn_x ?_
                refine thn_x ?_
                refine blk_x ?_
                refine blk_n ?_
                refine thn_n ?_
                refine wRegion' ?_
                refine oMove rfl ?_
                refine oSucc rfl rfl (by omega) ?_
                refine oAssign rfl ?_
                refine oNil ?_
                refine thn_n ?_
                have hnx : x ∉ out := fun h => h27 (fndS_mem.2 h)
                have hbr : (bub out x (m + 1)).Pairwise ltS := bub_rise hr hk hnx hg (fun m' y e hy => by (obtain rfl : m = m' := (by omega)); rw [hu49] at hy; obtain rfl := Option.some.inj hy; exact h51)
                exact ⟨rfl, (i + 1, some ⟨g34, 0, none⟩, cp34, bub out x (m + 1)), ⟨by show i + 1 ≤ _; omega, hbr, mem_ins hm hx (decide_eq_true (Classical.not_not.1 h19)), by show (bub out x (m + 1)).length ≤ i + 1; rw [hbl]; omega⟩, by show l.length - (i + 1) < l.length - i; omega, by dsimp only; rw [hbl]; exact (by repeat (first | exact trivial | refine And.intro rfl ?_)), by dsimp only; rw [hbl]; exact (Leads.has (by repeat' (first | exact Has.nil | exact Pick.here | apply Has.cons | apply Pick.there)))⟩
            ·
              refine oSkip rfl rfl rfl rfl ?_
              refine oSkip rfl rfl rfl rfl ?_
              refine oSkip rfl rfl rfl rfl ?_
              refine oSkip rfl rfl rfl rfl ?_
              refine oSkip rfl rfl rfl rfl ?_
              refine oSkip rfl rfl rfl rfl ?_
              refine oSkip rfl rfl rfl rfl ?_
              refine oSkip rfl rfl rfl rfl ?_
              refine oSkip rfl rfl rfl rfl ?_
              refine oSkip rfl rfl rfl rfl ?_
              refine oHead ?_
              refine oPickF rfl rfl ?_
              refine oNilT ?_
              refine thn_n ?_
              first | refine wCondF rfl ?_ | refine wCondFd h51 rfl ?_ | refine wCondFb h51 rfl ?_
              refine wExit ?_
              refine thn_x ?_
              refine thn_x ?_
              refine blk_x ?_
              refine blk_n ?_
              refine thn_n ?_
              refine wRegion' ?_
              refine oMove rfl ?_
              refine oSucc rfl rfl (by omega) ?_
              refine oAssign rfl ?_
              refine oNil ?_
              refine thn_n ?_
              have hnx : x ∉ out := fun h => h27 (fndS_mem.2 h)
              have hbr : (bub out x k).Pairwise ltS := bub_rise hr hk hnx hg (fun m' y e hy => by omega)
              have hbl := bub_len out x hk
              exact ⟨rfl, (i + 1, some ⟨g34, 0, none⟩, cp34, bub out x k), ⟨by show i + 1 ≤ _; omega, hbr, mem_ins hm hx (decide_eq_true (Classical.not_not.1 h19)), by show (bub out x k).length ≤ i + 1; rw [hbl]; omega⟩, by show l.length - (i + 1) < l.length - i; omega, by dsimp only; rw [hbl]; exact (by repeat (first | exact trivial | refine And.intro rfl ?_)), by dsimp only; rw [hbl]; exact (Leads.has (by repeat' (first | exact Has.nil | exact Pick.here | apply Has.cons | apply Pick.there)))⟩
    ·
      obtain rfl : i = l.length := by omega
      rw [List.take_length] at hm
      obtain rfl := srt4_eq hr hm
      refine wExit ?_
      refine thn_x ?_
      refine thn_x ?_
      refine blk_x ?_
      refine thn_n ?_
      refine wSeq ?_
      refine wRegion' ?_
      refine oMove rfl ?_
      refine oAssign rfl ?_
      refine oNil ?_
      refine thn_n ?_
      refine wRet ?_
      refine fin_r ?_
      refine ⟨rfl, _, (ResL.cons (ResR.tmp rfl) ResL.nil), ?_⟩
      exact ⟨(A2, c2), trivial, rfl, (Leads.has (by repeat' (first | exact Has.nil | exact Pick.here | apply Has.cons | apply Pick.there)))⟩
end Go.Proofs.YtcacohoanlljhaaDoorN
