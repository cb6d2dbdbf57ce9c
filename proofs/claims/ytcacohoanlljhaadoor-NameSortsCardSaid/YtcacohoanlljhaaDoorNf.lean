import Derived.Test.YtcacohoanlljhaaDoorNe

/-
  The statements on joined and on sorted names.
-/
namespace Go.Proofs.YtcacohoanlljhaaDoorN
set_option linter.unusedVariables false
set_option linter.unusedSimpArgs false
open Go.RowKit Go.Proofs.YtcacohoanlljhaaDoorK Go.Proofs.YtcacohoanlljhaaDoorT Go.Proofs.YtcacohoanlljhaaDoorL

/-! ### unlike numbers have unlike decimals -/
def valD (l : List UInt8) : Nat := l.foldl (fun a b => 10 * a + (b.toNat - 48)) 0
theorem valD_snoc (l : List UInt8) (b : UInt8) : valD (l ++ [b]) = 10 * valD l + (b.toNat - 48) := by
  unfold valD; rw [List.foldl_append]; rfl
theorem dig_toNat {n : Nat} (h : n < 10) : (UInt8.ofNat (48 + n)).toNat - 48 = n := by
  have : ∀ m, m < 10 → (UInt8.ofNat (48 + m)).toNat - 48 = m := by decide
  exact this n h
theorem valD_dec : ∀ (f u : Nat), u ≤ f → valD (Lib.decDigits u) = u
  | f, u, h => by
    by_cases h10 : u < 10
    · rw [Lib.decDigits_one h10]
      have := valD_snoc [] (UInt8.ofNat (48 + u))
      rw [List.nil_append] at this
      rw [this, dig_toNat h10]; simp [valD]
    · rw [Lib.decDigits, dif_neg h10, valD_snoc]
      cases f with
      | zero => omega
      | succ f =>
        rw [valD_dec f (u / 10) (by omega), dig_toNat (Nat.mod_lt _ (by decide))]
        omega
theorem decF_inj {a b : Int} (ha : in64 a) (hb : in64 b) (h0 : ¬ a < 0) (h1 : ¬ b < 0) (h : decF a = decF b) : a = b := by
  rw [← itoa_eq ha, ← itoa_eq hb] at h
  have h2 : Lib.itoa a = Lib.itoa b := by
    have := congrArg toL h
    simpa [toL] using this
  unfold Lib.itoa at h2
  rw [if_neg h0, if_neg h1] at h2
  have h3 := congrArg valD h2
  rw [valD_dec _ _ (Nat.le_refl _), valD_dec _ _ (Nat.le_refl _)] at h3
  omega
theorem app_left {s a b : ByteArray} (h : s ++ a = s ++ b) : a = b := by
  have h1 := congrArg toL h
  unfold toL at h1
  rw [ByteArray.data_append, ByteArray.data_append, Array.toList_append, Array.toList_append] at h1
  exact toL_inj (List.append_cancel_left h1)
theorem join_ok {a : Int} {s : ByteArray} (h : ¬ joinF a s = ByteArray.empty) : joinF a s = joinT a s ∧ nameF4 (joinF a s) = 0 ∧ ¬ a < 0 := by
  unfold joinF at *
  by_cases hc : a < 0 ∨ nameF4 (joinT a s) ≠ 0
  · rw [if_pos hc] at h; exact absurd rfl h
  · rw [if_neg hc]
    exact ⟨rfl, Classical.not_not.1 (fun e => hc (.inr e)), fun e => hc (.inl e)⟩
theorem join_inj {a b : Int} (ha : in64 a) (hb : in64 b) {s : ByteArray} (h : ¬ joinF a s = ByteArray.empty) : joinF a s = joinF b s ↔ a = b := by
  constructor
  · intro e
    have hb0 : ¬ joinF b s = ByteArray.empty := by rw [← e]; exact h
    obtain ⟨h1, _, h2⟩ := join_ok h
    obtain ⟨k1, _, k2⟩ := join_ok hb0
    rw [h1, k1] at e
    unfold joinT at e
    exact decF_inj ha hb h2 k2 (app_left e)
  · rintro rfl; rfl
set_option maxRecDepth 100000 in
set_option maxHeartbeats 1000000 in
theorem nameJoins {B : Base} {w : World} (hS : St B [] w) (hT : TabP Tryd.prog B.e) (a b : Int) (ha : in64 a) (hb : in64 b) (s : ByteArray) :
    CallsIn Fence.wide 0 Tryd.prog 5 #[.int .i64 a, .int .i64 b, .string s] w (Ret B (fun _ : Unit => True) (fun _ => .bool true) (fun _ => [])) := by
  (refine enter Tryd.func5 rfl rfl hS ?_; simp only [List.zipIdx_cons, List.zipIdx_nil, List.map_cons, List.map_nil, Nat.reduceAdd, Nat.zero_add])
  refine wSeq ?_
  refine wRegion' ?_
  refine oAssign rfl ?_
  refine oNil ?_
  refine thn_n ?_
  refine wSeq ?_
  refine wSeq ?_
  refine wRegion' ?_
  refine oMove rfl ?_
  refine oLenStr rfl rfl ?_
  refine oGtr rfl rfl ?_
  refine oNil ?_
  refine thn_n ?_
  first | refine wCond rfl (fun h11 => ?_) (fun h11 => ?_) | refine wCondB rfl (fun h11 => ?_) (fun h11 => ?_)
  ·
    refine wSeq ?_
    refine wRegion' ?_
    (refine oCall rfl (by kernel_rfl) (fun w hS => frameK hS (by repeat' (first | exact Split.nil | exact Pick.here | apply Split.cons | apply Pick.there)) (fun B' hB hK hS' => known4 hS' (Keeps.tabP hK hT))) ?_; rintro ⟨⟩ -)
    refine oAssign rfl ?_
    refine oNil ?_
    refine thn_n ?_
    refine wRet ?_
    refine thn_r ?_
    refine fin_r ?_
    refine ⟨rfl, _, (ResL.cons (ResR.tmp rfl) ResL.nil), ?_⟩
    exact ⟨(), trivial, rfl, (Leads.has (by repeat' (first | exact Has.nil | exact Pick.here | apply Has.cons | apply Pick.there)))⟩
  ·
    refine wSkip ?_
    refine thn_n ?_
    refine wSeq ?_
    refine wRegion' ?_
    refine oMove rfl ?_
    refine oMove rfl ?_
    (refine oCall rfl (by kernel_rfl) (fun w hS => frameK hS (by repeat' (first | exact Split.nil | exact Pick.here | apply Split.cons | apply Pick.there)) (fun B' hB hK hS' => name_Join hS' (Keeps.tabP hK hT) a ha s (by omega))) ?_; rintro ⟨⟩ -)
    refine oAssign rfl ?_
    refine oNil ?_
    refine thn_n ?_
    refine wSeq ?_
    refine wRegion' ?_
    refine oMove rfl ?_
    refine oMove rfl ?_
    (refine oCall rfl (by kernel_rfl) (fun w hS => frameK hS (by repeat' (first | exact Split.nil | exact Pick.here | apply Split.cons | apply Pick.there)) (fun B' hB hK hS' => name_Join hS' (Keeps.tabP hK hT) b hb s (by omega))) ?_; rintro ⟨⟩ -)
    refine oAssign rfl ?_
    refine oNil ?_
    refine thn_n ?_
    refine wSeq ?_
    refine wRegion' ?_
    refine oMove rfl ?_
    refine oSEq rfl rfl ?_
    refine oMove rfl ?_
    first | refine oSplit (t := 21) rfl (fun h21 => ?_) (fun h21 => ?_) | refine oSplitB (t := 21) rfl (fun h21 => ?_) (fun h21 => ?_)
    ·
      refine oSkip rfl rfl rfl rfl ?_
      refine oSkip rfl rfl rfl rfl ?_
      refine oSkip rfl rfl rfl rfl ?_
      refine oSkip rfl rfl rfl rfl ?_
      refine oSkipU rfl rfl rfl ?_
      refine oSkipU rfl rfl rfl ?_
      refine oSkipU rfl rfl rfl ?_
      refine oSkipU rfl rfl rfl ?_
      refine oSkipU rfl rfl rfl ?_
      refine oSkipU rfl rfl rfl ?_
      refine oSkipU rfl rfl rfl ?_
      refine oSkip rfl rfl rfl rfl ?_
      refine oPickT rfl rfl ?_
      refine oMove rfl ?_
      refine oWant rfl rfl ?_
      (refine oCall rfl (by kernel_rfl) (fun w hS => frameK hS (by repeat' (first | exact Split.nil | exact Pick.here | apply Split.cons | apply Pick.there)) (fun B' hB hK hS' => known4 hS' (Keeps.tabP hK hT))) ?_; rintro ⟨⟩ -)
      refine oPickT rfl rfl ?_
      refine oAssign rfl ?_
      refine oNil ?_
      refine thn_n ?_
      refine wRet ?_
      refine fin_r ?_
      refine ⟨rfl, _, (ResL.cons (ResR.tmp rfl) ResL.nil), ?_⟩
      exact ⟨(), trivial, rfl, (Leads.has (by repeat' (first | exact Has.nil | exact Pick.here | apply Has.cons | apply Pick.there)))⟩
    ·
      have hj := join_ok h21
      have hij := join_inj ha hb h21
      refine oWant rfl rfl ?_
      refine oMove rfl ?_
      refine oWant rfl rfl ?_
      (refine oCall rfl (by kernel_rfl) (fun w hS => frame hS (by repeat' (first | exact Split.nil | exact Pick.here | apply Split.cons | apply Pick.there)) (fun B' hB hS' => name_Check hS' (joinF a s))) ?_; rintro ⟨⟩ -)
      refine oWant rfl rfl ?_
      refine oEql rfl rfl ?_
      refine oWant rfl rfl ?_
      refine oMove rfl ?_
      first | refine oSplit (t := 25) rfl (fun h25 => ?_) (fun h25 => ?_) | refine oSplitB (t := 25) rfl (fun h25 => ?_) (fun h25 => ?_)
      ·
        refine oWant rfl rfl ?_
        refine oMove rfl ?_
        refine oWant rfl rfl ?_
        refine oMove rfl ?_
        refine oWant rfl rfl ?_
        refine oSEq rfl rfl ?_
        refine oWant rfl rfl ?_
        refine oMove rfl ?_
        refine oWant rfl rfl ?_
        refine oMove rfl ?_
        refine oWant rfl rfl ?_
        refine oEql rfl rfl ?_
        refine oWant rfl rfl ?_
        refine oEqlBool rfl rfl rfl ?_
        refine oWant rfl rfl ?_
        refine oPickT rfl rfl ?_
        refine oPickF rfl rfl ?_
        refine oMove rfl ?_
        first | refine oSplit (t := 35) rfl (fun h35 => ?_) (fun h35 => ?_) | refine oSplitB (t := 35) rfl (fun h35 => ?_) (fun h35 => ?_)
        ·
          refine oWant rfl rfl ?_
          (refine oCall rfl (by kernel_rfl) (fun w hS => frameK hS (by repeat' (first | exact Split.nil | exact Pick.here | apply Split.cons | apply Pick.there)) (fun B' hB hK hS' => known4 hS' (Keeps.tabP hK hT))) ?_; rintro ⟨⟩ -)
          refine oPickT rfl rfl ?_
          refine oAssign rfl ?_
          refine oNil ?_
          refine thn_n ?_
          refine wRet ?_
          refine fin_r ?_
          refine ⟨rfl, _, (ResL.cons (ResR.tmp rfl) ResL.nil), ?_⟩
          exact ⟨(), trivial, rfl, (Leads.has (by repeat' (first | exact Has.nil | exact Pick.here | apply Has.cons | apply Pick.there)))⟩
        ·
          first | exact absurd rfl h35 | exact absurd h21 h35 | exact absurd (by simp only [hij]) h35 | exact absurd (decide_eq_decide.2 hij) h35 | (simp [hij] at h35)
      ·
        exact absurd hj.2.1 h25
theorem srt4_idem (l : List ByteArray) : srt4 (srt4 l) = srt4 l := (srt4_eq (srt4_rise l) (fun x => ⟨fun h => ⟨h, (srt4_mem.1 h).2⟩, fun h => h.1⟩)).symm
theorem srt4_rev (l : List ByteArray) : srt4 l.reverse = srt4 l := (srt4_eq (srt4_rise l) (fun x => by rw [srt4_mem, List.mem_reverse])).symm
theorem srt_next {l : List ByteArray} {m : Nat} {x y : ByteArray} (hx : (srt4 l)[m]? = some x) (hy : (srt4 l)[m + 1]? = some y) : ltS x y := by
  obtain ⟨h1, rfl⟩ := List.getElem?_eq_some_iff.1 hx
  obtain ⟨h2, rfl⟩ := List.getElem?_eq_some_iff.1 hy
  exact List.pairwise_iff_getElem.1 (srt4_rise l) m (m + 1) h1 h2 (by omega)
set_option maxRecDepth 100000 in
set_option maxHeartbeats 2000000 in
theorem nameSorts {B : Base} {w : World} (hS : St B [] w) (hT : TabP Tryd.prog B.e) (A : Option Addr) (cp : Nat) (l : List ByteArray) (hC : Kd.string.C B.e A l) (a : Int) :
    CallsIn Fence.wide 0 Tryd.prog 4 #[.slice A l.length cp, .int .i64 a] w (Ret B (fun _ : Unit => True) (fun _ => .bool true) (fun _ => [])) := by
  (refine enter Tryd.func4 rfl rfl hS ?_; simp only [List.zipIdx_cons, List.zipIdx_nil, List.map_cons, List.map_nil, Nat.reduceAdd, Nat.zero_add])
  refine wSeq ?_
  refine wRegion' ?_
  refine oAssign rfl ?_
  refine oNil ?_
  refine thn_n ?_
  refine wSeq ?_
  refine wSeq ?_
  refine wRegion' ?_
  refine oMove rfl ?_
  (refine oCall rfl (by kernel_rfl) (fun w hS => frame hS (by repeat' (first | exact Split.nil | exact Pick.here | apply Split.cons | apply Pick.there)) (fun B' hB hS' => law4_few hS' A cp l (Kd.C_grow hB hC))) ?_; rintro ⟨⟩ -)
  first | refine oNot rfl ?_ | refine oNotB rfl ?_
  refine oNil ?_
  refine thn_n ?_
  first | refine wCond rfl (fun h11 => ?_) (fun h11 => ?_) | refine wCondB rfl (fun h11 => ?_) (fun h11 => ?_)
  ·
    refine wSeq ?_
    refine wRegion' ?_
    (refine oCall rfl (by kernel_rfl) (fun w hS => frameK hS (by repeat' (first | exact Split.nil | exact Pick.here | apply Split.cons | apply Pick.there)) (fun B' hB hK hS' => known4 hS' (Keeps.tabP hK hT))) ?_; rintro ⟨⟩ -)
    refine oAssign rfl ?_
    refine oNil ?_
    refine thn_n ?_
    refine wRet ?_
    refine thn_r ?_
    refine fin_r ?_
    refine ⟨rfl, _, (ResL.cons (ResR.tmp rfl) ResL.nil), ?_⟩
    exact ⟨(), trivial, rfl, (Leads.has (by repeat' (first | exact Has.nil | exact Pick.here | apply Has.cons | apply Pick.there)))⟩
  ·
    refine wSkip ?_
    refine thn_n ?_
    refine wSeq ?_
    refine wRegion' ?_
    refine oMove rfl ?_
    have hl : l.length ≤ 60 := fewT_len (by simpa using h11)
    have hls := srt4_len l
    (refine oCall rfl (by kernel_rfl) (fun w hS => frame hS (by repeat' (first | exact Split.nil | exact Pick.here | apply Split.cons | apply Pick.there)) (fun B' hB hS' => name_Sort hS' A cp l (Kd.C_grow hB hC) (by omega) B.w)) ?_; rintro ⟨A14, c14⟩ -)
    refine oAssign rfl ?_
    refine oNil ?_
    refine thn_n ?_
    refine wSeq ?_
    refine wSeq ?_
    refine wRegion' ?_
    refine oAssign rfl ?_
    refine oNil ?_
    refine thn_n ?_
    refine wBlock ?_
    refine wLoop (ι := Nat) (fun i => [(0, .slice A l.length cp), (1, .int .i64 a), (5, .slice A14 (srt4 l).length c14), (6, .int .i64 (i : Int))]) (fun i => [row Kd.string B.w 9 (.slice A14 (srt4 l).length c14) (srt4 l)]) (fun i => 1 ≤ i ∧ i ≤ (srt4 l).length + 1) (fun i => (srt4 l).length + 1 - i) 1 ?_ (by repeat (first | exact trivial | refine And.intro rfl ?_)) (Leads.has (by repeat' (first | exact Has.nil | exact Pick.here | apply Has.cons | apply Pick.there))) ?_
    ·
      exact ⟨Nat.le_refl _, by omega⟩
    ·
      rintro i ⟨hi1, hi⟩
      obtain ⟨m, rfl⟩ : ∃ m, i = m + 1 := ⟨i - 1, by omega⟩
      try dsimp only
      refine wSeq ?_
      refine wSeq ?_
      refine wRegion' ?_
      refine oMove rfl ?_
      refine oMove rfl ?_
      refine oLenS rfl rfl ?_
      refine oLss rfl rfl ?_
      refine oNil ?_
      refine thn_n ?_
      first | refine wCond rfl (fun h18 => ?_) (fun h18 => ?_) | refine wCondB rfl (fun h18 => ?_) (fun h18 => ?_)
      ·
        refine wSkip ?_
        refine thn_n ?_
        refine wSeq ?_
        refine wBlock ?_
        refine wSeq ?_
        refine wDraw2 rfl rfl [0, 1, 5, 6] [2, 3, 4, 7, 8] 9 (by kernel_rfl) rfl rfl rfl (fun w0 => ?_)
        refine oSub rfl rfl (by omega) ?_
        refine oSet (t := 23) (v' := .int .i64 ((m : Nat) : Int)) rfl (by congr 1; omega) ?_
        refine oIdxR rfl rfl (by repeat (first | exact Pick.here | apply Pick.there)) (by omega) rfl rfl (fun g24 hg24 => ?_)
        first | subst hg24 | (injection hg24 with hg24; injection hg24 with hg24; subst hg24)
        first | refine oLdX rfl hc24 rfl rfl ?_ | refine oLdXA rfl hc24 rfl (by repeat (first | exact SubL.done | apply SubL.take | apply SubL.drop)) ?_ | (refine oLdR1 rfl (by repeat (first | exact Pick.here | apply Pick.there)) (by omega) rfl (fun u25 hu25 => ?_))
        refine oIdxR rfl rfl (by repeat (first | exact Pick.here | apply Pick.there)) (by omega) rfl rfl (fun g28 hg28 => ?_)
        first | subst hg28 | (injection hg28 with hg28; injection hg28 with hg28; subst hg28)
        first | refine oLdX rfl hc28 rfl rfl ?_ | refine oLdXA rfl hc28 rfl (by repeat (first | exact SubL.done | apply SubL.take | apply SubL.drop)) ?_ | (refine oLdR1 rfl (by repeat (first | exact Pick.here | apply Pick.there)) (by omega) rfl (fun u29 hu29 => ?_))
        refine oHead ?_
        refine oSGe rfl rfl ?_
        refine oNilT ?_
        refine thn_n ?_
        first | refine wCond rfl (fun h30 => ?_) (fun h30 => ?_) | refine wCondB rfl (fun h30 => ?_) (fun h30 => ?_)
        ·
          exact absurd (srt_next hu25 hu29) h30
        ·
          refine wSkip ?_
          refine blk_n ?_
          refine thn_n ?_
          refine wRegion' ?_
          refine oMove rfl ?_
          refine oSucc rfl rfl (by omega) ?_
          refine oAssign rfl ?_
          refine oNil ?_
          refine thn_n ?_
          exact ⟨rfl, m + 2, ⟨by omega, by omega⟩, by omega, (by repeat (first | exact trivial | refine And.intro rfl ?_)), (Leads.has (by repeat' (first | exact Has.nil | exact Pick.here | apply Has.cons | apply Pick.there)))⟩
      ·
        refine wExit ?_
        refine thn_x ?_
        refine thn_x ?_
        refine blk_x ?_
        refine thn_n ?_
        refine wSeq ?_
        refine wRegion' ?_
        refine oAssign rfl ?_
        refine oNil ?_
        refine thn_n ?_
        refine wSeq ?_
        refine wSeq ?_
        refine wRegion' ?_
        refine oAssign rfl ?_
        refine oNil ?_
        refine thn_n ?_
        refine wBlock ?_
        refine wLoop (ι := Nat × Option Addr × Nat) (fun z => [(0, .slice A l.length cp), (1, .int .i64 a), (5, .slice A14 (srt4 l).length c14), (7, .slice z.2.1 (l.reverse.take z.1).length z.2.2), (8, .int .i64 (z.1 : Int))]) (fun z => [row Kd.string B.w 9 (.slice A14 (srt4 l).length c14) (srt4 l), row Kd.string B.w 9 (.slice z.2.1 (l.reverse.take z.1).length z.2.2) (l.reverse.take z.1)]) (fun z => z.1 ≤ l.length) (fun z => l.length - z.1) (0, none, 0) ?_ (by repeat (first | exact trivial | refine And.intro rfl ?_)) (Leads.nilrow.trans (Leads.has (by repeat' (first | exact Has.nil | exact Pick.here | apply Has.cons | apply Pick.there)))) ?_
        ·
          exact Nat.zero_le _
        ·
          rintro ⟨i, A2, c2⟩ hi
          dsimp only at hi
          have hlt : (l.reverse.take i).length = i := by rw [List.length_take, List.length_reverse]; omega
          try dsimp only
          refine wSeq ?_
          refine wSeq ?_
          refine wRegion' ?_
          refine oMove rfl ?_
          refine oMove rfl ?_
          refine oLenS rfl rfl ?_
          refine oLss rfl rfl ?_
          refine oNil ?_
          refine thn_n ?_
          first | refine wCond rfl (fun h34 => ?_) (fun h34 => ?_) | refine wCondB rfl (fun h34 => ?_) (fun h34 => ?_)
          ·
            obtain ⟨x, hx⟩ : ∃ x, l[l.length - 1 - i]? = some x := ⟨_, List.getElem?_eq_getElem (by omega)⟩
            have hrx : l.reverse[i]? = some x := by rw [List.getElem?_reverse (by omega)]; exact hx
            have hft : l.reverse.take (i + 1) = l.reverse.take i ++ [x] := by rw [List.take_add_one, hrx]; rfl
            obtain ⟨e1, cs1, hE⟩ := hC.elm hx
            obtain rfl := (show cs1 = [Value.string x] from hE.K)
            refine wSkip ?_
            refine thn_n ?_
            refine wSeq ?_
            refine wBlock ?_
            refine wRegion' ?_
            refine oMove rfl ?_
            refine oMove rfl ?_
            refine oMove rfl ?_
            refine oLenS rfl rfl ?_
            refine oSub rfl rfl (by omega) ?_
            refine oMove rfl ?_
            refine oSub rfl rfl (by omega) ?_
            refine oSet (t := 43) (v' := .int .i64 ((l.length - 1 - i : Nat) : Int)) rfl (by congr 1; omega) ?_
            refine oIdxE rfl rfl (hE) (by omega) rfl rfl ?_
            have hc44 := (hE).cell
            first | refine oLdX rfl hc44 rfl rfl ?_ | refine oLdXA rfl hc44 rfl (by repeat (first | exact SubL.done | apply SubL.take | apply SubL.drop)) ?_ | (refine oLdR1 rfl (by repeat (first | exact Pick.here | apply Pick.there)) (by omega) rfl (fun u45 hu45 => ?_))
            refine oBuildSlice1 rfl rfl rfl rfl rfl (by first | exact CellsOf.agg | exact CellsOf.one rfl) rfl (fun b46 => ?_)
            refine oApp1 x rfl rfl rfl rfl (by repeat (first | exact Pick.here | apply Pick.there)) (by repeat (first | exact Pick.here | apply Pick.there)) rfl (by omega) rfl (fun g47 cp47 => ?_)
            rw [show (l.reverse.take i).length + 1 = (l.reverse.take (i + 1)).length by rw [hft, List.length_append]; rfl, ← hft]
            refine oAssign rfl ?_
            refine oNil ?_
            refine blk_n ?_
            refine thn_n ?_
            refine wRegion' ?_
            refine oMove rfl ?_
            refine oSucc rfl rfl (by omega) ?_
            refine oAssign rfl ?_
            refine oNil ?_
            refine thn_n ?_
            exact ⟨rfl, (i + 1, some ⟨g47, 0, none⟩, cp47), by show i + 1 ≤ _; omega, by show l.length - (i + 1) < l.length - i; omega, (by repeat (first | exact trivial | refine And.intro rfl ?_)), (Leads.has (by repeat' (first | exact Has.nil | exact Pick.here | apply Has.cons | apply Pick.there)))⟩
          ·
            obtain rfl : i = l.length := by omega
            rw [show l.reverse.take l.length = l.reverse from List.take_of_length_le (by simp)]
            refine wExit ?_
            refine thn_x ?_
            refine thn_x ?_
            refine blk_x ?_
            refine thn_n ?_
            refine wSeq ?_
            refine wSeq ?_
            refine wRegion' ?_
            refine oMove rfl ?_
            refine oGeq rfl rfl ?_
            refine oMove rfl ?_
            first | refine oSplit (t := 50) rfl (fun h50 => ?_) (fun h50 => ?_) | refine oSplitB (t := 50) rfl (fun h50 => ?_) (fun h50 => ?_)
            ·
              obtain ⟨k, rfl⟩ := Int.eq_ofNat_of_zero_le h50
              refine oWant rfl rfl ?_
              refine oMove rfl ?_
              refine oWant rfl rfl ?_
              refine oMove rfl ?_
              refine oWant rfl rfl ?_
              refine oLenS rfl rfl ?_
              refine oWant rfl rfl ?_
              refine oLss rfl rfl ?_
              refine oPickT rfl rfl ?_
              refine oMove rfl ?_
              first | refine oSplit (t := 56) rfl (fun h56 => ?_) (fun h56 => ?_) | refine oSplitB (t := 56) rfl (fun h56 => ?_) (fun h56 => ?_)
              ·
                obtain ⟨x2, hx2⟩ : ∃ x, l[k]? = some x := ⟨_, List.getElem?_eq_getElem (by omega)⟩
                obtain ⟨e2, cs2, hE2⟩ := hC.elm hx2
                obtain rfl := (show cs2 = [Value.string x2] from hE2.K)
                refine oWant rfl rfl ?_
                refine oMove rfl ?_
                refine oWant rfl rfl ?_
                refine oMove rfl ?_
                refine oWant rfl rfl ?_
                refine oIdxE rfl rfl (hE2) (by omega) rfl rfl ?_
                have hc59 := (hE2).cell
                refine oWant rfl rfl ?_
                first | refine oLdX rfl hc59 rfl rfl ?_ | refine oLdXA rfl hc59 rfl (by repeat (first | exact SubL.done | apply SubL.take | apply SubL.drop)) ?_ | (refine oLdR1 rfl (by repeat (first | exact Pick.here | apply Pick.there)) (by omega) rfl (fun u60 hu60 => ?_))
                refine oWant rfl rfl ?_
                (refine oCall rfl (by kernel_rfl) (fun w hS => frame hS (by repeat' (first | exact Split.nil | exact Pick.here | apply Split.cons | apply Pick.there)) (fun B' hB hS' => name_Check hS' x2)) ?_; rintro ⟨⟩ -)
                refine oWant rfl rfl ?_
                refine oEql rfl rfl ?_
                refine oPickT rfl rfl ?_
                refine oMove rfl ?_
                first | refine oSplit (t := 64) rfl (fun h64 => ?_) (fun h64 => ?_) | refine oSplitB (t := 64) rfl (fun h64 => ?_) (fun h64 => ?_)
                ·
                  refine oWant rfl rfl ?_
                  refine oMove rfl ?_
                  refine oWant rfl rfl ?_
                  refine oMove rfl ?_
                  refine oWant rfl rfl ?_
                  refine oMove rfl ?_
                  refine oWant rfl rfl ?_
                  refine oIdxE rfl rfl (hE2) (by omega) rfl rfl ?_
                  have hc68 := (hE2).cell
                  refine oWant rfl rfl ?_
                  first | refine oLdX rfl hc68 rfl rfl ?_ | refine oLdXA rfl hc68 rfl (by repeat (first | exact SubL.done | apply SubL.take | apply SubL.drop)) ?_ | (refine oLdR1 rfl (by repeat (first | exact Pick.here | apply Pick.there)) (by omega) rfl (fun u69 hu69 => ?_))
                  refine oWant rfl rfl ?_
                  (refine oCall rfl (by kernel_rfl) (fun w hS => frame' hS .nil (fun B' hB hR hS' => name_Find hS' A14 c14 (srt4 l) (row_Cs (A := A14) (W := B.w) (e := 9) (n := (srt4 l).length) (cp := c14) (hR _ _ (by repeat (first | exact Pick.here | apply Pick.there)))) x2)) ?_; rintro ⟨⟩ -)
                  refine oWant rfl rfl ?_
                  refine oLss rfl rfl ?_
                  refine oPickT rfl rfl ?_
                  refine oNil ?_
                  refine thn_n ?_
                  first | refine wCond rfl (fun h72 => ?_) (fun h72 => ?_) | refine wCondB rfl (fun h72 => ?_) (fun h72 => ?_)
                  ·
                    exact absurd (fndS_mem.2 (srt4_mem.2 ⟨List.mem_of_getElem? hx2, decide_eq_true h64⟩)) (by omega)
                  ·
                    refine wSkip ?_
                    refine thn_n ?_
                    refine wSeq ?_
                    refine wRegion' ?_
                    refine oMove rfl ?_
                    (refine oCall rfl (by kernel_rfl) (fun w hS => frame' hS .nil (fun B' hB hR hS' => name_Sort hS' A14 c14 (srt4 l) (row_Cs (A := A14) (W := B.w) (e := 9) (n := (srt4 l).length) (cp := c14) (hR _ _ (by repeat (first | exact Pick.here | apply Pick.there)))) (by omega) B.w)) ?_; rintro ⟨A74, c74⟩ -)
                    rw [srt4_idem]
                    refine oMove rfl ?_
                    (refine oCall rfl (by kernel_rfl) (fun w hS => frame' hS .nil (fun B' hB hR hS' => ref1_Texts hS' A74 c74 (srt4 l) (row_Cs (A := A74) (W := B.w) (e := 9) (n := (srt4 l).length) (cp := c74) (hR _ _ (by repeat (first | exact Pick.here | apply Pick.there)))) A14 c14 (srt4 l) (row_Cs (A := A14) (W := B.w) (e := 9) (n := (srt4 l).length) (cp := c14) (hR _ _ (by repeat (first | exact Pick.here | apply Pick.there)))) (by omega))) ?_; rintro ⟨⟩ -)
                    refine oMove rfl ?_
                    first | refine oSplit (t := 77) rfl (fun h77 => ?_) (fun h77 => ?_) | refine oSplitB (t := 77) rfl (fun h77 => ?_) (fun h77 => ?_)
                    ·
                      refine oWant rfl rfl ?_
                      refine oMove rfl ?_
                      refine oWant rfl rfl ?_
                      (refine oCall rfl (by kernel_rfl) (fun w hS => frame' hS .nil (fun B' hB hR hS' => name_Sort hS' A2 c2 l.reverse (row_Cs (A := A2) (W := B.w) (e := 9) (n := l.reverse.length) (cp := c2) (hR _ _ (by repeat (first | exact Pick.here | apply Pick.there)))) (by rw [List.length_reverse]; omega) B.w)) ?_; rintro ⟨A79, c79⟩ -)
                      rw [srt4_rev]
                      refine oWant rfl rfl ?_
                      refine oMove rfl ?_
                      refine oWant rfl rfl ?_
                      (refine oCall rfl (by kernel_rfl) (fun w hS => frame' hS .nil (fun B' hB hR hS' => ref1_Texts hS' A79 c79 (srt4 l) (row_Cs (A := A79) (W := B.w) (e := 9) (n := (srt4 l).length) (cp := c79) (hR _ _ (by repeat (first | exact Pick.here | apply Pick.there)))) A14 c14 (srt4 l) (row_Cs (A := A14) (W := B.w) (e := 9) (n := (srt4 l).length) (cp := c14) (hR _ _ (by repeat (first | exact Pick.here | apply Pick.there)))) (by omega))) ?_; rintro ⟨⟩ -)
                      refine oPickT rfl rfl ?_
                      refine oMove rfl ?_
                      first | refine oSplit (t := 83) rfl (fun h83 => ?_) (fun h83 => ?_) | refine oSplitB (t := 83) rfl (fun h83 => ?_) (fun h83 => ?_)
                      ·
                        refine oWant rfl rfl ?_
                        (refine oCall rfl (by kernel_rfl) (fun w hS => frameK hS (by repeat' (first | exact Split.nil | exact Pick.here | apply Split.cons | apply Pick.there)) (fun B' hB hK hS' => known4 hS' (Keeps.tabP hK hT))) ?_; rintro ⟨⟩ -)
                        refine oPickT rfl rfl ?_
                        refine oAssign rfl ?_
                        refine oNil ?_
                        refine thn_n ?_
                        refine wRet ?_
                        refine fin_r ?_
                        refine ⟨rfl, _, (ResL.cons (ResR.tmp rfl) ResL.nil), ?_⟩
                        exact ⟨(), trivial, rfl, (Leads.has (by repeat' (first | exact Has.nil | exact Pick.here | apply Has.cons | apply Pick.there)))⟩
                      ·
                        exact absurd rfl h83
                    ·
                      exact absurd rfl h77
                ·
                  refine oSkip rfl rfl rfl rfl ?_
                  refine oSkip rfl rfl rfl rfl ?_
                  refine oSkip rfl rfl rfl rfl ?_
                  refine oSkip rfl rfl rfl rfl ?_
                  refine oSkip rfl rfl rfl rfl ?_
                  refine oSkip rfl rfl rfl rfl ?_
                  refine oSkip rfl rfl rfl rfl ?_
                  refine oPickF rfl rfl ?_
                  refine oNil ?_
                  refine thn_n ?_
                  first | refine wCondF rfl ?_ | refine wCondFd h72 rfl ?_ | refine wCondFb h72 rfl ?_
                  refine wSkip ?_
                  refine thn_n ?_
                  refine wSeq ?_
                  refine wRegion' ?_
                  refine oMove rfl ?_
                  (refine oCall rfl (by kernel_rfl) (fun w hS => frame' hS .nil (fun B' hB hR hS' => name_Sort hS' A14 c14 (srt4 l) (row_Cs (A := A14) (W := B.w) (e := 9) (n := (srt4 l).length) (cp := c14) (hR _ _ (by repeat (first | exact Pick.here | apply Pick.there)))) (by omega) B.w)) ?_; rintro ⟨A74, c74⟩ -)
                  rw [srt4_idem]
                  refine oMove rfl ?_
                  (refine oCall rfl (by kernel_rfl) (fun w hS => frame' hS .nil (fun B' hB hR hS' => ref1_Texts hS' A74 c74 (srt4 l) (row_Cs (A := A74) (W := B.w) (e := 9) (n := (srt4 l).length) (cp := c74) (hR _ _ (by repeat (first | exact Pick.here | apply Pick.there)))) A14 c14 (srt4 l) (row_Cs (A := A14) (W := B.w) (e := 9) (n := (srt4 l).length) (cp := c14) (hR _ _ (by repeat (first | exact Pick.here | apply Pick.there)))) (by omega))) ?_; rintro ⟨⟩ -)
                  refine oMove rfl ?_
                  first | refine oSplit (t := 77) rfl (fun h77 => ?_) (fun h77 => ?_) | refine oSplitB (t := 77) rfl (fun h77 => ?_) (fun h77 => ?_)
                  ·
                    refine oWant rfl rfl ?_
                    refine oMove rfl ?_
                    refine oWant rfl rfl ?_
                    (refine oCall rfl (by kernel_rfl) (fun w hS => frame' hS .nil (fun B' hB hR hS' => name_Sort hS' A2 c2 l.reverse (row_Cs (A := A2) (W := B.w) (e := 9) (n := l.reverse.length) (cp := c2) (hR _ _ (by repeat (first | exact Pick.here | apply Pick.there)))) (by rw [List.length_reverse]; omega) B.w)) ?_; rintro ⟨A79, c79⟩ -)
                    rw [srt4_rev]
                    refine oWant rfl rfl ?_
                    refine oMove rfl ?_
                    refine oWant rfl rfl ?_
                    (refine oCall rfl (by kernel_rfl) (fun w hS => frame' hS .nil (fun B' hB hR hS' => ref1_Texts hS' A79 c79 (srt4 l) (row_Cs (A := A79) (W := B.w) (e := 9) (n := (srt4 l).length) (cp := c79) (hR _ _ (by repeat (first | exact Pick.here | apply Pick.there)))) A14 c14 (srt4 l) (row_Cs (A := A14) (W := B.w) (e := 9) (n := (srt4 l).length) (cp := c14) (hR _ _ (by repeat (first | exact Pick.here | apply Pick.there)))) (by omega))) ?_; rintro ⟨⟩ -)
                    refine oPickT rfl rfl ?_
                    refine oMove rfl ?_
                    first | refine oSplit (t := 83) rfl (fun h83 => ?_) (fun h83 => ?_) | refine oSplitB (t := 83) rfl (fun h83 => ?_) (fun h83 => ?_)
                    ·
                      refine oWant rfl rfl ?_
                      (refine oCall rfl (by kernel_rfl) (fun w hS => frameK hS (by repeat' (first | exact Split.nil | exact Pick.here | apply Split.cons | apply Pick.there)) (fun B' hB hK hS' => known4 hS' (Keeps.tabP hK hT))) ?_; rintro ⟨⟩ -)
                      refine oPickT rfl rfl ?_
                      refine oAssign rfl ?_
                      refine oNil ?_
                      refine thn_n ?_
                      refine wRet ?_
                      refine fin_r ?_
                      refine ⟨rfl, _, (ResL.cons (ResR.tmp rfl) ResL.nil), ?_⟩
                      exact ⟨(), trivial, rfl, (Leads.has (by repeat' (first | exact Has.nil | exact Pick.here | apply Has.cons | apply Pick.there)))⟩
                    ·
                      exact absurd rfl h83
                  ·
                    exact absurd rfl h77
              ·
                refine oSkip rfl rfl rfl rfl ?_
                refine oSkip rfl rfl rfl rfl ?_
                refine oSkip rfl rfl rfl rfl ?_
                refine oSkip rfl rfl rfl rfl ?_
                refine oSkip rfl rfl rfl rfl ?_
                refine oSkip rfl rfl rfl rfl ?_
                refine oPickF rfl rfl ?_
                refine oMove rfl ?_
                refine oSkip rfl rfl rfl rfl ?_
                refine oSkip rfl rfl rfl rfl ?_
                refine oSkip rfl rfl rfl rfl ?_
                refine oSkip rfl rfl rfl rfl ?_
                refine oSkip rfl rfl rfl rfl ?_
                refine oSkip rfl rfl rfl rfl ?_
                refine oSkip rfl rfl rfl rfl ?_
                refine oPickF rfl rfl ?_
                refine oNil ?_
                refine thn_n ?_
                first | refine wCondF rfl ?_ | refine wCondFd h72 rfl ?_ | refine wCondFb h72 rfl ?_
                refine wSkip ?_
                refine thn_n ?_
                refine wSeq ?_
                refine wRegion' ?_
                refine oMove rfl ?_
                (refine oCall rfl (by kernel_rfl) (fun w hS => frame' hS .nil (fun B' hB hR hS' => name_Sort hS' A14 c14 (srt4 l) (row_Cs (A := A14) (W := B.w) (e := 9) (n := (srt4 l).length) (cp := c14) (hR _ _ (by repeat (first | exact Pick.here | apply Pick.there)))) (by omega) B.w)) ?_; rintro ⟨A74, c74⟩ -)
                rw [srt4_idem]
                refine oMove rfl ?_
                (refine oCall rfl (by kernel_rfl) (fun w hS => frame' hS .nil (fun B' hB hR hS' => ref1_Texts hS' A74 c74 (srt4 l) (row_Cs (A := A74) (W := B.w) (e := 9) (n := (srt4 l).length) (cp := c74) (hR _ _ (by repeat (first | exact Pick.here | apply Pick.there)))) A14 c14 (srt4 l) (row_Cs (A := A14) (W := B.w) (e := 9) (n := (srt4 l).length) (cp := c14) (hR _ _ (by repeat (first | exact Pick.here | apply Pick.there)))) (by omega))) ?_; rintro ⟨⟩ -)
                refine oMove rfl ?_
                first | refine oSplit (t := 77) rfl (fun h77 => ?_) (fun h77 => ?_) | refine oSplitB (t := 77) rfl (fun h77 => ?_) (fun h77 => ?_)
                ·
                  refine oWant rfl rfl ?_
                  refine oMove rfl ?_
                  refine oWant rfl rfl ?_
                  (refine oCall rfl (by kernel_rfl) (fun w hS => frame' hS .nil (fun B' hB hR hS' => name_Sort hS' A2 c2 l.reverse (row_Cs (A := A2) (W := B.w) (e := 9) (n := l.reverse.length) (cp := c2) (hR _ _ (by repeat (first | exact Pick.here | apply Pick.there)))) (by rw [List.length_reverse]; omega) B.w)) ?_; rintro ⟨A79, c79⟩ -)
                  rw [srt4_rev]
                  refine oWant rfl rfl ?_
                  refine oMove rfl ?_
                  refine oWant rfl rfl ?_
                  (refine oCall rfl (by kernel_rfl) (fun w hS => frame' hS .nil (fun B' hB hR hS' => ref1_Texts hS' A79 c79 (srt4 l) (row_Cs (A := A79) (W := B.w) (e := 9) (n := (srt4 l).length) (cp := c79) (hR _ _ (by repeat (first | exact Pick.here | apply Pick.there)))) A14 c14 (srt4 l) (row_Cs (A := A14) (W := B.w) (e := 9) (n := (srt4 l).length) (cp := c14) (hR _ _ (by repeat (first | exact Pick.here | apply Pick.there)))) (by omega))) ?_; rintro ⟨⟩ -)
                  refine oPickT rfl rfl ?_
                  refine oMove rfl ?_
                  first | refine oSplit (t := 83) rfl (fun h83 => ?_) (fun h83 => ?_) | refine oSplitB (t := 83) rfl (fun h83 => ?_) (fun h83 => ?_)
                  ·
                    refine oWant rfl rfl ?_
                    (refine oCall rfl (by kernel_rfl) (fun w hS => frameK hS (by repeat' (first | exact Split.nil | exact Pick.here | apply Split.cons | apply Pick.there)) (fun B' hB hK hS' => known4 hS' (Keeps.tabP hK hT))) ?_; rintro ⟨⟩ -)
                    refine oPickT rfl rfl ?_
                    refine oAssign rfl ?_
                    refine oNil ?_
                    refine thn_n ?_
                    refine wRet ?_
                    refine fin_r ?_
                    refine ⟨rfl, _, (ResL.cons (ResR.tmp rfl) ResL.nil), ?_⟩
                    exact ⟨(), trivial, rfl, (Leads.has (by repeat' (first | exact Has.nil | exact Pick.here | apply Has.cons | apply Pick.there)))⟩
                  ·
                    exact absurd rfl h83
                ·
                  exact absurd rfl h77
            ·
              refine oSkip rfl rfl rfl rfl ?_
              refine oSkip rfl rfl rfl rfl ?_
              refine oSkip rfl rfl rfl rfl ?_
              refine oSkip rfl rfl rfl rfl ?_
              refine oPickF rfl rfl ?_
              refine oMove rfl ?_
              refine oSkip rfl rfl rfl rfl ?_
              refine oSkip rfl rfl rfl rfl ?_
              refine oSkip rfl rfl rfl rfl ?_
              refine oSkip rfl rfl rfl rfl ?_
              refine oSkip rfl rfl rfl rfl ?_
              refine oSkip rfl rfl rfl rfl ?_
              refine oPickF rfl rfl ?_
              refine oMove rfl ?_
              refine oSkip rfl rfl rfl rfl ?_
              refine oSkip rfl rfl rfl rfl ?_
              refine oSkip rfl rfl rfl rfl ?_
              refine oSkip rfl rfl rfl rfl ?_
              refine oSkip rfl rfl rfl rfl ?_
              refine oSkip rfl rfl rfl rfl ?_
              refine oSkip rfl rfl rfl rfl ?_
              refine oPickF rfl rfl ?_
              refine oNil ?_
              refine thn_n ?_
              first | refine wCondF rfl ?_ | refine wCondFd h72 rfl ?_ | refine wCondFb h72 rfl ?_
              refine wSkip ?_
              refine thn_n ?_
              refine wSeq ?_
              refine wRegion' ?_
              refine oMove rfl ?_
              (refine oCall rfl (by kernel_rfl) (fun w hS => frame' hS .nil (fun B' hB hR hS' => name_Sort hS' A14 c14 (srt4 l) (row_Cs (A := A14) (W := B.w) (e := 9) (n := (srt4 l).length) (cp := c14) (hR _ _ (by repeat (first | exact Pick.here | apply Pick.there)))) (by omega) B.w)) ?_; rintro ⟨A74, c74⟩ -)
              rw [srt4_idem]
              refine oMove rfl ?_
              (refine oCall rfl (by kernel_rfl) (fun w hS => frame' hS .nil (fun B' hB hR hS' => ref1_Texts hS' A74 c74 (srt4 l) (row_Cs (A := A74) (W := B.w) (e := 9) (n := (srt4 l).length) (cp := c74) (hR _ _ (by repeat (first | exact Pick.here | apply Pick.there)))) A14 c14 (srt4 l) (row_Cs (A := A14) (W := B.w) (e := 9) (n := (srt4 l).length) (cp := c14) (hR _ _ (by repeat (first | exact Pick.here | apply Pick.there)))) (by omega))) ?_; rintro ⟨⟩ -)
              refine oMove rfl ?_
              first | refine oSplit (t := 77) rfl (fun h77 => ?_) (fun h77 => ?_) | refine oSplitB (t := 77) rfl (fun h77 => ?_) (fun h77 => ?_)
              ·
                refine oWant rfl rfl ?_
                refine oMove rfl ?_
                refine oWant rfl rfl ?_
                (refine oCall rfl (by kernel_rfl) (fun w hS => frame' hS .nil (fun B' hB hR hS' => name_Sort hS' A2 c2 l.reverse (row_Cs (A := A2) (W := B.w) (e := 9) (n := l.reverse.length) (cp := c2) (hR _ _ (by repeat (first | exact Pick.here | apply Pick.there)))) (by rw [List.length_reverse]; omega) B.w)) ?_; rintro ⟨A79, c79⟩ -)
                rw [srt4_rev]
                refine oWant rfl rfl ?_
                refine oMove rfl ?_
                refine oWant rfl rfl ?_
                (refine oCall rfl (by kernel_rfl) (fun w hS => frame' hS .nil (fun B' hB hR hS' => ref1_Texts hS' A79 c79 (srt4 l) (row_Cs (A := A79) (W := B.w) (e := 9) (n := (srt4 l).length) (cp := c79) (hR _ _ (by repeat (first | exact Pick.here | apply Pick.there)))) A14 c14 (srt4 l) (row_Cs (A := A14) (W := B.w) (e := 9) (n := (srt4 l).length) (cp := c14) (hR _ _ (by repeat (first | exact Pick.here | apply Pick.there)))) (by omega))) ?_; rintro ⟨⟩ -)
                refine oPickT rfl rfl ?_
                refine oMove rfl ?_
                first | refine oSplit (t := 83) rfl (fun h83 => ?_) (fun h83 => ?_) | refine oSplitB (t := 83) rfl (fun h83 => ?_) (fun h83 => ?_)
                ·
                  refine oWant rfl rfl ?_
                  (refine oCall rfl (by kernel_rfl) (fun w hS => frameK hS (by repeat' (first | exact Split.nil | exact Pick.here | apply Split.cons | apply Pick.there)) (fun B' hB hK hS' => known4 hS' (Keeps.tabP hK hT))) ?_; rintro ⟨⟩ -)
                  refine oPickT rfl rfl ?_
                  refine oAssign rfl ?_
                  refine oNil ?_
                  refine thn_n ?_
                  refine wRet ?_
                  refine fin_r ?_
                  refine ⟨rfl, _, (ResL.cons (ResR.tmp rfl) ResL.nil), ?_⟩
                  exact ⟨(), trivial, rfl, (Leads.has (by repeat' (first | exact Has.nil | exact Pick.here | apply Has.cons | apply Pick.there)))⟩
                ·
                  exact absurd rfl h83
              ·
                exact absurd rfl h77
end Go.Proofs.YtcacohoanlljhaaDoorN
