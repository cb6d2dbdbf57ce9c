import Derived.Test.YtcacohoanlljhaaHe

/-
  Package deep: Worst; the reference's Worst.
-/
namespace Go.Proofs.YtcacohoanlljhaaG
set_option linter.unusedVariables false
set_option linter.unusedSimpArgs false
open Go.RowKit Go.Proofs.YtcacohoanlljhaaK Go.Proofs.YtcacohoanlljhaaT Go.Proofs.YtcacohoanlljhaaL

set_option maxRecDepth 100000 in
theorem worst1 {B : Base} {w : World} (D : List Int) (A : Option Addr) (cp b2 : Nat) (hS : St B [blk b2 24 [.slice A D.length cp]] w) (hC : (Kd.int .i64).C B.e A D) (hin : InD D) (x y : Nat) (hx : x < D.length) (hy : y < D.length) :
    CallsIn Fence.wide 0 Try.prog 31 #[.int .i64 (x : Int), .int .i64 (y : Int), .pointer (some ⟨b2, 0, none⟩)] w (Ret B (fun _ : Unit => True) (fun _ => .int .i64 (vD D x - vD D y)) (fun _ => [blk b2 24 [.slice A D.length cp]])) := by
  have hdx := hin x
  have hdy := hin y
  obtain ⟨e1, cs1, hE1⟩ := hC.elm (show D[x]? = some (D.getD x 0) by rw [List.getD_eq_getElem?_getD, List.getElem?_eq_getElem hx]; rfl)
  obtain rfl := hE1.K
  obtain ⟨e2, cs2, hE2⟩ := hC.elm (show D[y]? = some (D.getD y 0) by rw [List.getD_eq_getElem?_getD, List.getElem?_eq_getElem hy]; rfl)
  obtain rfl := hE2.K
  (refine enter Try.func31 rfl rfl hS ?_; simp only [List.zipIdx_cons, List.zipIdx_nil, List.map_cons, List.map_nil, Nat.reduceAdd, Nat.zero_add])
  refine wSeq ?_
  refine wRegion' ?_
  refine oAssign rfl ?_
  refine oNil ?_
  refine thn_n ?_
  refine wSeq ?_
  refine wDraw2 rfl rfl [1, 5] [0, 2, 3, 4, 6, 7, 8] 9 (by kernel_rfl) rfl rfl rfl (fun w0 => ?_)
  refine oLd rfl (by repeat (first | exact Pick.here | apply Pick.there)) rfl rfl ?_
  refine oIdxE rfl rfl (hE1) (by omega) rfl rfl ?_
  have hc8 := (hE1).cell
  first | refine oLdX rfl hc8 rfl rfl ?_ | refine oLdXA rfl hc8 rfl (by repeat (first | exact SubL.done | apply SubL.take | apply SubL.drop)) ?_ | (refine oLdR1 rfl (by repeat (first | exact Pick.here | apply Pick.there)) (by omega) rfl (fun u9 hu9 => ?_))
  refine oLd rfl (by repeat (first | exact Pick.here | apply Pick.there)) rfl rfl ?_
  refine oIdxE rfl rfl (hE2) (by omega) rfl rfl ?_
  have hc12 := (hE2).cell
  first | refine oLdX rfl hc12 rfl rfl ?_ | refine oLdXA rfl hc12 rfl (by repeat (first | exact SubL.done | apply SubL.take | apply SubL.drop)) ?_ | (refine oLdR1 rfl (by repeat (first | exact Pick.here | apply Pick.there)) (by omega) rfl (fun u13 hu13 => ?_))
  refine oSub rfl rfl (by omega) ?_
  refine oHead ?_
  refine oAssign rfl ?_
  refine oNilT ?_
  refine thn_n ?_
  refine wRet ?_
  refine fin_r ?_
  refine ⟨rfl, _, (ResL.cons (ResR.tmp rfl) ResL.nil), ?_⟩
  exact ⟨(), trivial, by unfold vD; rw [Int.toNat_natCast, Int.toNat_natCast]; rfl, (Leads.has (by repeat' (first | exact Has.nil | exact Pick.here | apply Has.cons | apply Pick.there)))⟩
theorem DLo_ok {g : Graph} {ib : List Bool} {own : List Int} {rest step : Int} (h : okO g ib = true) : DLo g ib own rest step = DL g ib own rest step := by unfold DLo; rw [h, if_pos rfl]
theorem wsL_no {g : Graph} {ib : List Bool} {own : List Int} {rest step at_ : Int} (h : okO g ib = false ∨ at_ < 0 ∨ (g.length : Int) ≤ at_) : wsL g ib own rest step at_ = [] := by
  unfold wsL
  rw [if_neg]
  simp only [Bool.and_eq_true, decide_eq_true_eq]
  rintro ⟨⟨h1, h2⟩, h3⟩
  rcases h with h | h | h
  · rw [h1] at h; cases h
  · omega
  · omega
theorem wsL_yes {g : Graph} {ib : List Bool} {own : List Int} {rest step : Int} {k : Nat} (h : okO g ib = true) (hk : k < g.length) : wsL g ib own rest step (k : Int) = wy g ib (DL g ib own rest step) (g.length + 1) k := by
  unfold wsL
  rw [if_pos (by simp [h, hk]), Int.toNat_natCast]
/-- A way begun: what is told, and what is left. -/
structure WyI (g : Graph) (ib : List Bool) (D : List Int) (k : Nat) (o : List Int) (a f : Nat) : Prop where
  lt : a < g.length
  rk : rk g ib a < f
  eq : wy g ib D (g.length + 1) k = o ++ wy g ib D f a
  len : o.length + f ≤ g.length + 1
theorem WyI.init {g : Graph} {ib : List Bool} {D : List Int} {k : Nat} (hk : k < g.length) : WyI g ib D k [] k (g.length + 1) := ⟨hk, by have := rk_le (g := g) (ib := ib) k; omega, rfl, by simp⟩
theorem WyI.go {g : Graph} {ib : List Bool} {D : List Int} {k : Nat} {o : List Int} {a f c : Nat} (h : WyI g ib D k o a (f + 1)) (hok : okO g ib = true) (hm : memF g ib (a : Int) = true) (hc : bst g D a = (c : Int)) : WyI g ib D k (o ++ [(a : Int)]) c f := by
  obtain ⟨c', hc', he, hl, _⟩ := bst_spec (show 0 ≤ bst g D a by omega)
  obtain rfl : c = c' := by omega
  have hr := rk_lt hok hm he
  exact ⟨hl, by have := h.rk; omega, by rw [h.eq, wy_go hm hc, List.append_assoc]; rfl, by have := h.len; rw [List.length_append]; simp only [List.length_cons, List.length_nil]; omega⟩
theorem WyI.stop {g : Graph} {ib : List Bool} {D : List Int} {k : Nat} {o : List Int} {a f : Nat} (h : WyI g ib D k o a f) (hs : memF g ib (a : Int) = false ∨ bst g D a < 0) : wy g ib D (g.length + 1) k = o ++ [(a : Int)] := by
  have := h.rk
  cases f with
  | zero => omega
  | succ f => rw [h.eq, wy_stop hs]
set_option maxRecDepth 100000 in
set_option maxHeartbeats 1000000 in
theorem worstP {B : Base} {w : World} (hS : St B [] w) (g : Graph) (A : Option Addr) (cp : Nat) (hC : kII.C B.e A g) (hsm : SmallG g) (ib : List Bool) (A1 : Option Addr) (cp1 : Nat) (hC1 : Kd.bool.C B.e A1 ib) (hib : ib.length ≤ 1000) (own : List Int) (A2 : Option Addr) (cp2 : Nat) (hC2 : (Kd.int .i64).C B.e A2 own) (rest step at_ : Int) (W0 : World) :
    CallsIn Fence.wide 0 Try.prog 13 #[.slice A g.length cp, .slice A1 ib.length cp1, .slice A2 own.length cp2, .int .i64 rest, .int .i64 step, .int .i64 at_] w
      (Ret B (fun _ : Option Addr × Nat => True) (fun z => .slice z.1 (wsL g ib own rest step at_).length z.2) (fun z => [row (Kd.int .i64) W0 3 (.slice z.1 (wsL g ib own rest step at_).length z.2) (wsL g ib own rest step at_)])) := by
  have hn := hsm.1
  have hcll : (cleanG g).length = g.length := cleanG_len g
  (refine enter Try.func13 rfl rfl hS ?_; simp only [List.zipIdx_cons, List.zipIdx_nil, List.map_cons, List.map_nil, Nat.reduceAdd, Nat.zero_add])
  refine wSeq ?_
  refine wRegion' ?_
  refine oAssign rfl ?_
  refine oNil ?_
  refine thn_n ?_
  refine wSeq ?_
  refine wRegion' ?_
  refine oMove rfl ?_
  refine oMove rfl ?_
  refine oMove rfl ?_
  refine oMove rfl ?_
  refine oMove rfl ?_
  (refine oCall rfl (by kernel_rfl) (fun w hS => frame hS (by repeat' (first | exact Split.nil | exact Pick.here | apply Split.cons | apply Pick.there)) (fun B' hB hS' => depthsP hS' g A cp (Kd.C_grow hB hC) hsm ib A1 cp1 (Kd.C_grow hB hC1) hib own A2 cp2 (Kd.C_grow hB hC2) rest step B.e)) ?_; rintro ⟨A23, c23⟩ -)
  refine oMove rfl ?_
  refine oExt rfl (by repeat (first | exact GetAt.here | apply GetAt.there)) ?_
  refine oExt rfl (by repeat (first | exact GetAt.here | apply GetAt.there)) ?_
  refine oAlloc rfl (by first | exact CellsOf.agg | exact CellsOf.one rfl) (fun b13 => ?_)
  refine oSt rfl rfl rfl rfl rfl (by repeat (first | exact Pick.here | apply Pick.there)) (by repeat (first | exact SetAt.here | apply SetAt.there)) ?_
  refine oAssign rfl ?_
  refine oNil ?_
  refine thn_n ?_
  refine wFreeze [row (Kd.int .i64) B.e 3 (.slice A23 (DLo g ib own rest step).length c23) (DLo g ib own rest step)] (by repeat' (first | exact Split.nil | exact Pick.here | apply Split.cons | apply Pick.there)) (fun B1 hB1 hq1 => ?_)
  have hCD := (row_C (kd := Kd.int .i64) (W := B.e) (e := 3) (A := A23) (n := (DLo g ib own rest step).length) (cp := c23) (xs := DLo g ib own rest step) (hq1 _ _ (by repeat (first | exact Pick.here | apply Pick.there))) hB1).2.2.1
  have hC := Kd.C_grow hB1 hC
  have hC1 := Kd.C_grow hB1 hC1
  refine wSeq ?_
  refine wSeq ?_
  refine wRegion' ?_
  refine oMove rfl ?_
  first | refine oNot rfl ?_ | refine oNotB rfl ?_
  refine oMove rfl ?_
  first | refine oSplit (t := 28) rfl (fun h28 => ?_) (fun h28 => ?_) | refine oSplitB (t := 28) rfl (fun h28 => ?_) (fun h28 => ?_)
  ·
    refine oSkip rfl rfl rfl rfl ?_
    refine oSkip rfl rfl rfl rfl ?_
    refine oPickT rfl rfl ?_
    refine oMove rfl ?_
    refine oSkip rfl rfl rfl rfl ?_
    refine oSkip rfl rfl rfl rfl ?_
    refine oSkip rfl rfl rfl rfl ?_
    refine oSkip rfl rfl rfl rfl ?_
    refine oPickT rfl rfl ?_
    refine oNil ?_
    refine thn_n ?_
    refine wCondT rfl ?_
    refine wSeq ?_
    refine wRegion' ?_
    refine oAssign rfl ?_
    refine oNil ?_
    refine thn_n ?_
    refine wRet ?_
    refine thn_r ?_
    refine fin_r ?_
    refine ⟨rfl, _, (ResL.cons (ResR.tmp rfl) ResL.nil), ?_⟩
    rw [wsL_no (.inl (decide_eq_false h28))]
    exact ⟨(none, 0), trivial, rfl, Leads.nilrow.trans (Leads.has (by repeat' (first | exact Has.nil | exact Pick.here | apply Has.cons | apply Pick.there)))⟩
  ·
    refine oWant rfl rfl ?_
    refine oMove rfl ?_
    refine oWant rfl rfl ?_
    refine oLss rfl rfl ?_
    refine oPickF rfl rfl ?_
    refine oMove rfl ?_
    first | refine oSplit (t := 32) rfl (fun h32 => ?_) (fun h32 => ?_) | refine oSplitB (t := 32) rfl (fun h32 => ?_) (fun h32 => ?_)
    ·
      refine oSkip rfl rfl rfl rfl ?_
      refine oSkip rfl rfl rfl rfl ?_
      refine oSkip rfl rfl rfl rfl ?_
      refine oSkip rfl rfl rfl rfl ?_
      refine oPickT rfl rfl ?_
      refine oNil ?_
      refine thn_n ?_
      refine wCondT rfl ?_
      refine wSeq ?_
      refine wRegion' ?_
      refine oAssign rfl ?_
      refine oNil ?_
      refine thn_n ?_
      refine wRet ?_
      refine thn_r ?_
      refine fin_r ?_
      refine ⟨rfl, _, (ResL.cons (ResR.tmp rfl) ResL.nil), ?_⟩
      rw [wsL_no (.inr (.inl (by omega)))]
      exact ⟨(none, 0), trivial, rfl, Leads.nilrow.trans (Leads.has (by repeat' (first | exact Has.nil | exact Pick.here | apply Has.cons | apply Pick.there)))⟩
    ·
      refine oWant rfl rfl ?_
      refine oMove rfl ?_
      refine oWant rfl rfl ?_
      refine oMove rfl ?_
      refine oWant rfl rfl ?_
      refine oLenS rfl rfl ?_
      refine oWant rfl rfl ?_
      refine oGeq rfl rfl ?_
      refine oPickF rfl rfl ?_
      refine oNil ?_
      refine thn_n ?_
      first | refine wCond rfl (fun h37 => ?_) (fun h37 => ?_) | refine wCondB rfl (fun h37 => ?_) (fun h37 => ?_)
      ·
        refine wSeq ?_
        refine wRegion' ?_
        refine oAssign rfl ?_
        refine oNil ?_
        refine thn_n ?_
        refine wRet ?_
        refine thn_r ?_
        refine fin_r ?_
        refine ⟨rfl, _, (ResL.cons (ResR.tmp rfl) ResL.nil), ?_⟩
        rw [wsL_no (.inr (.inr (by omega)))]
        exact ⟨(none, 0), trivial, rfl, Leads.nilrow.trans (Leads.has (by repeat' (first | exact Has.nil | exact Pick.here | apply Has.cons | apply Pick.there)))⟩
      ·
        have hok : okO g ib = true := decide_eq_true (Classical.not_not.1 h28)
        obtain ⟨k, rfl⟩ := Int.eq_ofNat_of_zero_le (show 0 ≤ at_ by omega)
        have hkl : k < g.length := by omega
        rw [DLo_ok hok] at hCD
        rw [DLo_ok hok, wsL_yes hok hkl]
        refine wSkip ?_
        refine thn_n ?_
        refine wSeq ?_
        refine wRegion' ?_
        refine oMove rfl ?_
        (refine oCall rfl (by kernel_rfl) (fun w hS => frame hS (by repeat' (first | exact Split.nil | exact Pick.here | apply Split.cons | apply Pick.there)) (fun B' hB hS' => clean_any hS' g A cp (Kd.C_grow hB hC) hsm B1.e)) ?_; rintro ⟨A39, c39, hs39⟩ hl39)
        dsimp only at hl39 ⊢
        refine oSet (t := 39) (v' := .slice A39 (cleanG g).length c39) rfl (by rw [cleanG_len]) ?_
        refine oAssign rfl ?_
        refine oNil ?_
        refine thn_n ?_
        refine wFreeze [row kHdr B1.e 24 (.slice A39 g.length c39) hs39, bun (rws (Kd.int .i64) B1.e 3 hs39 (cleanG g))] (by repeat' (first | exact Split.nil | exact Pick.here | apply Split.cons | apply Pick.there)) (fun B2 hB2 hq2 => ?_)
        have hC39 := grid_C (hq2 _ _ (by repeat (first | exact Pick.here | apply Pick.there))) (hq2 _ _ (by repeat (first | exact Pick.here | apply Pick.there))) (by rw [cleanG_len]; exact hl39) hB2
        have hCD := Kd.C_grow hB2 hCD
        have hC1 := Kd.C_grow hB2 hC1
        refine wSeq ?_
        refine wRegion' ?_
        refine oMove rfl ?_
        refine oBuildSlice1 rfl rfl rfl rfl rfl (by first | exact CellsOf.agg | exact CellsOf.one rfl) rfl (fun b41 => ?_)
        refine oConv (blk_row (enc := fun x => Value.int .i64 x) (h1 := fun _ => rfl) (W := W0) (xs := [(k : Int)]) (n := 1) (by repeat (first | exact Pick.here | apply Pick.there)) rfl rfl (by decide)) ?_
        refine oAssign rfl ?_
        refine oNil ?_
        refine thn_n ?_
        refine wSeq ?_
        refine wBlock ?_
        refine wLoop (ι := List Int × Nat × Nat × Option Addr × Nat) (fun z => [(1, .slice A1 ib.length cp1), (5, .int .i64 (z.2.1 : Int)), (13, .pointer (some ⟨b13, 0, none⟩)), (15, .slice A39 (cleanG g).length c39), (16, .slice z.2.2.2.1 (z.1 ++ [(z.2.1 : Int)]).length z.2.2.2.2)]) (fun z => [blk b13 24 [.slice A23 (DL g ib own rest step).length c23], row (Kd.int .i64) W0 3 (.slice z.2.2.2.1 (z.1 ++ [(z.2.1 : Int)]).length z.2.2.2.2) (z.1 ++ [(z.2.1 : Int)])]) (fun z => WyI g ib (DL g ib own rest step) k z.1 z.2.1 z.2.2.1) (fun z => z.2.2.1) ([], k, g.length + 1, some ⟨b41, 0, none⟩, 1) ?_ (by repeat (first | exact trivial | refine And.intro rfl ?_)) (Leads.has (by repeat' (first | exact Has.nil | exact Pick.here | apply Has.cons | apply Pick.there))) ?_
        ·
          exact WyI.init hkl
        ·
          rintro ⟨o, a, f, A16, c16⟩ hI
          dsimp only at hI
          obtain ⟨f, rfl⟩ : ∃ f', f = f' + 1 := ⟨f - 1, by have := hI.rk; omega⟩
          have hal := hI.lt
          have hol := hI.len
          have hlo : (o ++ [(a : Int)]).length = o.length + 1 := by rw [List.length_append]; rfl
          try dsimp only
          refine wSeq ?_
          refine wSeq ?_
          refine wRegion' ?_
          refine oMove rfl ?_
          refine oMove rfl ?_
          refine oLenS rfl rfl ?_
          refine oLss rfl rfl ?_
          refine oMove rfl ?_
          first | refine oSplit (t := 46) rfl (fun h46 => ?_) (fun h46 => ?_) | refine oSplitB (t := 46) rfl (fun h46 => ?_) (fun h46 => ?_)
          ·
            refine oWant rfl rfl ?_
            refine oMove rfl ?_
            refine oWant rfl rfl ?_
            refine oMove rfl ?_
            refine oWant rfl rfl ?_
            refine oIdx rfl rfl (hC1) rfl (by omega) rfl rfl (fun e49 u49 cs49 hu49 hk49 hc49 => ?_)
            obtain rfl := hk49
            refine oWant rfl rfl ?_
            first | refine oLdX rfl hc49 rfl rfl ?_ | refine oLdXA rfl hc49 rfl (by repeat (first | exact SubL.done | apply SubL.take | apply SubL.drop)) ?_ | (refine oLdR1 rfl (by repeat (first | exact Pick.here | apply Pick.there)) (by omega) rfl (fun u50 hu50 => ?_))
            refine oPickT rfl rfl ?_
            refine oMove rfl ?_
            first | refine oSplit (t := 52) rfl (fun h52 => ?_) (fun h52 => ?_) | refine oSplitB (t := 52) rfl (fun h52 => ?_) (fun h52 => ?_)
            ·
              have hm : memF g ib (a : Int) = true := by unfold memF; rw [Int.toNat_natCast, getD_at hu49, h52]; simp; omega
              refine oWant rfl rfl ?_
              refine oMove rfl ?_
              refine oWant rfl rfl ?_
              refine oMove rfl ?_
              refine oWant rfl rfl ?_
              refine oIdx rfl rfl (hC39) rfl (by omega) rfl rfl (fun e55 u55 cs55 hu55 hk55 hc55 => ?_)
              obtain ⟨A0, c0, rfl, hle55, g0⟩ := hk55
              obtain rfl := cl_at hu55
              refine oWant rfl rfl ?_
              first | refine oLdX rfl hc55 rfl rfl ?_ | refine oLdXA rfl hc55 rfl (by repeat (first | exact SubL.done | apply SubL.take | apply SubL.drop)) ?_ | (refine oLdR1 rfl (by repeat (first | exact Pick.here | apply Pick.there)) (by omega) rfl (fun u56 hu56 => ?_))
              refine oWant rfl rfl ?_
              refine oLenS rfl rfl ?_
              refine oWant rfl rfl ?_
              refine oGtr rfl rfl ?_
              refine oPickT rfl rfl ?_
              refine oNil ?_
              refine thn_n ?_
              first | refine wCond rfl (fun h59 => ?_) (fun h59 => ?_) | refine wCondB rfl (fun h59 => ?_) (fun h59 => ?_)
              ·
                have hne : cl g a ≠ [] := by intro h; rw [h] at h59; simp at h59
                obtain ⟨hb0, hbe⟩ := bst_pos (D := DL g ib own rest step) hne
                obtain ⟨c, hc, hce, hcl, _⟩ := bst_spec hb0
                refine wSkip ?_
                refine thn_n ?_
                refine wBlock ?_
                refine wSeq ?_
                refine wRegion' ?_
                refine oMove rfl ?_
                refine oMove rfl ?_
                refine oIdx rfl rfl (hC39) rfl (by omega) rfl rfl (fun e62 u62 cs62 hu62 hk62 hc62 => ?_)
                obtain ⟨A0, c0, rfl, hle62, g0⟩ := hk62
                obtain rfl := cl_at hu62
                first | refine oLdX rfl hc62 rfl rfl ?_ | refine oLdXA rfl hc62 rfl (by repeat (first | exact SubL.done | apply SubL.take | apply SubL.drop)) ?_ | (refine oLdR1 rfl (by repeat (first | exact Pick.here | apply Pick.there)) (by omega) rfl (fun u63 hu63 => ?_))
                refine oMakeFunc rfl ?_
                (refine oCall rfl (by kernel_rfl) (fun w hS => frame hS (by repeat' (first | exact Split.nil | exact Pick.here | apply Split.cons | apply Pick.there)) (fun B' hB hS' => maxFunc_any hS' (cl g a) A0 c0 (Kd.C_grow hB g0) hne _ _ (vD (DL g ib own rest step)) (by kernel_rfl) (fun B2 w2 x y hB2 hx hy hS2 => (by obtain ⟨x', rfl, hx'⟩ := ends_nat (cl_mem.1 hx); obtain ⟨y', rfl, hy'⟩ := ends_nat (cl_mem.1 hy); exact worst1 (DL g ib own rest step) A23 c23 b13 hS2 (Kd.C_grow hB2 (Kd.C_grow hB hCD)) DL_in x' y' (by rw [DL_len]; exact hx') (by rw [DL_len]; exact hy'))))) ?_; rintro ⟨⟩ -)
                rw [← hbe, hc]
                refine oAssign rfl ?_
                refine oNil ?_
                refine thn_n ?_
                refine wRegion' ?_
                refine oMove rfl ?_
                refine oMove rfl ?_
                refine oBuildSlice1 rfl rfl rfl rfl rfl (by first | exact CellsOf.agg | exact CellsOf.one rfl) rfl (fun b68 => ?_)
                refine oApp1 (c : Int) rfl rfl rfl rfl (by repeat (first | exact Pick.here | apply Pick.there)) (by repeat (first | exact Pick.here | apply Pick.there)) rfl (by omega) rfl (fun g69 cp69 => ?_)
                rw [show (o ++ [(a : Int)]).length + 1 = ((o ++ [(a : Int)]) ++ [(c : Int)]).length by simp]
                refine oAssign rfl ?_
                refine oNil ?_
                refine blk_n ?_
                refine thn_n ?_
                exact ⟨rfl, (o ++ [(a : Int)], c, f, some ⟨g69, 0, none⟩, cp69), hI.go hok hm hc, by show f < f + 1; omega, (by repeat (first | exact trivial | refine And.intro rfl ?_)), (Leads.has (by repeat' (first | exact Has.nil | exact Pick.here | apply Has.cons | apply Pick.there)))⟩
              ·
                refine wExit ?_
                refine thn_x ?_
                refine thn_x ?_
                refine blk_x ?_
                refine thn_n ?_
                refine wSeq ?_
                refine wRegion' ?_
                refine oMove rfl ?_
                refine oAssign rfl ?_
                refine oNil ?_
                refine thn_n ?_
                refine wRet ?_
                refine fin_r ?_
                refine ⟨rfl, _, (ResL.cons (ResR.tmp rfl) ResL.nil), ?_⟩
                have hbn : bst g (DL g ib own rest step) a < 0 := by unfold bst bestO; rw [if_pos (List.eq_nil_of_length_eq_zero (by omega))]; decide
                exact ⟨(A16, c16), trivial, by rw [hI.stop (.inr hbn)]; rfl, by rw [hI.stop (.inr hbn)]; exact (Leads.has (by repeat' (first | exact Has.nil | exact Pick.here | apply Has.cons | apply Pick.there)))⟩
            ·
              have hm : memF g ib (a : Int) = false := by unfold memF; rw [Int.toNat_natCast, getD_at hu49, h52]; simp
              refine oSkip rfl rfl rfl rfl ?_
              refine oSkip rfl rfl rfl rfl ?_
              refine oSkip rfl rfl rfl rfl ?_
              refine oSkip rfl rfl rfl rfl ?_
              refine oSkip rfl rfl rfl rfl ?_
              refine oSkip rfl rfl rfl rfl ?_
              refine oPickF rfl rfl ?_
              refine oNil ?_
              refine thn_n ?_
              refine wCondF rfl ?_
              refine wExit ?_
              refine thn_x ?_
              refine thn_x ?_
              refine blk_x ?_
              refine thn_n ?_
              refine wSeq ?_
              refine wRegion' ?_
              refine oMove rfl ?_
              refine oAssign rfl ?_
              refine oNil ?_
              refine thn_n ?_
              refine wRet ?_
              refine fin_r ?_
              refine ⟨rfl, _, (ResL.cons (ResR.tmp rfl) ResL.nil), ?_⟩
              exact ⟨(A16, c16), trivial, by rw [hI.stop (.inl hm)]; rfl, by rw [hI.stop (.inl hm)]; exact (Leads.has (by repeat' (first | exact Has.nil | exact Pick.here | apply Has.cons | apply Pick.there)))⟩
          ·
            have hm : memF g ib (a : Int) = false := by unfold memF; rw [decide_eq_false (show ¬ (a : Int) < (ib.length : Int) by omega)]; simp
            refine oSkip rfl rfl rfl rfl ?_
            refine oSkip rfl rfl rfl rfl ?_
            refine oSkip rfl rfl rfl rfl ?_
            refine oSkip rfl rfl rfl rfl ?_
            refine oPickF rfl rfl ?_
            refine oMove rfl ?_
            refine oSkip rfl rfl rfl rfl ?_
            refine oSkip rfl rfl rfl rfl ?_
            refine oSkip rfl rfl rfl rfl ?_
            refine oSkip rfl rfl rfl rfl ?_
            refine oSkip rfl rfl rfl rfl ?_
            refine oSkip rfl rfl rfl rfl ?_
            refine oPickF rfl rfl ?_
            refine oNil ?_
            refine thn_n ?_
            refine wCondF rfl ?_
            refine wExit ?_
            refine thn_x ?_
            refine thn_x ?_
            refine blk_x ?_
            refine thn_n ?_
            refine wSeq ?_
            refine wRegion' ?_
            refine oMove rfl ?_
            refine oAssign rfl ?_
            refine oNil ?_
            refine thn_n ?_
            refine wRet ?_
            refine fin_r ?_
            refine ⟨rfl, _, (ResL.cons (ResR.tmp rfl) ResL.nil), ?_⟩
            exact ⟨(A16, c16), trivial, by rw [hI.stop (.inl hm)]; rfl, by rw [hI.stop (.inl hm)]; exact (Leads.has (by repeat' (first | exact Has.nil | exact Pick.here | apply Has.cons | apply Pick.there)))⟩
/-- The best end so far, of those below b. -/
def bTo (g : Graph) (D : List Int) (a b : Nat) : Int := bestO D (selTo (endP g a) b)
theorem bTo_all (g : Graph) (D : List Int) (a : Nat) : bTo g D a g.length = bst g D a := by unfold bTo bst; rw [cl_sel]
theorem bTo_in {g : Graph} {D : List Int} {a b : Nat} (h : 0 ≤ bTo g D a b) : ∃ c : Nat, bTo g D a b = (c : Int) ∧ c < b := by
  unfold bTo bestO at *
  by_cases e : selTo (endP g a) b = []
  · rw [if_pos e] at h; omega
  · rw [if_neg e] at h ⊢
    obtain ⟨c, hc, hl, _⟩ := selTo_mem.1 (bestF_mem (v := vD D) e)
    exact ⟨c, hc, hl⟩
/-- .. and of b itself, if it is among the first edges. -/
def bMid (g : Graph) (D : List Int) (a b : Nat) (L : List Int) : Int := if (b : Int) ∈ L ∧ (bTo g D a b < 0 ∨ vD D (bTo g D a b) < vD D (b : Int)) then (b : Int) else bTo g D a b
theorem bMid_nil {g : Graph} {D : List Int} {a b : Nat} : bMid g D a b [] = bTo g D a b := by unfold bMid; rw [if_neg]; simp
theorem bMid_all {g : Graph} {D : List Int} {a b : Nat} {u : List Int} (hu : g[a]? = some u) (hb : b < g.length) : bMid g D a b u = bTo g D a (b + 1) := by
  have he : endP g a b = decide ((b : Int) ∈ u) := by
    unfold endP endsOf
    rw [getD_at hu]
    apply decide_eq_decide.2
    rw [List.mem_filter, inG_iff]
    constructor
    · exact fun h => h.1
    · exact fun h => ⟨h, by omega, by omega⟩
  unfold bMid bTo
  rw [selTo_succ, he]
  by_cases h : (b : Int) ∈ u
  · rw [decide_eq_true h, if_pos rfl, bestO_snoc _ (fun x hx => by obtain ⟨c, rfl, _⟩ := selTo_mem.1 hx; omega)]
    simp only [h, true_and]
  · rw [if_neg (fun k => h k.1), decide_eq_false h, if_neg (by simp), List.append_nil]
theorem bMid_in {g : Graph} {D : List Int} {a b : Nat} {L : List Int} (h : 0 ≤ bMid g D a b L) : ∃ c : Nat, bMid g D a b L = (c : Int) ∧ c ≤ b := by
  unfold bMid at *
  split at h
  next k => rw [if_pos k]; exact ⟨b, rfl, Nat.le_refl _⟩
  next k => rw [if_neg k]; obtain ⟨c, hc, hl⟩ := bTo_in h; exact ⟨c, hc, by omega⟩
theorem bMid_new {g : Graph} {D : List Int} {a b : Nat} {L : List Int} (h : bMid g D a b L < 0 ∨ vD D (bMid g D a b L) < vD D (b : Int)) : bMid g D a b (L ++ [(b : Int)]) = (b : Int) := by
  unfold bMid at *
  rw [if_pos]
  refine ⟨by simp, ?_⟩
  split at h
  next k => exact k.2
  next k => exact h
theorem bMid_same {g : Graph} {D : List Int} {a b : Nat} {L : List Int} (h : ¬ (bMid g D a b L < 0 ∨ vD D (bMid g D a b L) < vD D (b : Int))) : bMid g D a b (L ++ [(b : Int)]) = bMid g D a b L := by
  unfold bMid at *
  by_cases k : (b : Int) ∈ L ∧ (bTo g D a b < 0 ∨ vD D (bTo g D a b) < vD D (b : Int))
  · rw [if_pos k, if_pos ⟨by simp, k.2⟩]
  · rw [if_neg k] at h ⊢
    rw [if_neg (fun k => h k.2)]
theorem bMid_other {g : Graph} {D : List Int} {a b : Nat} {L : List Int} {x : Int} (h : x ≠ (b : Int)) : bMid g D a b (L ++ [x]) = bMid g D a b L := by
  unfold bMid
  have : ((b : Int) ∈ L ++ [x]) ↔ (b : Int) ∈ L := by simp [Ne.symm h]
  simp only [this]
set_option maxRecDepth 100000 in
set_option maxHeartbeats 1000000 in
theorem refWorst {B : Base} {w : World} (hS : St B [] w) (g : Graph) (A : Option Addr) (cp : Nat) (hC : kII.C B.e A g) (hsm : SmallG g) (ib : List Bool) (A1 : Option Addr) (cp1 : Nat) (hC1 : Kd.bool.C B.e A1 ib) (own : List Int) (A2 : Option Addr) (cp2 : Nat) (hC2 : (Kd.int .i64).C B.e A2 own) (rest step at_ : Int) (W0 : World) :
    CallsIn Fence.wide 0 Try.prog 14 #[.slice A g.length cp, .slice A1 ib.length cp1, .slice A2 own.length cp2, .int .i64 rest, .int .i64 step, .int .i64 at_] w
      (Ret B (fun _ : Option Addr × Nat => True) (fun z => .slice z.1 (wsL g ib own rest step at_).length z.2) (fun z => [row (Kd.int .i64) W0 3 (.slice z.1 (wsL g ib own rest step at_).length z.2) (wsL g ib own rest step at_)])) := by
  have hn := hsm.1
  (refine enter Try.func14 rfl rfl hS ?_; simp only [List.zipIdx_cons, List.zipIdx_nil, List.map_cons, List.map_nil, Nat.reduceAdd, Nat.zero_add])
  refine wSeq ?_
  refine wRegion' ?_
  refine oAssign rfl ?_
  refine oNil ?_
  refine thn_n ?_
  refine wSeq ?_
  refine wRegion' ?_
  refine oMove rfl ?_
  refine oMove rfl ?_
  refine oMove rfl ?_
  refine oMove rfl ?_
  refine oMove rfl ?_
  (refine oCall rfl (by kernel_rfl) (fun w hS => frame hS (by repeat' (first | exact Split.nil | exact Pick.here | apply Split.cons | apply Pick.there)) (fun B' hB hS' => refDepths hS' g A cp (Kd.C_grow hB hC) hsm ib A1 cp1 (Kd.C_grow hB hC1) own A2 cp2 (Kd.C_grow hB hC2) rest step B.e)) ?_; rintro ⟨A23, c23⟩ -)
  refine oMove rfl ?_
  refine oExt rfl (by repeat (first | exact GetAt.here | apply GetAt.there)) ?_
  refine oExt rfl (by repeat (first | exact GetAt.here | apply GetAt.there)) ?_
  refine oAssign rfl ?_
  refine oAssign rfl ?_
  refine oNil ?_
  refine thn_n ?_
  refine wFreeze [row (Kd.int .i64) B.e 3 (.slice A23 (DLo g ib own rest step).length c23) (DLo g ib own rest step)] (by repeat' (first | exact Split.nil | exact Pick.here | apply Split.cons | apply Pick.there)) (fun B1 hB1 hq1 => ?_)
  have hCD := (row_C (kd := Kd.int .i64) (W := B.e) (e := 3) (A := A23) (n := (DLo g ib own rest step).length) (cp := c23) (xs := DLo g ib own rest step) (hq1 _ _ (by repeat (first | exact Pick.here | apply Pick.there))) hB1).2.2.1
  have hC := Kd.C_grow hB1 hC
  have hC1 := Kd.C_grow hB1 hC1
  refine wSeq ?_
  refine wSeq ?_
  refine wRegion' ?_
  refine oMove rfl ?_
  first | refine oNot rfl ?_ | refine oNotB rfl ?_
  refine oMove rfl ?_
  first | refine oSplit (t := 30) rfl (fun h30 => ?_) (fun h30 => ?_) | refine oSplitB (t := 30) rfl (fun h30 => ?_) (fun h30 => ?_)
  ·
    refine oSkip rfl rfl rfl rfl ?_
    refine oSkip rfl rfl rfl rfl ?_
    refine oPickT rfl rfl ?_
    refine oMove rfl ?_
    refine oSkip rfl rfl rfl rfl ?_
    refine oSkip rfl rfl rfl rfl ?_
    refine oSkip rfl rfl rfl rfl ?_
    refine oSkip rfl rfl rfl rfl ?_
    refine oPickT rfl rfl ?_
    refine oNil ?_
    refine thn_n ?_
    refine wCondT rfl ?_
    refine wSeq ?_
    refine wRegion' ?_
    refine oAssign rfl ?_
    refine oNil ?_
    refine thn_n ?_
    refine wRet ?_
    refine thn_r ?_
    refine fin_r ?_
    refine ⟨rfl, _, (ResL.cons (ResR.tmp rfl) ResL.nil), ?_⟩
    rw [wsL_no (.inl (decide_eq_false h30))]
    exact ⟨(none, 0), trivial, rfl, Leads.nilrow.trans (Leads.has (by repeat' (first | exact Has.nil | exact Pick.here | apply Has.cons | apply Pick.there)))⟩
  ·
    refine oWant rfl rfl ?_
    refine oMove rfl ?_
    refine oWant rfl rfl ?_
    refine oLss rfl rfl ?_
    refine oPickF rfl rfl ?_
    refine oMove rfl ?_
    first | refine oSplit (t := 34) rfl (fun h34 => ?_) (fun h34 => ?_) | refine oSplitB (t := 34) rfl (fun h34 => ?_) (fun h34 => ?_)
    ·
      refine oSkip rfl rfl rfl rfl ?_
      refine oSkip rfl rfl rfl rfl ?_
      refine oSkip rfl rfl rfl rfl ?_
      refine oSkip rfl rfl rfl rfl ?_
      refine oPickT rfl rfl ?_
      refine oNil ?_
      refine thn_n ?_
      refine wCondT rfl ?_
      refine wSeq ?_
      refine wRegion' ?_
      refine oAssign rfl ?_
      refine oNil ?_
      refine thn_n ?_
      refine wRet ?_
      refine thn_r ?_
      refine fin_r ?_
      refine ⟨rfl, _, (ResL.cons (ResR.tmp rfl) ResL.nil), ?_⟩
      rw [wsL_no (.inr (.inl (by omega)))]
      exact ⟨(none, 0), trivial, rfl, Leads.nilrow.trans (Leads.has (by repeat' (first | exact Has.nil | exact Pick.here | apply Has.cons | apply Pick.there)))⟩
    ·
      refine oWant rfl rfl ?_
      refine oMove rfl ?_
      refine oWant rfl rfl ?_
      refine oMove rfl ?_
      refine oWant rfl rfl ?_
      refine oLenS rfl rfl ?_
      refine oWant rfl rfl ?_
      refine oGeq rfl rfl ?_
      refine oPickF rfl rfl ?_
      refine oNil ?_
      refine thn_n ?_
      first | refine wCond rfl (fun h39 => ?_) (fun h39 => ?_) | refine wCondB rfl (fun h39 => ?_) (fun h39 => ?_)
      ·
        refine wSeq ?_
        refine wRegion' ?_
        refine oAssign rfl ?_
        refine oNil ?_
        refine thn_n ?_
        refine wRet ?_
        refine thn_r ?_
        refine fin_r ?_
        refine ⟨rfl, _, (ResL.cons (ResR.tmp rfl) ResL.nil), ?_⟩
        rw [wsL_no (.inr (.inr (by omega)))]
        exact ⟨(none, 0), trivial, rfl, Leads.nilrow.trans (Leads.has (by repeat' (first | exact Has.nil | exact Pick.here | apply Has.cons | apply Pick.there)))⟩
      ·
        have hok : okO g ib = true := decide_eq_true (Classical.not_not.1 h30)
        obtain ⟨k, rfl⟩ := Int.eq_ofNat_of_zero_le (show 0 ≤ at_ by omega)
        have hkl : k < g.length := by omega
        rw [DLo_ok hok] at hCD
        rw [DLo_ok hok, wsL_yes hok hkl]
        refine wSkip ?_
        refine thn_n ?_
        refine wSeq ?_
        refine wRegion' ?_
        refine oMove rfl ?_
        refine oBuildSlice1 rfl rfl rfl rfl rfl (by first | exact CellsOf.agg | exact CellsOf.one rfl) rfl (fun b41 => ?_)
        refine oConv (blk_row (enc := fun x => Value.int .i64 x) (h1 := fun _ => rfl) (W := W0) (xs := [(k : Int)]) (n := 1) (by repeat (first | exact Pick.here | apply Pick.there)) rfl rfl (by decide)) ?_
        refine oAssign rfl ?_
        refine oNil ?_
        refine thn_n ?_
        refine wSeq ?_
        refine wBlock ?_
        refine wLoop (ι := List Int × Nat × Nat × Option Addr × Nat) (fun z => [(0, .slice A g.length cp), (1, .slice A1 ib.length cp1), (5, .int .i64 (z.2.1 : Int)), (13, .slice A23 (DL g ib own rest step).length c23), (15, .slice z.2.2.2.1 (z.1 ++ [(z.2.1 : Int)]).length z.2.2.2.2)]) (fun z => [row (Kd.int .i64) W0 3 (.slice z.2.2.2.1 (z.1 ++ [(z.2.1 : Int)]).length z.2.2.2.2) (z.1 ++ [(z.2.1 : Int)])]) (fun z => WyI g ib (DL g ib own rest step) k z.1 z.2.1 z.2.2.1) (fun z => z.2.2.1) ([], k, g.length + 1, some ⟨b41, 0, none⟩, 1) ?_ (by repeat (first | exact trivial | refine And.intro rfl ?_)) (Leads.has (by repeat' (first | exact Has.nil | exact Pick.here | apply Has.cons | apply Pick.there))) ?_
        ·
          exact WyI.init hkl
        ·
          rintro ⟨o, a, f, A16, c16⟩ hI
          dsimp only at hI
          obtain ⟨f, rfl⟩ : ∃ f', f = f' + 1 := ⟨f - 1, by have := hI.rk; omega⟩
          have hal := hI.lt
          have hol := hI.len
          have hlo : (o ++ [(a : Int)]).length = o.length + 1 := by rw [List.length_append]; rfl
          obtain ⟨u, hui⟩ : ∃ u, g[a]? = some u := ⟨_, List.getElem?_eq_getElem hal⟩
          have hul : u.length ≤ 1000 := hsm.2 u (List.mem_of_getElem? hui)
          obtain ⟨eg, csg, hE⟩ := hC.elm hui
          have hEK := hE.K
          obtain ⟨Ag, cg, rfl, hleg, gg⟩ := hEK
          try dsimp only
          refine wSeq ?_
          refine wSeq ?_
          refine wRegion' ?_
          refine oMove rfl ?_
          refine oMove rfl ?_
          refine oMove rfl ?_
          (refine oCall rfl (by kernel_rfl) (fun w hS => frame hS (by repeat' (first | exact Split.nil | exact Pick.here | apply Split.cons | apply Pick.there)) (fun B' hB hS' => member_any hS' A cp g A1 cp1 ib (Kd.C_grow hB hC1) (a : Int))) ?_; rintro ⟨⟩ -)
          refine oNil ?_
          refine thn_n ?_
          first | refine wCond rfl (fun h45 => ?_) (fun h45 => ?_) | refine wCondB rfl (fun h45 => ?_) (fun h45 => ?_)
          ·
            have hm : memF g ib (a : Int) = true := by simpa using h45
            refine wSkip ?_
            refine thn_n ?_
            refine wBlock ?_
            refine wSeq ?_
            refine wRegion' ?_
            refine oAssign rfl ?_
            refine oNil ?_
            refine thn_n ?_
            refine wSeq ?_
            refine wSeq ?_
            refine wRegion' ?_
            refine oAssign rfl ?_
            rw [show (-1 : Int) = bTo g (DL g ib own rest step) a 0 from rfl]
            refine oNil ?_
            refine thn_n ?_
            refine wBlock ?_
            refine wLoop (ι := Nat) (fun b => [(0, .slice A g.length cp), (1, .slice A1 ib.length cp1), (5, .int .i64 (a : Int)), (13, .slice A23 (DL g ib own rest step).length c23), (15, .slice A16 (o ++ [(a : Int)]).length c16), (16, .int .i64 (bTo g (DL g ib own rest step) a b)), (17, .int .i64 (b : Int))]) (fun b => [row (Kd.int .i64) W0 3 (.slice A16 (o ++ [(a : Int)]).length c16) (o ++ [(a : Int)])]) (fun b => b ≤ g.length) (fun b => g.length - b) 0 ?_ (by repeat (first | exact trivial | refine And.intro rfl ?_)) (Leads.has (by repeat' (first | exact Has.nil | exact Pick.here | apply Has.cons | apply Pick.there))) ?_
            ·
              exact Nat.zero_le _
            ·
              rintro b hb
              try dsimp only
              refine wSeq ?_
              refine wSeq ?_
              refine wRegion' ?_
              refine oMove rfl ?_
              refine oMove rfl ?_
              refine oLenS rfl rfl ?_
              refine oLss rfl rfl ?_
              refine oNil ?_
              refine thn_n ?_
              first | refine wCond rfl (fun h49 => ?_) (fun h49 => ?_) | refine wCondB rfl (fun h49 => ?_) (fun h49 => ?_)
              ·
                have hbl : b < g.length := by omega
                refine wSkip ?_
                refine thn_n ?_
                refine wSeq ?_
                refine wBlock ?_
                refine wSeq ?_
                refine wRegion' ?_
                refine oAssign rfl ?_
                rw [← bMid_nil]
                refine oNil ?_
                refine thn_n ?_
                refine wBlock ?_
                refine wLoop (ι := Nat) (fun j => [(0, .slice A g.length cp), (1, .slice A1 ib.length cp1), (5, .int .i64 (a : Int)), (13, .slice A23 (DL g ib own rest step).length c23), (15, .slice A16 (o ++ [(a : Int)]).length c16), (16, .int .i64 (bMid g (DL g ib own rest step) a b (u.take j))), (17, .int .i64 (b : Int)), (18, .int .i64 (j : Int))]) (fun j => [row (Kd.int .i64) W0 3 (.slice A16 (o ++ [(a : Int)]).length c16) (o ++ [(a : Int)])]) (fun j => j ≤ u.length) (fun j => u.length - j) 0 ?_ (by repeat (first | exact trivial | refine And.intro rfl ?_)) (Leads.has (by repeat' (first | exact Has.nil | exact Pick.here | apply Has.cons | apply Pick.there))) ?_
                ·
                  exact Nat.zero_le _
                ·
                  rintro j hj
                  try dsimp only
                  refine wSeq ?_
                  refine wSeq ?_
                  refine wRegion' ?_
                  refine oMove rfl ?_
                  refine oMove rfl ?_
                  refine oMove rfl ?_
                  refine oIdxE rfl rfl (hE) (by omega) rfl rfl ?_
                  have hc55 := (hE).cell
                  first | refine oLdX rfl hc55 rfl rfl ?_ | refine oLdXA rfl hc55 rfl (by repeat (first | exact SubL.done | apply SubL.take | apply SubL.drop)) ?_ | (refine oLdR1 rfl (by repeat (first | exact Pick.here | apply Pick.there)) (by omega) rfl (fun u56 hu56 => ?_))
                  refine oLenS rfl rfl ?_
                  refine oLss rfl rfl ?_
                  refine oNil ?_
                  refine thn_n ?_
                  first | refine wCond rfl (fun h58 => ?_) (fun h58 => ?_) | refine wCondB rfl (fun h58 => ?_) (fun h58 => ?_)
                  ·
                    obtain ⟨x, hx⟩ : ∃ x, u[j]? = some x := ⟨_, List.getElem?_eq_getElem (by omega)⟩
                    have htk := take_at hx
                    obtain ⟨e2, cs2, hE2⟩ := gg.elm hx
                    obtain rfl := hE2.K
                    refine wSkip ?_
                    refine thn_n ?_
                    refine wSeq ?_
                    refine wBlock ?_
                    refine wSeq ?_
                    refine wDraw2 rfl rfl [0, 1, 4, 7] [2, 3, 5, 6, 8, 9, 10, 11, 12, 13, 14, 15, 16, 17, 18, 19, 20, 21, 22] 23 (by kernel_rfl) rfl rfl rfl (fun w0 => ?_)
                    refine oIdxE rfl rfl (hE) (by omega) rfl rfl ?_
                    have hc63 := (hE).cell
                    first | refine oLdX rfl hc63 rfl rfl ?_ | refine oLdXA rfl hc63 rfl (by repeat (first | exact SubL.done | apply SubL.take | apply SubL.drop)) ?_ | (refine oLdR1 rfl (by repeat (first | exact Pick.here | apply Pick.there)) (by omega) rfl (fun u64 hu64 => ?_))
                    refine oIdxE rfl rfl (hE2) (by omega) rfl rfl ?_
                    have hc66 := (hE2).cell
                    first | refine oLdX rfl hc66 rfl rfl ?_ | refine oLdXA rfl hc66 rfl (by repeat (first | exact SubL.done | apply SubL.take | apply SubL.drop)) ?_ | (refine oLdR1 rfl (by repeat (first | exact Pick.here | apply Pick.there)) (by omega) rfl (fun u67 hu67 => ?_))
                    refine oEql rfl rfl ?_
                    refine oMove rfl ?_
                    first | refine oSplit (t := 70) rfl (fun h70 => ?_) (fun h70 => ?_) | refine oSplitB (t := 70) rfl (fun h70 => ?_) (fun h70 => ?_)
                    ·
                      refine oWant rfl rfl ?_
                      refine oMove rfl ?_
                      refine oWant rfl rfl ?_
                      refine oLss rfl rfl ?_
                      refine oWant rfl rfl ?_
                      refine oMove rfl ?_
                      first | refine oSplit (t := 73) rfl (fun h73 => ?_) (fun h73 => ?_) | refine oSplitB (t := 73) rfl (fun h73 => ?_) (fun h73 => ?_)
                      ·
                        refine oSkip rfl rfl rfl rfl ?_
                        refine oSkip rfl rfl rfl rfl ?_
                        refine oSkip rfl rfl rfl rfl ?_
                        refine oSkip rfl rfl rfl rfl ?_
                        refine oSkip rfl rfl rfl rfl ?_
                        refine oSkip rfl rfl rfl rfl ?_
                        refine oSkip rfl rfl rfl rfl ?_
                        refine oSkip rfl rfl rfl rfl ?_
                        refine oSkip rfl rfl rfl rfl ?_
                        refine oWant rfl rfl ?_
                        refine oPickT rfl rfl ?_
                        refine oHead ?_
                        refine oPickT rfl rfl ?_
                        refine oNilT ?_
                        refine thn_n ?_
                        refine wCondT rfl ?_
                        refine wRegion' ?_
                        refine oMove rfl ?_
                        refine oAssign rfl ?_
                        refine oNil ?_
                        refine blk_n ?_
                        refine thn_n ?_
                        refine wRegion' ?_
                        refine oMove rfl ?_
                        refine oSucc rfl rfl (by omega) ?_
                        refine oAssign rfl ?_
                        skip
                        refine oNil ?_
                        refine thn_n ?_
                        exact ⟨rfl, j + 1, by omega, by omega, by rw [← htk, h70, bMid_new (.inl h73)]; exact (by repeat (first | exact trivial | refine And.intro rfl ?_)), (Leads.has (by repeat' (first | exact Has.nil | exact Pick.here | apply Has.cons | apply Pick.there)))⟩
                      ·
                        obtain ⟨cn, hcn, hcnb⟩ := bMid_in (show 0 ≤ bMid g (DL g ib own rest step) a b (u.take j) by omega)
                        have hDl := DL_len (g := g) (ib := ib) (own := own) (rest := rest) (step := step)
                        obtain ⟨e3, cs3, hE3⟩ := hCD.elm (show (DL g ib own rest step)[b]? = some ((DL g ib own rest step).getD b 0) by rw [List.getD_eq_getElem?_getD, List.getElem?_eq_getElem (by omega)]; rfl)
                        obtain rfl := hE3.K
                        obtain ⟨e4, cs4, hE4⟩ := hCD.elm (show (DL g ib own rest step)[cn]? = some ((DL g ib own rest step).getD cn 0) by rw [List.getD_eq_getElem?_getD, List.getElem?_eq_getElem (by omega)]; rfl)
                        obtain rfl := hE4.K
                        rw [hcn]
                        refine oWant rfl rfl ?_
                        refine oMove rfl ?_
                        refine oWant rfl rfl ?_
                        refine oMove rfl ?_
                        refine oWant rfl rfl ?_
                        refine oIdxE rfl rfl (hE3) (by omega) rfl rfl ?_
                        have hc76 := (hE3).cell
                        refine oWant rfl rfl ?_
                        first | refine oLdX rfl hc76 rfl rfl ?_ | refine oLdXA rfl hc76 rfl (by repeat (first | exact SubL.done | apply SubL.take | apply SubL.drop)) ?_ | (refine oLdR1 rfl (by repeat (first | exact Pick.here | apply Pick.there)) (by omega) rfl (fun u77 hu77 => ?_))
                        refine oWant rfl rfl ?_
                        refine oMove rfl ?_
                        refine oWant rfl rfl ?_
                        refine oMove rfl ?_
                        refine oWant rfl rfl ?_
                        refine oIdxE rfl rfl (hE4) (by omega) rfl rfl ?_
                        have hc80 := (hE4).cell
                        refine oWant rfl rfl ?_
                        first | refine oLdX rfl hc80 rfl rfl ?_ | refine oLdXA rfl hc80 rfl (by repeat (first | exact SubL.done | apply SubL.take | apply SubL.drop)) ?_ | (refine oLdR1 rfl (by repeat (first | exact Pick.here | apply Pick.there)) (by omega) rfl (fun u81 hu81 => ?_))
                        refine oWant rfl rfl ?_
                        refine oGtr rfl rfl ?_
                        refine oWant rfl rfl ?_
                        refine oPickF rfl rfl ?_
                        refine oHead ?_
                        refine oPickT rfl rfl ?_
                        refine oNilT ?_
                        refine thn_n ?_
                        first | refine wCond rfl (fun h84 => ?_) (fun h84 => ?_) | refine wCondB rfl (fun h84 => ?_) (fun h84 => ?_)
                        ·
                          refine wRegion' ?_
                          refine oMove rfl ?_
                          refine oAssign rfl ?_
                          refine oNil ?_
                          refine blk_n ?_
                          refine thn_n ?_
                          refine wRegion' ?_
                          refine oMove rfl ?_
                          refine oSucc rfl rfl (by omega) ?_
                          refine oAssign rfl ?_
                          skip
                          refine oNil ?_
                          refine thn_n ?_
                          exact ⟨rfl, j + 1, by omega, by omega, by rw [← htk, h70, bMid_new (.inr (by rw [hcn]; exact h84))]; exact (by repeat (first | exact trivial | refine And.intro rfl ?_)), (Leads.has (by repeat' (first | exact Has.nil | exact Pick.here | apply Has.cons | apply Pick.there)))⟩
                        ·
                          refine wSkip ?_
                          refine blk_n ?_
                          refine thn_n ?_
                          refine wRegion' ?_
                          refine oMove rfl ?_
                          refine oSucc rfl rfl (by omega) ?_
                          refine oAssign rfl ?_
                          skip
                          refine oNil ?_
                          refine thn_n ?_
                          exact ⟨rfl, j + 1, by omega, by omega, by rw [← htk, h70, bMid_same (by rw [hcn]; rintro (h | h); omega; exact h84 h), hcn]; exact (by repeat (first | exact trivial | refine And.intro rfl ?_)), (Leads.has (by repeat' (first | exact Has.nil | exact Pick.here | apply Has.cons | apply Pick.there)))⟩
                    ·
                      refine oSkip rfl rfl rfl rfl ?_
                      refine oSkip rfl rfl rfl rfl ?_
                      refine oSkip rfl rfl rfl rfl ?_
                      refine oSkipU rfl rfl rfl ?_
                      refine oSkipU rfl rfl rfl ?_
                      refine oSkipU rfl rfl rfl ?_
                      refine oSkipU rfl rfl rfl ?_
                      refine oSkipU rfl rfl rfl ?_
                      refine oSkipU rfl rfl rfl ?_
                      refine oSkipU rfl rfl rfl ?_
                      refine oSkipU rfl rfl rfl ?_
                      refine oSkipU rfl rfl rfl ?_
                      refine oSkip rfl rfl rfl rfl ?_
                      refine oHead ?_
                      refine oPickF rfl rfl ?_
                      refine oNilT ?_
                      refine thn_n ?_
                      refine wCondF rfl ?_
                      refine wSkip ?_
                      refine blk_n ?_
                      refine thn_n ?_
                      refine wRegion' ?_
                      refine oMove rfl ?_
                      refine oSucc rfl rfl (by omega) ?_
                      refine oAssign rfl ?_
                      skip
                      refine oNil ?_
                      refine thn_n ?_
                      exact ⟨rfl, j + 1, by omega, by omega, by rw [← htk, bMid_other h70]; exact (by repeat (first | exact trivial | refine And.intro rfl ?_)), (Leads.has (by repeat' (first | exact Has.nil | exact Pick.here | apply Has.cons | apply Pick.there)))⟩
                  ·
                    obtain rfl : j = u.length := by omega
                    rw [List.take_length, bMid_all hui hbl]
                    refine wExit ?_
                    refine thn_x ?_
                    refine thn_x ?_
                    refine blk_x ?_
                    refine blk_n ?_
                    refine thn_n ?_
                    refine wRegion' ?_
                    refine oMove rfl ?_
                    refine oSucc rfl rfl (by omega) ?_
                    refine oAssign rfl ?_
                    skip
                    refine oNil ?_
                    refine thn_n ?_
                    exact ⟨rfl, b + 1, by omega, by omega, (by repeat (first | exact trivial | refine And.intro rfl ?_)), (Leads.has (by repeat' (first | exact Has.nil | exact Pick.here | apply Has.cons | apply Pick.there)))⟩
              ·
                obtain rfl : b = g.length := by omega
                rw [bTo_all]
                refine wExit ?_
                refine thn_x ?_
                refine thn_x ?_
                refine blk_x ?_
                refine thn_n ?_
                refine wSeq ?_
                refine wSeq ?_
                refine wRegion' ?_
                refine oMove rfl ?_
                refine oLss rfl rfl ?_
                refine oNil ?_
                refine thn_n ?_
                first | refine wCond rfl (fun h87 => ?_) (fun h87 => ?_) | refine wCondB rfl (fun h87 => ?_) (fun h87 => ?_)
                ·
                  refine wSeq ?_
                  refine wRegion' ?_
                  refine oMove rfl ?_
                  refine oAssign rfl ?_
                  refine oNil ?_
                  refine thn_n ?_
                  refine wRet ?_
                  refine thn_r ?_
                  refine blk_r ?_
                  refine thn_r ?_
                  refine blk_r ?_
                  refine thn_r ?_
                  refine fin_r ?_
                  refine ⟨rfl, _, (ResL.cons (ResR.tmp rfl) ResL.nil), ?_⟩
                  exact ⟨(A16, c16), trivial, by rw [hI.stop (.inr h87)]; rfl, by rw [hI.stop (.inr h87)]; exact (Leads.has (by repeat' (first | exact Has.nil | exact Pick.here | apply Has.cons | apply Pick.there)))⟩
                ·
                  obtain ⟨c, hc, hce, hcl, _⟩ := bst_spec (show 0 ≤ bst g (DL g ib own rest step) a by omega)
                  rw [hc]
                  refine wSkip ?_
                  refine thn_n ?_
                  refine wSeq ?_
                  refine wRegion' ?_
                  refine oMove rfl ?_
                  refine oMove rfl ?_
                  refine oBuildSlice1 rfl rfl rfl rfl rfl (by first | exact CellsOf.agg | exact CellsOf.one rfl) rfl (fun b91 => ?_)
                  refine oApp1 (c : Int) rfl rfl rfl rfl (by repeat (first | exact Pick.here | apply Pick.there)) (by repeat (first | exact Pick.here | apply Pick.there)) rfl (by omega) rfl (fun g92 cp92 => ?_)
                  rw [show (o ++ [(a : Int)]).length + 1 = ((o ++ [(a : Int)]) ++ [(c : Int)]).length by simp]
                  refine oAssign rfl ?_
                  refine oNil ?_
                  refine thn_n ?_
                  refine wRegion' ?_
                  refine oMove rfl ?_
                  refine oAssign rfl ?_
                  refine oNil ?_
                  refine blk_n ?_
                  refine thn_n ?_
                  exact ⟨rfl, (o ++ [(a : Int)], c, f, some ⟨g92, 0, none⟩, cp92), hI.go hok hm hc, by show f < f + 1; omega, (by repeat (first | exact trivial | refine And.intro rfl ?_)), (Leads.has (by repeat' (first | exact Has.nil | exact Pick.here | apply Has.cons | apply Pick.there)))⟩
          ·
            have hm : memF g ib (a : Int) = false := by simpa using h45
            refine wExit ?_
            refine thn_x ?_
            refine thn_x ?_
            refine blk_x ?_
            refine thn_n ?_
            refine wSeq ?_
            refine wRegion' ?_
            refine oMove rfl ?_
            refine oAssign rfl ?_
            refine oNil ?_
            refine thn_n ?_
            refine wRet ?_
            refine fin_r ?_
            refine ⟨rfl, _, (ResL.cons (ResR.tmp rfl) ResL.nil), ?_⟩
            exact ⟨(A16, c16), trivial, by rw [hI.stop (.inl hm)]; rfl, by rw [hI.stop (.inl hm)]; exact (Leads.has (by repeat' (first | exact Has.nil | exact Pick.here | apply Has.cons | apply Pick.there)))⟩
end Go.Proofs.YtcacohoanlljhaaG
