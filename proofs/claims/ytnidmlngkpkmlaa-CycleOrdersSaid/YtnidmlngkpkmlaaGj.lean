/-
  Package digraph: Turn.
-/
import Derived.Test.YtnidmlngkpkmlaaGi
import Derived.Test.YtnidmlngkpkmlaaKy
namespace Go.Proofs.YtnidmlngkpkmlaaG
set_option linter.unusedVariables false
set_option linter.unusedSimpArgs false
open Go.RowKit Go.Proofs.YtnidmlngkpkmlaaK Go.Proofs.YtnidmlngkpkmlaaT Go.Proofs.YtnidmlngkpkmlaaL

theorem bun_same {α : Type} {kd : Kd α} {W : World} {ei : TypeId} {hs : List Hdr} {xss : List (List α)} {B : Base} {Φ Φ' Φ'' : List Res} {i : Nat} {u : Hdr} {xs : List α} (h1 : Pick Φ (row kd W ei (hV u) xs) Φ') (h2 : Pick Φ' (bun ((rws kd W ei hs xss).eraseIdx i)) Φ'') (hu : hs[i]? = some u) (hx : xss[i]? = some xs) :
    Leads B Φ (bun (rws kd W ei hs xss) :: Φ'') := fun w hS => by
  have hr := rws_at (kd := kd) (W := W) (ei := ei) hu hx
  obtain ⟨hi, he⟩ := List.getElem?_eq_some_iff.1 hr
  have h3 := bun_back (B := B) (Φ := Φ'') (r' := row kd W ei (hV u) xs) hi w (hS.perm (h1.perm.trans (h2.perm.cons _)))
  rw [← he, List.set_getElem_self] at h3
  exact h3
def midB (g : Graph) (a : Nat) (L : List Int) (b : Nat) : List Int := turnTo g b a ++ if (b : Int) ∈ L then [(a : Int)] else []
def midG (g : Graph) (a : Nat) (L : List Int) : Graph := (List.range g.length).map (midB g a L)
theorem midG_len (g : Graph) (a : Nat) (L : List Int) : (midG g a L).length = g.length := by simp [midG]
theorem midG_at {g : Graph} {a : Nat} {L : List Int} {b : Nat} (h : b < g.length) : (midG g a L)[b]? = some (midB g a L b) := by simp [midG, h]
theorem midG_zero (g : Graph) : midG g 0 [] = List.replicate g.length [] := by
  apply List.ext_getElem?
  intro i
  unfold midG
  rw [List.getElem?_map, List.getElem?_replicate]
  by_cases h : i < g.length
  · simp [h, midB, turnTo, selTo]
  · simp [h]
theorem midG_end (g : Graph) (a : Nat) : midG g a (endsOf g a) = midG g (a + 1) [] := by
  apply List.map_congr_left
  intro b hb
  unfold midB turnTo
  rw [selTo_succ]
  by_cases h : (b : Int) ∈ endsOf g a <;> simp [h]
theorem midG_all (g : Graph) : midG g g.length [] = turnG g := by
  apply List.map_congr_left
  intro b hb
  unfold midB
  simp
theorem midG_old {g : Graph} {a : Nat} {L : List Int} {b : Nat} (h : (b : Int) ∈ L) : midG g a (L ++ [(b : Int)]) = midG g a L := by
  apply List.map_congr_left
  intro c hc
  unfold midB
  by_cases e : c = b
  · subst e; simp [h]
  · have : ¬ (c : Int) = (b : Int) := by omega
    simp [this]
theorem midG_new {g : Graph} {a : Nat} {L : List Int} {b : Nat} (h : ¬ (b : Int) ∈ L) (hb : b < g.length) : midG g a (L ++ [(b : Int)]) = (midG g a L).set b (midB g a L b ++ [(a : Int)]) := by
  apply List.ext_getElem?
  intro c
  rw [List.getElem?_set]
  by_cases hc : c < g.length
  · rw [midG_at hc]
    by_cases e : b = c
    · subst e
      rw [if_pos rfl, if_pos (by rw [midG_len]; exact hb)]
      unfold midB
      simp [h]
    · rw [if_neg e, midG_at hc]
      have : ¬ (c : Int) = (b : Int) := by omega
      unfold midB
      simp [this]
  · rw [if_neg (by omega), List.getElem?_eq_none (by rw [midG_len]; omega), List.getElem?_eq_none (by rw [midG_len]; omega)]
theorem turnTo_lt {g : Graph} {a b : Nat} {x : Int} (h : x ∈ turnTo g b a) : x < (a : Int) := by
  obtain ⟨i, hi, rfl⟩ := List.mem_map.1 h
  have := List.mem_range.1 (List.mem_filter.1 hi).1
  show (i : Int) < a
  omega
theorem midB_last {g : Graph} {a : Nat} {L : List Int} {b : Nat} (h : (b : Int) ∈ L) : (midB g a L b)[(midB g a L b).length - 1]? = some (a : Int) ∧ 0 < (midB g a L b).length := by
  unfold midB
  rw [if_pos h]
  simp
theorem midB_not {g : Graph} {a : Nat} {L : List Int} {b : Nat} {x : Int} {i : Nat} (h : ¬ (b : Int) ∈ L) (hx : (midB g a L b)[i]? = some x) : x ≠ (a : Int) := by
  unfold midB at hx
  rw [if_neg h, List.append_nil] at hx
  have := turnTo_lt (List.mem_of_getElem? hx)
  omega
theorem midB_len (g : Graph) (a : Nat) (L : List Int) (b : Nat) : (midB g a L b).length ≤ a + 1 := by
  unfold midB
  rw [List.length_append]
  have : (turnTo g b a).length ≤ a := selTo_len _ _
  split <;> simp <;> omega

set_option maxRecDepth 100000 in
set_option maxHeartbeats 1000000 in
theorem turn_any {B : Base} {w : World} (hS : St B [] w) (g : Graph) (A : Option Addr) (cp : Nat) (hC : kII.C B.e A g) (hsm : SmallG g) (W0 : World) :
    CallsIn Fence.wide 0 Try.prog 59 #[.slice A g.length cp] w
      (Ret B (fun z : Option Addr × Nat × List Hdr => z.2.2.length = g.length) (fun z => .slice z.1 g.length z.2.1) (fun z => [row kHdr W0 50 (.slice z.1 g.length z.2.1) z.2.2, bun (rws (Kd.int .i64) W0 3 z.2.2 (turnG g))])) := by
  have hn := hsm.1
  (refine enterM Try.func59 rfl rfl hS ?_; simp only [List.zipIdx_cons, List.zipIdx_nil, List.map_cons, List.map_nil, Nat.reduceAdd, Nat.zero_add])
  refine wSeq ?_
  refine wRegion' ?_
  refine oAssign rfl ?_
  refine oNil ?_
  refine thn_n ?_
  refine wSeq ?_
  refine wRegion' ?_
  refine oMove rfl ?_
  refine oLenS rfl rfl ?_
  refine oMake (kd := kHdr) (W := W0) ((none, 0, 0) : Hdr) rfl rfl rfl rfl rfl rfl (by omega) rfl (fun g9 => ?_)
  refine oConv (rws_new (kd := Kd.int .i64) (W := W0) (ei := 3) g.length) ?_
  refine oAlloc rfl (by first | exact CellsOf.agg | exact CellsOf.one rfl) (fun b3 => ?_)
  refine oSt rfl rfl rfl rfl rfl (by repeat (first | exact Pick.here | apply Pick.there)) (by repeat (first | exact SetAt.here | apply SetAt.there)) ?_
  refine oNil ?_
  refine thn_n ?_
  refine wSeq ?_
  refine wSeq ?_
  refine wRegion' ?_
  refine oMove rfl ?_
  refine oLenS rfl rfl ?_
  refine oMove rfl ?_
  refine oNil ?_
  refine thn_n ?_
  refine wBlock ?_
  refine wLoopM (ι := Nat × List Hdr) (fun z => [(0, .slice A g.length cp), (3, .pointer (some ⟨b3, 0, none⟩)), (11, .int .i64 (g.length : Int)), (12, .int .i64 (z.1 : Int))]) (fun z => [blk b3 68 [.slice (some ⟨g9, 0, none⟩) g.length g.length], row kHdr W0 50 (.slice (some ⟨g9, 0, none⟩) g.length g.length) z.2, bun (rws (Kd.int .i64) W0 3 z.2 (midG g z.1 []))]) (fun z => z.1 ≤ g.length ∧ z.2.length = g.length) (fun z => g.length - z.1) (0, List.replicate g.length (none, 0, 0)) ?_ (by repeat (first | exact trivial | refine And.intro rfl ?_)) [] rfl (marks_nil.trans (by rw [midG_zero]; exact (Leads.has (by repeat' (first | exact Has.nil | exact Pick.here | apply Has.cons | apply Pick.there))))) ?_
  ·
    exact ⟨Nat.zero_le _, by simp⟩
  ·
    rintro ⟨a, hs⟩ Ms ⟨ha, hl⟩
    dsimp only at ha hl
    dsimp only
    refine wSeq ?_
    refine wRegion' ?_
    refine oLss rfl rfl ?_
    refine oNil ?_
    refine thn_n ?_
    refine wSeq ?_
    first | refine wCond rfl (fun h13 => ?_) (fun h13 => ?_) | refine wCondB rfl (fun h13 => ?_) (fun h13 => ?_)
    ·
      refine wSkip ?_
      refine thn_n ?_
      refine wSeq ?_
      refine wBlock ?_
      refine wSeq ?_
      refine wRegion' ?_
      refine oMove rfl ?_
      refine oAlloc rfl (by first | exact CellsOf.agg | exact CellsOf.one rfl) (fun b4 => ?_)
      refine oSt rfl rfl rfl rfl rfl (by repeat (first | exact Pick.here | apply Pick.there)) (by repeat (first | exact SetAt.here | apply SetAt.there)) ?_
      refine oNil ?_
      refine thn_n ?_
      refine wSeq ?_
      refine wRegion' ?_
      refine oMove rfl ?_
      refine oLd rfl (by repeat (first | exact Pick.here | apply Pick.there)) rfl rfl ?_
      (refine oCall rfl (by kernel_rfl) (fun w hS => frame hS (by repeat' (first | exact Split.nil | exact Pick.here | apply Split.cons | apply Pick.there)) (fun B' hB hS' => ends_any hS' A g.length cp (a : Int))) ?_; rintro ⟨p2, p3⟩ -)
      refine oNil ?_
      refine thn_n ?_
      refine wBlock ?_
      refine wRange rfl rfl (by kernel_rfl) (ends1 g A cp a p2 p3 hC (by omega)) (by rintro _ h; obtain ⟨y, _, rfl⟩ := List.mem_map.1 h; rfl) rfl (ι := Nat × List Hdr) (κ := Unit) (fun j z => z.1 = j ∧ z.2.length = g.length) (fun z => [marksR Ms, blk b4 3 [.int .i64 (a : Int)], blk b3 68 [.slice (some ⟨g9, 0, none⟩) g.length g.length], row kHdr W0 50 (.slice (some ⟨g9, 0, none⟩) g.length g.length) z.2, bun (rws (Kd.int .i64) W0 3 z.2 (midG g a ((endsOf g a).take z.1)))]) (fun x z => False) (fun x z => []) (0, hs) ⟨rfl, hl⟩ (by dsimp only; rw [List.take_zero]; exact (Leads.has (by repeat' (first | exact Has.nil | exact Pick.here | apply Has.cons | apply Pick.there)))) ?_ ?_ ?_
      ·
        intro lp2 B' R1 R2 j hj
        rintro ⟨i, hsi⟩ hB ⟨rfl, hli⟩
        dsimp only at hli ⊢
        have hj' : i < (endsOf g a).length := by simpa using hj
        have htk : (endsOf g a).take (i + 1) = (endsOf g a).take i ++ [(endsOf g a)[i]] := List.take_succ_eq_append_getElem hj'
        have hin := inG_iff.1 (ends_in (List.getElem_mem hj'))
        rw [List.getElem_map]
        generalize (endsOf g a)[i] = x at *
        obtain ⟨b, rfl⟩ := Int.eq_ofNat_of_zero_le hin.1
        have hb : b < g.length := by omega
        have hml := midB_len g a ((endsOf g a).take i) b
        dsimp only [hand, intV]
        refine wRegion' ?_
        refine oAssign rfl ?_
        refine oNil ?_
        refine aq_n (by repeat (first | exact Pick.here | apply Pick.there)) ?_
        refine wBlock ?_
        refine wSeq ?_
        refine wRegion' ?_
        refine oLd rfl (by repeat (first | exact Pick.here | apply Pick.there)) rfl rfl ?_
        refine oMove rfl ?_
        refine oIdxR rfl rfl (by repeat (first | exact Pick.here | apply Pick.there)) (by omega) rfl rfl (fun g21 hg21 => ?_)
        first | subst hg21 | (injection hg21 with hg21; injection hg21 with hg21; subst hg21)
        first | refine oLdX rfl hc21 rfl rfl ?_ | refine oLdXA rfl hc21 rfl (by repeat (first | exact SubL.done | apply SubL.take | apply SubL.drop)) ?_ | (refine oLdR1 rfl (by repeat (first | exact Pick.here | apply Pick.there)) (by omega) rfl (fun u22 hu22 => ?_))
        obtain ⟨A22, n22, c22⟩ := u22
        refine oFocus (i := b) (by repeat (first | exact Pick.here | apply Pick.there)) hu22 (midG_at hb) ?_
        refine oSet (t := 22) (v' := .slice _ n22 c22) rfl rfl ?_
        refine oRoom (A := A22) (n := n22) (cp := c22) (xs := midB g a ((endsOf g a).take i) b) (kd := Kd.int .i64) (W0 := W0) (e := 3) (by repeat (first | exact Pick.here | apply Pick.there)) (fun hn22 hc22 => ?_)
        refine oLenS rfl rfl ?_
        refine oAssign rfl ?_
        refine oNil ?_
        refine thn_n ?_
        refine wSeq ?_
        refine wDrawV rfl [0] [1, 2, 3, 4, 5, 6, 7, 8, 9, 10, 11, 12] 13 [] (by kernel_rfl) rfl rfl rfl (fun w0 => ?_)
        refine oEql rfl rfl ?_
        refine oMove rfl ?_
        first | refine oSplit (t := 26) rfl (fun h26 => ?_) (fun h26 => ?_) | refine oSplitB (t := 26) rfl (fun h26 => ?_) (fun h26 => ?_)
        ·
          have hnm : ¬ (b : Int) ∈ (endsOf g a).take i := fun h => by have := (midB_last (g := g) (a := a) h).2; omega
          refine oSkip rfl rfl rfl rfl ?_
          refine oSkip rfl rfl rfl rfl ?_
          refine oSkip rfl rfl rfl rfl ?_
          refine oSkip rfl rfl rfl rfl ?_
          refine oSkip rfl rfl rfl rfl ?_
          refine oSkip rfl rfl rfl rfl ?_
          refine oSkip rfl rfl rfl rfl ?_
          refine oSkip rfl rfl rfl rfl ?_
          refine oSkip rfl rfl rfl rfl ?_
          refine oSkip rfl rfl rfl rfl ?_
          refine oHeadV ?_
          refine oPickT rfl rfl ?_
          refine oNil ?_
          refine thn_n ?_
          refine wCondT rfl ?_
          refine wDrawS rfl [0, 1, 2, 3, 4, 5, 6] [(7, [0, 1, 2, 3, 4, 5]), (8, [0, 1])] [9, 10] 6 (by kernel_rfl) rfl rfl (fun w0 => ?_)
          refine oLd rfl (by repeat (first | exact Pick.here | apply Pick.there)) rfl rfl ?_
          refine oMove rfl ?_
          refine oLd rfl (by repeat (first | exact Pick.here | apply Pick.there)) rfl rfl ?_
          refine oMove rfl ?_
          refine oIdxR rfl rfl (by repeat (first | exact Pick.here | apply Pick.there)) (by omega) rfl rfl (fun g42 hg42 => ?_)
          first | subst hg42 | (injection hg42 with hg42; injection hg42 with hg42; subst hg42)
          first | refine oLdX rfl hc42 rfl rfl ?_ | refine oLdXA rfl hc42 rfl (by repeat (first | exact SubL.done | apply SubL.take | apply SubL.drop)) ?_ | (refine oLdR1 rfl (by repeat (first | exact Pick.here | apply Pick.there)) (by omega) rfl (fun u43 hu43 => ?_))
          obtain rfl := Option.some.inj (hu22.symm.trans hu43)
          refine oSet (t := 43) (v' := .slice _ n22 c22) rfl rfl ?_
          refine oLd rfl (by repeat (first | exact Pick.here | apply Pick.there)) rfl rfl ?_
          refine oLkSeg ?_
          refine oSeg rfl ?_
          refine oBuildSlice1 rfl rfl rfl rfl rfl (by first | exact CellsOf.agg | exact CellsOf.one rfl) rfl (fun b45 => ?_)
          refine oAgain ?_ ?_
          ·
            refine Again.cons rfl rfl rfl rfl (fun w0 => ?_) ?_
            ·
              refine oLd rfl (by repeat (first | exact Pick.here | apply Pick.there)) rfl rfl ?_
              exact oLkHas rfl
            ·
              refine Again.cons rfl rfl rfl rfl (fun w0 => ?_) ?_
              ·
                refine oMove rfl ?_
                exact oLkHas rfl
              ·
                refine Again.cons rfl rfl rfl rfl (fun w0 => ?_) ?_
                ·
                  refine oLd rfl (by repeat (first | exact Pick.here | apply Pick.there)) rfl rfl ?_
                  exact oLkHas rfl
                ·
                  refine Again.cons rfl rfl rfl rfl (fun w0 => ?_) ?_
                  ·
                    refine oMove rfl ?_
                    exact oLkHas rfl
                  ·
                    refine Again.cons rfl rfl rfl rfl (fun w0 => ?_) ?_
                    ·
                      refine oIdxR rfl rfl (by repeat (first | exact Pick.here | apply Pick.there)) (by omega) rfl rfl (fun g42 hg42 => ?_)
                      first | subst hg42 | (injection hg42 with hg42; injection hg42 with hg42; subst hg42)
                      exact oLkHas rfl
                    ·
                      refine Again.cons rfl rfl rfl rfl (fun w0 => ?_) ?_
                      ·
                        first | refine oLdX rfl hc42 rfl rfl ?_ | refine oLdXA rfl hc42 rfl (by repeat (first | exact SubL.done | apply SubL.take | apply SubL.drop)) ?_ | (refine oLdR1 rfl (by repeat (first | exact Pick.here | apply Pick.there)) (by omega) rfl (fun u43 hu43 => ?_))
                        obtain rfl := Option.some.inj (hu22.symm.trans hu43)
                        exact oLkHas rfl
                      ·
                        exact Again.nil
          ·
            refine oSeg rfl ?_
            refine oApp1 (a : Int) rfl rfl rfl rfl (by repeat (first | exact Pick.here | apply Pick.there)) (by repeat (first | exact Pick.here | apply Pick.there)) rfl (by omega) rfl (fun g46 cp46 => ?_)
            rw [← hn22]
            refine oBack (kd := Kd.int .i64) (W := W0) (ei := 3) (hs := hsi) (xss := midG g a ((endsOf g a).take i)) (i := b) (u := (some ⟨g46, 0, none⟩, n22 + 1, cp46)) (xs := midB g a ((endsOf g a).take i) b ++ [(a : Int)]) (by repeat (first | exact Pick.here | apply Pick.there)) (by repeat (first | exact Pick.here | apply Pick.there)) (by omega) (by rw [midG_len]; exact hli) ?_
            rw [← midG_new hnm hb, ← htk]
            refine oAgain ?_ ?_
            ·
              refine Again.cons rfl rfl rfl rfl (fun w0 => ?_) ?_
              ·
                refine oLd rfl (by repeat (first | exact Pick.here | apply Pick.there)) rfl rfl ?_
                exact oLkHas rfl
              ·
                refine Again.cons rfl rfl rfl rfl (fun w0 => ?_) ?_
                ·
                  refine oMove rfl ?_
                  exact oLkHas rfl
                ·
                  exact Again.nil
            ·
              refine oTailS ?_
              refine oIdxR rfl rfl (by repeat (first | exact Pick.here | apply Pick.there)) (by omega) rfl rfl (fun g47 hg47 => ?_)
              first | subst hg47 | (injection hg47 with hg47; injection hg47 with hg47; subst hg47)
              refine oStR (enc := hV) (some ⟨g46, 0, none⟩, n22 + 1, cp46) rfl rfl rfl rfl (by repeat (first | exact Pick.here | apply Pick.there)) (by omega) ?_
              refine oNil ?_
              refine blk_n ?_
              refine rq_n ?_
              exact ⟨(i + 1, hsi.set b (some ⟨g46, 0, none⟩, n22 + 1, cp46)), ⟨rfl, by show (hsi.set _ _).length = _; rw [List.length_set]; exact hli⟩, (Leads.has (by repeat' (first | exact Has.nil | exact Pick.here | apply Has.cons | apply Pick.there)))⟩
        ·
          refine oWant rfl rfl ?_
          refine oLd rfl (by repeat (first | exact Pick.here | apply Pick.there)) rfl rfl ?_
          refine oWant rfl rfl ?_
          refine oMove rfl ?_
          refine oWant rfl rfl ?_
          refine oIdxR rfl rfl (by repeat (first | exact Pick.here | apply Pick.there)) (by omega) rfl rfl (fun g29 hg29 => ?_)
          first | subst hg29 | (injection hg29 with hg29; injection hg29 with hg29; subst hg29)
          refine oWant rfl rfl ?_
          first | refine oLdX rfl hc29 rfl rfl ?_ | refine oLdXA rfl hc29 rfl (by repeat (first | exact SubL.done | apply SubL.take | apply SubL.drop)) ?_ | (refine oLdR1 rfl (by repeat (first | exact Pick.here | apply Pick.there)) (by omega) rfl (fun u30 hu30 => ?_))
          obtain rfl := Option.some.inj (hu22.symm.trans hu30)
          refine oSet (t := 30) (v' := .slice _ n22 c22) rfl rfl ?_
          refine oWant rfl rfl ?_
          refine oMove rfl ?_
          refine oWant rfl rfl ?_
          first | refine oSub rfl rfl (by omega) ?_ | refine oSubW rfl rfl ?_
          refine oSet (t := 32) (v' := .int .i64 ((n22 - 1 : Nat) : Int)) rfl (by congr 1; omega) ?_
          refine oWant rfl rfl ?_
          refine oIdxR rfl rfl (by repeat (first | exact Pick.here | apply Pick.there)) (by omega) rfl rfl (fun g33 hg33 => ?_)
          first | subst hg33 | (injection hg33 with hg33; injection hg33 with hg33; subst hg33)
          refine oWant rfl rfl ?_
          first | refine oLdX rfl hc33 rfl rfl ?_ | refine oLdXA rfl hc33 rfl (by repeat (first | exact SubL.done | apply SubL.take | apply SubL.drop)) ?_ | (refine oLdR1 rfl (by repeat (first | exact Pick.here | apply Pick.there)) (by omega) rfl (fun u34 hu34 => ?_))
          refine oWant rfl rfl ?_
          refine oLd rfl (by repeat (first | exact Pick.here | apply Pick.there)) rfl rfl ?_
          refine oWant rfl rfl ?_
          refine oNeq rfl rfl ?_
          refine oHeadV ?_
          refine oPickF rfl rfl ?_
          refine oNil ?_
          refine thn_n ?_
          first | refine wCond rfl (fun h37 => ?_) (fun h37 => ?_) | refine wCondB rfl (fun h37 => ?_) (fun h37 => ?_)
          ·
            have hnm : ¬ (b : Int) ∈ (endsOf g a).take i := fun h => by
              have h2 := (midB_last (g := g) (a := a) h).1
              rw [← hn22, hu34] at h2
              exact h37 (Option.some.inj h2)
            refine wDrawS rfl [0, 1, 2, 3, 4, 5, 6] [(7, [0, 1, 2, 3, 4, 5]), (8, [0, 1])] [9, 10] 6 (by kernel_rfl) rfl rfl (fun w0 => ?_)
            refine oLd rfl (by repeat (first | exact Pick.here | apply Pick.there)) rfl rfl ?_
            refine oMove rfl ?_
            refine oLd rfl (by repeat (first | exact Pick.here | apply Pick.there)) rfl rfl ?_
            refine oMove rfl ?_
            refine oIdxR rfl rfl (by repeat (first | exact Pick.here | apply Pick.there)) (by omega) rfl rfl (fun g42 hg42 => ?_)
            first | subst hg42 | (injection hg42 with hg42; injection hg42 with hg42; subst hg42)
            first | refine oLdX rfl hc42 rfl rfl ?_ | refine oLdXA rfl hc42 rfl (by repeat (first | exact SubL.done | apply SubL.take | apply SubL.drop)) ?_ | (refine oLdR1 rfl (by repeat (first | exact Pick.here | apply Pick.there)) (by omega) rfl (fun u43 hu43 => ?_))
            obtain rfl := Option.some.inj (hu22.symm.trans hu43)
            refine oSet (t := 43) (v' := .slice _ n22 c22) rfl rfl ?_
            refine oLd rfl (by repeat (first | exact Pick.here | apply Pick.there)) rfl rfl ?_
            refine oLkSeg ?_
            refine oSeg rfl ?_
            refine oBuildSlice1 rfl rfl rfl rfl rfl (by first | exact CellsOf.agg | exact CellsOf.one rfl) rfl (fun b45 => ?_)
            refine oAgain ?_ ?_
            ·
              refine Again.cons rfl rfl rfl rfl (fun w0 => ?_) ?_
              ·
                refine oLd rfl (by repeat (first | exact Pick.here | apply Pick.there)) rfl rfl ?_
                exact oLkHas rfl
              ·
                refine Again.cons rfl rfl rfl rfl (fun w0 => ?_) ?_
                ·
                  refine oMove rfl ?_
                  exact oLkHas rfl
                ·
                  refine Again.cons rfl rfl rfl rfl (fun w0 => ?_) ?_
                  ·
                    refine oLd rfl (by repeat (first | exact Pick.here | apply Pick.there)) rfl rfl ?_
                    exact oLkHas rfl
                  ·
                    refine Again.cons rfl rfl rfl rfl (fun w0 => ?_) ?_
                    ·
                      refine oMove rfl ?_
                      exact oLkHas rfl
                    ·
                      refine Again.cons rfl rfl rfl rfl (fun w0 => ?_) ?_
                      ·
                        refine oIdxR rfl rfl (by repeat (first | exact Pick.here | apply Pick.there)) (by omega) rfl rfl (fun g42 hg42 => ?_)
                        first | subst hg42 | (injection hg42 with hg42; injection hg42 with hg42; subst hg42)
                        exact oLkHas rfl
                      ·
                        refine Again.cons rfl rfl rfl rfl (fun w0 => ?_) ?_
                        ·
                          first | refine oLdX rfl hc42 rfl rfl ?_ | refine oLdXA rfl hc42 rfl (by repeat (first | exact SubL.done | apply SubL.take | apply SubL.drop)) ?_ | (refine oLdR1 rfl (by repeat (first | exact Pick.here | apply Pick.there)) (by omega) rfl (fun u43 hu43 => ?_))
                          obtain rfl := Option.some.inj (hu22.symm.trans hu43)
                          exact oLkHas rfl
                        ·
                          exact Again.nil
            ·
              refine oSeg rfl ?_
              refine oApp1 (a : Int) rfl rfl rfl rfl (by repeat (first | exact Pick.here | apply Pick.there)) (by repeat (first | exact Pick.here | apply Pick.there)) rfl (by omega) rfl (fun g46 cp46 => ?_)
              rw [← hn22]
              refine oBack (kd := Kd.int .i64) (W := W0) (ei := 3) (hs := hsi) (xss := midG g a ((endsOf g a).take i)) (i := b) (u := (some ⟨g46, 0, none⟩, n22 + 1, cp46)) (xs := midB g a ((endsOf g a).take i) b ++ [(a : Int)]) (by repeat (first | exact Pick.here | apply Pick.there)) (by repeat (first | exact Pick.here | apply Pick.there)) (by omega) (by rw [midG_len]; exact hli) ?_
              rw [← midG_new hnm hb, ← htk]
              refine oAgain ?_ ?_
              ·
                refine Again.cons rfl rfl rfl rfl (fun w0 => ?_) ?_
                ·
                  refine oLd rfl (by repeat (first | exact Pick.here | apply Pick.there)) rfl rfl ?_
                  exact oLkHas rfl
                ·
                  refine Again.cons rfl rfl rfl rfl (fun w0 => ?_) ?_
                  ·
                    refine oMove rfl ?_
                    exact oLkHas rfl
                  ·
                    exact Again.nil
              ·
                refine oTailS ?_
                refine oIdxR rfl rfl (by repeat (first | exact Pick.here | apply Pick.there)) (by omega) rfl rfl (fun g47 hg47 => ?_)
                first | subst hg47 | (injection hg47 with hg47; injection hg47 with hg47; subst hg47)
                refine oStR (enc := hV) (some ⟨g46, 0, none⟩, n22 + 1, cp46) rfl rfl rfl rfl (by repeat (first | exact Pick.here | apply Pick.there)) (by omega) ?_
                refine oNil ?_
                refine blk_n ?_
                refine rq_n ?_
                exact ⟨(i + 1, hsi.set b (some ⟨g46, 0, none⟩, n22 + 1, cp46)), ⟨rfl, by show (hsi.set _ _).length = _; rw [List.length_set]; exact hli⟩, (Leads.has (by repeat' (first | exact Has.nil | exact Pick.here | apply Has.cons | apply Pick.there)))⟩
          ·
            have hmem : (b : Int) ∈ (endsOf g a).take i := by
              apply Classical.byContradiction
              intro hne
              exact midB_not hne hu34 (by omega)
            have hold : midG g a ((endsOf g a).take (i + 1)) = midG g a ((endsOf g a).take i) := by rw [htk, midG_old hmem]
            refine wSkip ?_
            refine blk_n ?_
            refine rq_n ?_
            exact ⟨(i + 1, hsi), ⟨rfl, hli⟩, by dsimp only; rw [hold]; exact (bun_same (by repeat (first | exact Pick.here | apply Pick.there)) (by repeat (first | exact Pick.here | apply Pick.there)) hu22 (midG_at hb)).trans (Leads.has (by repeat' (first | exact Has.nil | exact Pick.here | apply Has.cons | apply Pick.there)))⟩
      ·
        rintro ⟨i, hs2⟩ Dm2 ⟨h, hl2⟩
        dsimp only at h hl2
        rw [List.length_map] at h
        subst h
        dsimp only
        rw [List.take_length, midG_end]
        try dsimp only
        refine blk_n ?_
        refine blk_n ?_
        refine thn_n ?_
        refine wRegion' ?_
        refine oSucc rfl rfl (by omega) ?_
        refine oMove rfl ?_
        refine oNil ?_
        refine thn_n ?_
        exact ⟨Dm2 :: Ms, rfl, (a + 1, hs2), ⟨by show a + 1 ≤ _; omega, hl2⟩, by show g.length - (a + 1) < g.length - a; omega, (by repeat (first | exact trivial | refine And.intro rfl ?_)), (marks_push (by repeat (first | exact Pick.here | apply Pick.there)) (by repeat (first | exact Pick.here | apply Pick.there))).trans (Leads.has (by repeat' (first | exact Has.nil | exact Pick.here | apply Has.cons | apply Pick.there)))⟩
      ·
        rintro _ _ _ h; exact h.elim
    ·
      obtain rfl : a = g.length := by omega
      rw [midG_all]
      refine wExit ?_
      refine thn_x ?_
      refine thn_x ?_
      refine blk_x ?_
      refine thn_n ?_
      refine wSeq ?_
      refine wRegion' ?_
      refine oLd rfl (by repeat (first | exact Pick.here | apply Pick.there)) rfl rfl ?_
      refine oAssign rfl ?_
      refine oNil ?_
      refine thn_n ?_
      refine wRet ?_
      refine finMb_r (Ds := Ms) rfl (by repeat (first | exact Pick.here | apply Pick.there)) (ResL.cons (ResR.tmp rfl) ResL.nil) ?_
      exact ⟨(some ⟨g9, 0, none⟩, g.length, hs), hl, rfl, (Leads.has (by repeat' (first | exact Has.nil | exact Pick.here | apply Has.cons | apply Pick.there)))⟩
end Go.Proofs.YtnidmlngkpkmlaaG
