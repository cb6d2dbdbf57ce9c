import Derived.Test.YtcacohoanlljhaaHg

/-
  sheerleglaw12: DeepMore.
-/
namespace Go.Proofs.YtcacohoanlljhaaG
set_option linter.unusedVariables false
set_option linter.unusedSimpArgs false
open Go.RowKit Go.Proofs.YtcacohoanlljhaaK Go.Proofs.YtcacohoanlljhaaT Go.Proofs.YtcacohoanlljhaaL

theorem memF_set {g : Graph} {ib : List Bool} {k : Nat} (a : Nat) (h : memF g ib (a : Int) = true) : memF g (ib.set k true) (a : Int) = true := by
  unfold memF at *
  simp only [Bool.and_eq_true, decide_eq_true_eq, List.length_set] at *
  obtain ⟨⟨⟨h1, h2⟩, h3⟩, h4⟩ := h
  refine ⟨⟨⟨h1, h2⟩, h3⟩, ?_⟩
  rw [Int.toNat_natCast, List.getD_eq_getElem?_getD] at *
  rw [List.getElem?_set]
  split
  · next e => subst e; rw [if_pos (by omega)]; rfl
  · exact h4
theorem mm_in (x : Int) : 0 ≤ minI (maxI x 0) 5000 ∧ minI (maxI x 0) 5000 ≤ 5000 := by
  unfold minI maxI
  repeat' split
  all_goals omega
def grt (own : List Int) (by_ : Int) : List Int := own.map fun x => minI (maxI x 0) 5000 + by_
theorem grt_len (own : List Int) (by_ : Int) : (grt own by_).length = own.length := by simp [grt]
theorem grt_more {own : List Int} {by_ : Int} (h0 : 0 ≤ by_) (h : ∀ x ∈ own, x ≤ 5000) (a : Nat) : nr (own.getD a 0) ≤ nr ((grt own by_).getD a 0) := by
  unfold grt
  rw [List.getD_eq_getElem?_getD, List.getD_eq_getElem?_getD, List.getElem?_map]
  cases e : own[a]? with
  | none => exact Int.le_refl _
  | some x =>
    have := h x (List.mem_of_getElem? e)
    show nr x ≤ nr (minI (maxI x 0) 5000 + by_)
    unfold nr nearF minI maxI
    repeat' split
    all_goals omega
set_option maxRecDepth 100000 in
set_option maxHeartbeats 1000000 in
theorem deepMore {B : Base} {w : World} (hS : St B [] w) (A : Option Addr) (cp : Nat) (g : Graph) (hC : kII.C B.e A g) (A1 : Option Addr) (cp1 : Nat) (ib : List Bool) (hC1 : Kd.bool.C B.e A1 ib) (A2 : Option Addr) (cp2 : Nat) (own : List Int) (hC2 : (Kd.int .i64).C B.e A2 own) (at_ by_ : Int) :
    CallsIn Fence.wide 0 Try.prog 5 #[.slice A g.length cp, .slice A1 ib.length cp1, .slice A2 own.length cp2, .int .i64 at_, .int .i64 by_] w (Ret B (fun _ : Unit => True) (fun _ => .bool true) (fun _ => [])) := by
  have m1 := hC1.1
  have m2 := hC2.1
  (refine enter Try.func5 rfl rfl hS ?_; simp only [List.zipIdx_cons, List.zipIdx_nil, List.map_cons, List.map_nil, Nat.reduceAdd, Nat.zero_add])
  refine wSeq ?_
  refine wRegion' ?_
  refine oAssign rfl ?_
  refine oNil ?_
  refine thn_n ?_
  refine wSeq ?_
  refine wSeq ?_
  refine wRegion' ?_
  refine oMove rfl ?_
  (refine oCall rfl (by kernel_rfl) (fun w hS => frame hS (by repeat' (first | exact Split.nil | exact Pick.here | apply Split.cons | apply Pick.there)) (fun B' hB hS' => few10 hS' A cp g (Kd.C_grow hB hC))) ?_; rintro r16 h16')
  first | refine oNot rfl ?_ | refine oNotB rfl ?_
  refine oMove rfl ?_
  first | refine oSplit (t := 23) rfl (fun h23 => ?_) (fun h23 => ?_) | refine oSplitB (t := 23) rfl (fun h23 => ?_) (fun h23 => ?_)
  ·
    refine oSkip rfl rfl rfl rfl ?_
    refine oSkip rfl rfl rfl rfl ?_
    refine oSkip rfl rfl rfl rfl ?_
    refine oPickT rfl rfl ?_
    refine oMove rfl ?_
    refine oSkip rfl rfl rfl rfl ?_
    refine oSkip rfl rfl rfl rfl ?_
    refine oSkip rfl rfl rfl rfl ?_
    refine oPickT rfl rfl ?_
    refine oMove rfl ?_
    refine oSkip rfl rfl rfl rfl ?_
    refine oSkip rfl rfl rfl rfl ?_
    refine oPickT rfl rfl ?_
    refine oMove rfl ?_
    refine oSkip rfl rfl rfl rfl ?_
    refine oSkip rfl rfl rfl rfl ?_
    refine oSkip rfl rfl rfl rfl ?_
    refine oSkip rfl rfl rfl rfl ?_
    refine oPickT rfl rfl ?_
    refine oMove rfl ?_
    refine oSkip rfl rfl rfl rfl ?_
    refine oSkip rfl rfl rfl rfl ?_
    refine oPickT rfl rfl ?_
    refine oMove rfl ?_
    refine oSkip rfl rfl rfl rfl ?_
    refine oSkip rfl rfl rfl rfl ?_
    refine oPickT rfl rfl ?_
    refine oNil ?_
    refine thn_n ?_
    refine wCondT rfl ?_
    refine wSeq ?_
    refine wRegion' ?_
    (refine oCall rfl (by kernel_rfl) (fun w hS => frame hS (by repeat' (first | exact Split.nil | exact Pick.here | apply Split.cons | apply Pick.there)) (fun B' hB hS' => known12 hS')) ?_; rintro ⟨⟩ -)
    refine oAssign rfl ?_
    refine oNil ?_
    refine thn_n ?_
    refine wRet ?_
    refine thn_r ?_
    refine fin_r ?_
    refine ⟨rfl, _, (ResL.cons (ResR.tmp rfl) ResL.nil), ?_⟩
    exact ⟨(), trivial, rfl, (Leads.has (by repeat' (first | exact Has.nil | exact Pick.here | apply Has.cons | apply Pick.there)))⟩
  ·
    refine oWant rfl rfl ?_
    refine oMove rfl ?_
    refine oWant rfl rfl ?_
    refine oLenS rfl rfl ?_
    refine oWant rfl rfl ?_
    refine oGtr rfl rfl ?_
    refine oPickF rfl rfl ?_
    refine oMove rfl ?_
    first | refine oSplit (t := 28) rfl (fun h28 => ?_) (fun h28 => ?_) | refine oSplitB (t := 28) rfl (fun h28 => ?_) (fun h28 => ?_)
    ·
      refine oSkip rfl rfl rfl rfl ?_
      refine oSkip rfl rfl rfl rfl ?_
      refine oSkip rfl rfl rfl rfl ?_
      refine oPickT rfl rfl ?_
      refine oMove rfl ?_
      refine oSkip rfl rfl rfl rfl ?_
      refine oSkip rfl rfl rfl rfl ?_
      refine oPickT rfl rfl ?_
      refine oMove rfl ?_
      refine oSkip rfl rfl rfl rfl ?_
      refine oSkip rfl rfl rfl rfl ?_
      refine oSkip rfl rfl rfl rfl ?_
      refine oSkip rfl rfl rfl rfl ?_
      refine oPickT rfl rfl ?_
      refine oMove rfl ?_
      refine oSkip rfl rfl rfl rfl ?_
      refine oSkip rfl rfl rfl rfl ?_
      refine oPickT rfl rfl ?_
      refine oMove rfl ?_
      refine oSkip rfl rfl rfl rfl ?_
      refine oSkip rfl rfl rfl rfl ?_
      refine oPickT rfl rfl ?_
      refine oNil ?_
      refine thn_n ?_
      refine wCondT rfl ?_
      refine wSeq ?_
      refine wRegion' ?_
      (refine oCall rfl (by kernel_rfl) (fun w hS => frame hS (by repeat' (first | exact Split.nil | exact Pick.here | apply Split.cons | apply Pick.there)) (fun B' hB hS' => known12 hS')) ?_; rintro ⟨⟩ -)
      refine oAssign rfl ?_
      refine oNil ?_
      refine thn_n ?_
      refine wRet ?_
      refine thn_r ?_
      refine fin_r ?_
      refine ⟨rfl, _, (ResL.cons (ResR.tmp rfl) ResL.nil), ?_⟩
      exact ⟨(), trivial, rfl, (Leads.has (by repeat' (first | exact Has.nil | exact Pick.here | apply Has.cons | apply Pick.there)))⟩
    ·
      refine oWant rfl rfl ?_
      refine oMove rfl ?_
      refine oWant rfl rfl ?_
      refine oLenS rfl rfl ?_
      refine oWant rfl rfl ?_
      refine oGtr rfl rfl ?_
      refine oPickF rfl rfl ?_
      refine oMove rfl ?_
      first | refine oSplit (t := 33) rfl (fun h33 => ?_) (fun h33 => ?_) | refine oSplitB (t := 33) rfl (fun h33 => ?_) (fun h33 => ?_)
      ·
        refine oSkip rfl rfl rfl rfl ?_
        refine oSkip rfl rfl rfl rfl ?_
        refine oPickT rfl rfl ?_
        refine oMove rfl ?_
        refine oSkip rfl rfl rfl rfl ?_
        refine oSkip rfl rfl rfl rfl ?_
        refine oSkip rfl rfl rfl rfl ?_
        refine oSkip rfl rfl rfl rfl ?_
        refine oPickT rfl rfl ?_
        refine oMove rfl ?_
        refine oSkip rfl rfl rfl rfl ?_
        refine oSkip rfl rfl rfl rfl ?_
        refine oPickT rfl rfl ?_
        refine oMove rfl ?_
        refine oSkip rfl rfl rfl rfl ?_
        refine oSkip rfl rfl rfl rfl ?_
        refine oPickT rfl rfl ?_
        refine oNil ?_
        refine thn_n ?_
        refine wCondT rfl ?_
        refine wSeq ?_
        refine wRegion' ?_
        (refine oCall rfl (by kernel_rfl) (fun w hS => frame hS (by repeat' (first | exact Split.nil | exact Pick.here | apply Split.cons | apply Pick.there)) (fun B' hB hS' => known12 hS')) ?_; rintro ⟨⟩ -)
        refine oAssign rfl ?_
        refine oNil ?_
        refine thn_n ?_
        refine wRet ?_
        refine thn_r ?_
        refine fin_r ?_
        refine ⟨rfl, _, (ResL.cons (ResR.tmp rfl) ResL.nil), ?_⟩
        exact ⟨(), trivial, rfl, (Leads.has (by repeat' (first | exact Has.nil | exact Pick.here | apply Has.cons | apply Pick.there)))⟩
      ·
        refine oWant rfl rfl ?_
        refine oMove rfl ?_
        refine oWant rfl rfl ?_
        refine oLss rfl rfl ?_
        refine oPickF rfl rfl ?_
        refine oMove rfl ?_
        first | refine oSplit (t := 37) rfl (fun h37 => ?_) (fun h37 => ?_) | refine oSplitB (t := 37) rfl (fun h37 => ?_) (fun h37 => ?_)
        ·
          refine oSkip rfl rfl rfl rfl ?_
          refine oSkip rfl rfl rfl rfl ?_
          refine oSkip rfl rfl rfl rfl ?_
          refine oSkip rfl rfl rfl rfl ?_
          refine oPickT rfl rfl ?_
          refine oMove rfl ?_
          refine oSkip rfl rfl rfl rfl ?_
          refine oSkip rfl rfl rfl rfl ?_
          refine oPickT rfl rfl ?_
          refine oMove rfl ?_
          refine oSkip rfl rfl rfl rfl ?_
          refine oSkip rfl rfl rfl rfl ?_
          refine oPickT rfl rfl ?_
          refine oNil ?_
          refine thn_n ?_
          refine wCondT rfl ?_
          refine wSeq ?_
          refine wRegion' ?_
          (refine oCall rfl (by kernel_rfl) (fun w hS => frame hS (by repeat' (first | exact Split.nil | exact Pick.here | apply Split.cons | apply Pick.there)) (fun B' hB hS' => known12 hS')) ?_; rintro ⟨⟩ -)
          refine oAssign rfl ?_
          refine oNil ?_
          refine thn_n ?_
          refine wRet ?_
          refine thn_r ?_
          refine fin_r ?_
          refine ⟨rfl, _, (ResL.cons (ResR.tmp rfl) ResL.nil), ?_⟩
          exact ⟨(), trivial, rfl, (Leads.has (by repeat' (first | exact Has.nil | exact Pick.here | apply Has.cons | apply Pick.there)))⟩
        ·
          refine oWant rfl rfl ?_
          refine oMove rfl ?_
          refine oWant rfl rfl ?_
          refine oMove rfl ?_
          refine oWant rfl rfl ?_
          refine oLenS rfl rfl ?_
          refine oWant rfl rfl ?_
          refine oGeq rfl rfl ?_
          refine oPickF rfl rfl ?_
          refine oMove rfl ?_
          first | refine oSplit (t := 43) rfl (fun h43 => ?_) (fun h43 => ?_) | refine oSplitB (t := 43) rfl (fun h43 => ?_) (fun h43 => ?_)
          ·
            refine oSkip rfl rfl rfl rfl ?_
            refine oSkip rfl rfl rfl rfl ?_
            refine oPickT rfl rfl ?_
            refine oMove rfl ?_
            refine oSkip rfl rfl rfl rfl ?_
            refine oSkip rfl rfl rfl rfl ?_
            refine oPickT rfl rfl ?_
            refine oNil ?_
            refine thn_n ?_
            refine wCondT rfl ?_
            refine wSeq ?_
            refine wRegion' ?_
            (refine oCall rfl (by kernel_rfl) (fun w hS => frame hS (by repeat' (first | exact Split.nil | exact Pick.here | apply Split.cons | apply Pick.there)) (fun B' hB hS' => known12 hS')) ?_; rintro ⟨⟩ -)
            refine oAssign rfl ?_
            refine oNil ?_
            refine thn_n ?_
            refine wRet ?_
            refine thn_r ?_
            refine fin_r ?_
            refine ⟨rfl, _, (ResL.cons (ResR.tmp rfl) ResL.nil), ?_⟩
            exact ⟨(), trivial, rfl, (Leads.has (by repeat' (first | exact Has.nil | exact Pick.here | apply Has.cons | apply Pick.there)))⟩
          ·
            refine oWant rfl rfl ?_
            refine oMove rfl ?_
            refine oWant rfl rfl ?_
            refine oLss rfl rfl ?_
            refine oPickF rfl rfl ?_
            refine oMove rfl ?_
            first | refine oSplit (t := 47) rfl (fun h47 => ?_) (fun h47 => ?_) | refine oSplitB (t := 47) rfl (fun h47 => ?_) (fun h47 => ?_)
            ·
              refine oSkip rfl rfl rfl rfl ?_
              refine oSkip rfl rfl rfl rfl ?_
              refine oPickT rfl rfl ?_
              refine oNil ?_
              refine thn_n ?_
              refine wCondT rfl ?_
              refine wSeq ?_
              refine wRegion' ?_
              (refine oCall rfl (by kernel_rfl) (fun w hS => frame hS (by repeat' (first | exact Split.nil | exact Pick.here | apply Split.cons | apply Pick.there)) (fun B' hB hS' => known12 hS')) ?_; rintro ⟨⟩ -)
              refine oAssign rfl ?_
              refine oNil ?_
              refine thn_n ?_
              refine wRet ?_
              refine thn_r ?_
              refine fin_r ?_
              refine ⟨rfl, _, (ResL.cons (ResR.tmp rfl) ResL.nil), ?_⟩
              exact ⟨(), trivial, rfl, (Leads.has (by repeat' (first | exact Has.nil | exact Pick.here | apply Has.cons | apply Pick.there)))⟩
            ·
              refine oWant rfl rfl ?_
              refine oMove rfl ?_
              refine oWant rfl rfl ?_
              refine oGtr rfl rfl ?_
              refine oPickF rfl rfl ?_
              refine oNil ?_
              refine thn_n ?_
              first | refine wCond rfl (fun h50 => ?_) (fun h50 => ?_) | refine wCondB rfl (fun h50 => ?_) (fun h50 => ?_)
              ·
                refine wSeq ?_
                refine wRegion' ?_
                (refine oCall rfl (by kernel_rfl) (fun w hS => frame hS (by repeat' (first | exact Split.nil | exact Pick.here | apply Split.cons | apply Pick.there)) (fun B' hB hS' => known12 hS')) ?_; rintro ⟨⟩ -)
                refine oAssign rfl ?_
                refine oNil ?_
                refine thn_n ?_
                refine wRet ?_
                refine thn_r ?_
                refine fin_r ?_
                refine ⟨rfl, _, (ResL.cons (ResR.tmp rfl) ResL.nil), ?_⟩
                exact ⟨(), trivial, rfl, (Leads.has (by repeat' (first | exact Has.nil | exact Pick.here | apply Has.cons | apply Pick.there)))⟩
              ·
                have hsm := few_small (h16' (by simpa using h23))
                have hn := hsm.1
                obtain ⟨k, rfl⟩ := Int.eq_ofNat_of_zero_le (show 0 ≤ at_ by omega)
                have hkl : k < ib.length := by omega
                refine wSkip ?_
                refine thn_n ?_
                refine wSeq ?_
                refine wRegion' ?_
                refine oAssign rfl ?_
                refine oNil ?_
                refine thn_n ?_
                refine wSeq ?_
                refine wRegion' ?_
                refine oMove rfl ?_
                refine oMove rfl ?_
                refine oConv (Leads.nilrow (kd := Kd.bool) (W := B.e) (e := 4)) ?_
                refine oAppA (kd := Kd.bool) (W := B.e) (ys := ib) rfl rfl rfl rfl (by repeat (first | exact Pick.here | apply Pick.there)) rfl (fun w hw => src_C hC1 (Base.grow hw.ok)) (by simp only [List.length_nil]; omega) rfl (fun A54 c54 hc54 => ?_)
                rw [List.nil_append ib, show ([] : List Bool).length + ib.length = ib.length by simp]
                refine oAssign rfl ?_
                refine oNil ?_
                refine thn_n ?_
                refine wSeq ?_
                refine wRegion' ?_
                refine oMove rfl ?_
                refine oMove rfl ?_
                refine oIdxR rfl rfl (by repeat (first | exact Pick.here | apply Pick.there)) (by omega) rfl rfl (fun g57 hg57 => ?_)
                first | subst hg57 | (injection hg57 with hg57; injection hg57 with hg57; subst hg57)
                refine oStR _ rfl rfl rfl rfl (by repeat (first | exact Pick.here | apply Pick.there)) (by first | omega | (simp only [List.length_set]; omega)) ?_
                refine oNil ?_
                refine thn_n ?_
                refine wSeq ?_
                refine wRegion' ?_
                refine oAssign rfl ?_
                refine oNil ?_
                refine thn_n ?_
                refine wSeq ?_
                refine wSeq ?_
                refine wRegion' ?_
                refine oAssign rfl ?_
                refine oNil ?_
                refine thn_n ?_
                refine wBlock ?_
                refine wLoop (ι := Nat × Option Addr × Nat) (fun z => [(0, .slice A g.length cp), (1, .slice A1 ib.length cp1), (2, .slice A2 own.length cp2), (4, .int .i64 by_), (11, .slice (some ⟨g57, 0, none⟩) ib.length c54), (12, .slice z.2.1 ((grt own by_).take z.1).length z.2.2), (13, .int .i64 (z.1 : Int))]) (fun z => [row Kd.bool B.e 4 (.slice (some ⟨g57, 0, none⟩) ib.length c54) (ib.set k true), row (Kd.int .i64) B.e 3 (.slice z.2.1 ((grt own by_).take z.1).length z.2.2) ((grt own by_).take z.1)]) (fun z => z.1 ≤ own.length) (fun z => own.length - z.1) (0, none, 0) ?_ (by repeat (first | exact trivial | refine And.intro rfl ?_)) (Leads.nilrow.trans (Leads.has (by repeat' (first | exact Has.nil | exact Pick.here | apply Has.cons | apply Pick.there)))) ?_
                ·
                  exact Nat.zero_le _
                ·
                  rintro ⟨i, A6, c6⟩ hi
                  dsimp only at hi
                  have hgl := grt_len own by_
                  have hti : ((grt own by_).take i).length = i := by rw [List.length_take]; omega
                  try dsimp only
                  refine wSeq ?_
                  refine wSeq ?_
                  refine wRegion' ?_
                  refine oMove rfl ?_
                  refine oMove rfl ?_
                  refine oLenS rfl rfl ?_
                  refine oLss rfl rfl ?_
                  refine oNil ?_
                  refine thn_n ?_
                  first | refine wCond rfl (fun h61 => ?_) (fun h61 => ?_) | refine wCondB rfl (fun h61 => ?_) (fun h61 => ?_)
                  ·
                    obtain ⟨x, hx⟩ : ∃ x, own[i]? = some x := ⟨_, List.getElem?_eq_getElem (by omega)⟩
                    obtain ⟨e1, cs1, hE1⟩ := hC2.elm hx
                    obtain rfl := hE1.K
                    have htk := take_at (l := grt own by_) (a := i) (u := minI (maxI x 0) 5000 + by_) (by unfold grt; rw [List.getElem?_map, hx]; rfl)
                    have hmr := mm_in x
                    refine wSkip ?_
                    refine thn_n ?_
                    refine wSeq ?_
                    refine wBlock ?_
                    refine wRegion' ?_
                    refine oMove rfl ?_
                    refine oMove rfl ?_
                    refine oMove rfl ?_
                    refine oIdxE rfl rfl (hE1) (by omega) rfl rfl ?_
                    have hc67 := (hE1).cell
                    first | refine oLdX rfl hc67 rfl rfl ?_ | refine oLdXA rfl hc67 rfl (by repeat (first | exact SubL.done | apply SubL.take | apply SubL.drop)) ?_ | (refine oLdR1 rfl (by repeat (first | exact Pick.here | apply Pick.there)) (by omega) rfl (fun u68 hu68 => ?_))
                    refine oMaxI rfl rfl ?_
                    refine oMinI rfl rfl ?_
                    refine oSet (t := 70) (v' := .int .i64 (minI (maxI x 0) 5000)) rfl rfl ?_
                    refine oMove rfl ?_
                    refine oAdd rfl rfl (by omega) ?_
                    refine oBuildSlice1 rfl rfl rfl rfl rfl (by first | exact CellsOf.agg | exact CellsOf.one rfl) rfl (fun b73 => ?_)
                    refine oApp1 (minI (maxI x 0) 5000 + by_) rfl rfl rfl rfl (by repeat (first | exact Pick.here | apply Pick.there)) (by repeat (first | exact Pick.here | apply Pick.there)) rfl (by omega) rfl (fun g74 cp74 => ?_)
                    rw [show ((grt own by_).take i).length + 1 = ((grt own by_).take (i + 1)).length by rw [← htk, List.length_append]; rfl, htk]
                    refine oAssign rfl ?_
                    refine oNil ?_
                    refine blk_n ?_
                    refine thn_n ?_
                    refine wRegion' ?_
                    refine oMove rfl ?_
                    refine oSucc rfl rfl (by omega) ?_
                    refine oAssign rfl ?_
                    refine oNil ?_
                    refine thn_n ?_
                    exact ⟨rfl, (i + 1, some ⟨g74, 0, none⟩, cp74), by show i + 1 ≤ _; omega, by show own.length - (i + 1) < own.length - i; omega, (by repeat (first | exact trivial | refine And.intro rfl ?_)), (Leads.has (by repeat' (first | exact Has.nil | exact Pick.here | apply Has.cons | apply Pick.there)))⟩
                  ·
                    obtain rfl : i = own.length := by omega
                    rw [← hgl, List.take_length]
                    refine wExit ?_
                    refine thn_x ?_
                    refine thn_x ?_
                    refine blk_x ?_
                    refine thn_n ?_
                    refine wSeq ?_
                    refine wRegion' ?_
                    refine oMove rfl ?_
                    refine oMove rfl ?_
                    refine oMove rfl ?_
                    rw [hgl]
                    (refine oCall rfl (by kernel_rfl) (fun w hS => frame hS (by repeat' (first | exact Split.nil | exact Pick.here | apply Split.cons | apply Pick.there)) (fun B' hB hS' => depthsP hS' g A cp (Kd.C_grow hB hC) hsm ib A1 cp1 (Kd.C_grow hB hC1) (by omega) own A2 cp2 (Kd.C_grow hB hC2) 0 1 B.e)) ?_; rintro ⟨A79, c79⟩ -)
                    refine oMove rfl ?_
                    refine oExt rfl (by repeat (first | exact GetAt.here | apply GetAt.there)) ?_
                    refine oExt rfl (by repeat (first | exact GetAt.here | apply GetAt.there)) ?_
                    refine oAssign rfl ?_
                    refine oAssign rfl ?_
                    refine oNil ?_
                    refine thn_n ?_
                    refine wSeq ?_
                    refine wRegion' ?_
                    refine oMove rfl ?_
                    refine oMove rfl ?_
                    refine oSet (t := 84) (v' := .slice (some ⟨g57, 0, none⟩) (ib.set k true).length c54) rfl (by rw [List.length_set]) ?_
                    refine oMove rfl ?_
                    refine oSet (t := 85) (v' := .slice A6 (grt own by_).length c6) rfl (by rw [hgl]) ?_
                    (refine oCall rfl (by kernel_rfl) (fun w hS => frame' hS .nil (fun B' hB hR hS' => depthsP hS' g A cp (Kd.C_grow hB hC) hsm (ib.set k true) (some ⟨g57, 0, none⟩) c54 (row_Cs (W := B.e) (e := 4) (n := ib.length) (cp := c54) (hR _ _ (by repeat (first | exact Pick.here | apply Pick.there)))) (by rw [List.length_set]; omega) (grt own by_) A6 c6 (row_Cs (W := B.e) (e := 3) (n := own.length) (cp := c6) (hR _ _ (by repeat (first | exact Pick.here | apply Pick.there)))) 0 2 B.e)) ?_; rintro ⟨A86, c86⟩ -)
                    refine oMove rfl ?_
                    refine oExt rfl (by repeat (first | exact GetAt.here | apply GetAt.there)) ?_
                    refine oExt rfl (by repeat (first | exact GetAt.here | apply GetAt.there)) ?_
                    refine oAssign rfl ?_
                    refine oAssign rfl ?_
                    refine oNil ?_
                    refine thn_n ?_
                    refine wFreeze [row (Kd.int .i64) B.e 3 (.slice A79 (DLo g ib own 0 1).length c79) (DLo g ib own 0 1), row (Kd.int .i64) B.e 3 (.slice A86 (DLo g (ib.set k true) (grt own by_) 0 2).length c86) (DLo g (ib.set k true) (grt own by_) 0 2)] (by repeat' (first | exact Split.nil | exact Pick.here | apply Split.cons | apply Pick.there)) (fun B1 hB1 hq1 => ?_)
                    have hCD := (row_C (kd := Kd.int .i64) (W := B.e) (e := 3) (A := A79) (n := (DLo g ib own 0 1).length) (cp := c79) (xs := DLo g ib own 0 1) (hq1 _ _ (by repeat (first | exact Pick.here | apply Pick.there))) hB1).2.2.1
                    have hCW := (row_C (kd := Kd.int .i64) (W := B.e) (e := 3) (A := A86) (n := (DLo g (ib.set k true) (grt own by_) 0 2).length) (cp := c86) (xs := DLo g (ib.set k true) (grt own by_) 0 2) (hq1 _ _ (by repeat (first | exact Pick.here | apply Pick.there))) hB1).2.2.1
                    have hC2 := Kd.C_grow hB1 hC2
                    refine wSeq ?_
                    refine wSeq ?_
                    refine wRegion' ?_
                    refine oAssign rfl ?_
                    refine oNil ?_
                    refine thn_n ?_
                    refine wBlock ?_
                    refine wLoop (ι := Nat) (fun i => [(0, .slice A g.length cp), (2, .slice A2 own.length cp2), (14, .slice A79 (DLo g ib own 0 1).length c79), (15, .bool (okO g ib)), (16, .slice A86 (DLo g (ib.set k true) (grt own by_) 0 2).length c86), (17, .bool (okO g (ib.set k true))), (18, .int .i64 (i : Int))]) (fun i => []) (fun i => i ≤ own.length ∧ ∀ x ∈ own.take i, x ≤ 5000) (fun i => own.length - i) 0 ?_ (by repeat (first | exact trivial | refine And.intro rfl ?_)) (Leads.has (by repeat' (first | exact Has.nil | exact Pick.here | apply Has.cons | apply Pick.there))) ?_
                    ·
                      exact ⟨Nat.zero_le _, by simp⟩
                    ·
                      rintro i ⟨hi, hs⟩
                      try dsimp only
                      refine wSeq ?_
                      refine wSeq ?_
                      refine wRegion' ?_
                      refine oMove rfl ?_
                      refine oMove rfl ?_
                      refine oLenS rfl rfl ?_
                      refine oLss rfl rfl ?_
                      refine oNil ?_
                      refine thn_n ?_
                      first | refine wCond rfl (fun h92 => ?_) (fun h92 => ?_) | refine wCondB rfl (fun h92 => ?_) (fun h92 => ?_)
                      ·
                        obtain ⟨x, hx⟩ : ∃ x, own[i]? = some x := ⟨_, List.getElem?_eq_getElem (by omega)⟩
                        obtain ⟨e1, cs1, hE1⟩ := hC2.elm hx
                        obtain rfl := hE1.K
                        refine wSkip ?_
                        refine thn_n ?_
                        refine wSeq ?_
                        refine wBlock ?_
                        refine wSeq ?_
                        refine wRegion' ?_
                        refine oMove rfl ?_
                        refine oMove rfl ?_
                        refine oIdxE rfl rfl (hE1) (by omega) rfl rfl ?_
                        have hc97 := (hE1).cell
                        first | refine oLdX rfl hc97 rfl rfl ?_ | refine oLdXA rfl hc97 rfl (by repeat (first | exact SubL.done | apply SubL.take | apply SubL.drop)) ?_ | (refine oLdR1 rfl (by repeat (first | exact Pick.here | apply Pick.there)) (by omega) rfl (fun u98 hu98 => ?_))
                        refine oGtr rfl rfl ?_
                        refine oNil ?_
                        refine thn_n ?_
                        first | refine wCond rfl (fun h99 => ?_) (fun h99 => ?_) | refine wCondB rfl (fun h99 => ?_) (fun h99 => ?_)
                        ·
                          refine wSeq ?_
                          refine wRegion' ?_
                          (refine oCall rfl (by kernel_rfl) (fun w hS => frame hS (by repeat' (first | exact Split.nil | exact Pick.here | apply Split.cons | apply Pick.there)) (fun B' hB hS' => known12 hS')) ?_; rintro ⟨⟩ -)
                          refine oAssign rfl ?_
                          refine oNil ?_
                          refine thn_n ?_
                          refine wRet ?_
                          refine blk_r ?_
                          refine thn_r ?_
                          refine thn_r ?_
                          refine blk_r ?_
                          refine thn_r ?_
                          refine fin_r ?_
                          refine ⟨rfl, _, (ResL.cons (ResR.tmp rfl) ResL.nil), ?_⟩
                          exact ⟨(), trivial, rfl, (Leads.has (by repeat' (first | exact Has.nil | exact Pick.here | apply Has.cons | apply Pick.there)))⟩
                        ·
                          refine wSkip ?_
                          refine blk_n ?_
                          refine thn_n ?_
                          refine wRegion' ?_
                          refine oMove rfl ?_
                          refine oSucc rfl rfl (by omega) ?_
                          refine oAssign rfl ?_
                          refine oNil ?_
                          refine thn_n ?_
                          exact ⟨rfl, i + 1, ⟨by omega, by
                          rw [← take_at hx]
                          intro y hy
                          rcases List.mem_append.1 hy with h | h
                          · exact hs y h
                          · obtain rfl := List.mem_singleton.1 h
                            omega⟩, by omega, (by repeat (first | exact trivial | refine And.intro rfl ?_)), (Leads.has (by repeat' (first | exact Has.nil | exact Pick.here | apply Has.cons | apply Pick.there)))⟩
                      ·
                        obtain rfl : i = own.length := by omega
                        rw [List.take_length] at hs
                        refine wExit ?_
                        refine thn_x ?_
                        refine thn_x ?_
                        refine blk_x ?_
                        refine thn_n ?_
                        refine wSeq ?_
                        refine wSeq ?_
                        refine wRegion' ?_
                        refine oAssign rfl ?_
                        refine oNil ?_
                        refine thn_n ?_
                        refine wBlock ?_
                        refine wLoop (ι := Nat) (fun i => [(0, .slice A g.length cp), (14, .slice A79 (DLo g ib own 0 1).length c79), (15, .bool (okO g ib)), (16, .slice A86 (DLo g (ib.set k true) (grt own by_) 0 2).length c86), (17, .bool (okO g (ib.set k true))), (19, .int .i64 (i : Int))]) (fun i => []) (fun i => i ≤ g.length) (fun i => g.length - i) 0 ?_ (by repeat (first | exact trivial | refine And.intro rfl ?_)) (Leads.has (by repeat' (first | exact Has.nil | exact Pick.here | apply Has.cons | apply Pick.there))) ?_
                        ·
                          exact Nat.zero_le _
                        ·
                          rintro i hi
                          try dsimp only
                          refine wSeq ?_
                          refine wSeq ?_
                          refine wRegion' ?_
                          refine oMove rfl ?_
                          refine oMove rfl ?_
                          first | refine oSplit (t := 102) rfl (fun h102 => ?_) (fun h102 => ?_) | refine oSplitB (t := 102) rfl (fun h102 => ?_) (fun h102 => ?_)
                          ·
                            have hok : okO g ib = true := by first | exact h102 | exact decide_eq_true h102
                            refine oWant rfl rfl ?_
                            refine oMove rfl ?_
                            refine oPickT rfl rfl ?_
                            refine oMove rfl ?_
                            first | refine oSplit (t := 105) rfl (fun h105 => ?_) (fun h105 => ?_) | refine oSplitB (t := 105) rfl (fun h105 => ?_) (fun h105 => ?_)
                            ·
                              have hok' : okO g (ib.set k true) = true := by first | exact h105 | exact decide_eq_true h105
                              refine oWant rfl rfl ?_
                              refine oMove rfl ?_
                              refine oWant rfl rfl ?_
                              refine oMove rfl ?_
                              refine oWant rfl rfl ?_
                              refine oLenS rfl rfl ?_
                              refine oWant rfl rfl ?_
                              refine oLss rfl rfl ?_
                              refine oPickT rfl rfl ?_
                              refine oNil ?_
                              refine thn_n ?_
                              first | refine wCond rfl (fun h110 => ?_) (fun h110 => ?_) | refine wCondB rfl (fun h110 => ?_) (fun h110 => ?_)
                              ·
                                have hl1 : (DLo g ib own 0 1).length = g.length := by rw [DLo_ok hok, DL_len]
                                have hl2 : (DLo g (ib.set k true) (grt own by_) 0 2).length = g.length := by rw [DLo_ok hok', DL_len]
                                obtain ⟨e3, cs3, hE3⟩ := hCD.elm (show (DLo g ib own 0 1)[i]? = some ((DLo g ib own 0 1).getD i 0) by rw [List.getD_eq_getElem?_getD, List.getElem?_eq_getElem (by omega)]; rfl)
                                obtain rfl := hE3.K
                                obtain ⟨e4, cs4, hE4⟩ := hCW.elm (show (DLo g (ib.set k true) (grt own by_) 0 2)[i]? = some ((DLo g (ib.set k true) (grt own by_) 0 2).getD i 0) by rw [List.getD_eq_getElem?_getD, List.getElem?_eq_getElem (by omega)]; rfl)
                                obtain rfl := hE4.K
                                refine wSkip ?_
                                refine thn_n ?_
                                refine wSeq ?_
                                refine wBlock ?_
                                refine wSeq ?_
                                refine wDraw2 rfl rfl [0, 1, 4, 5] [2, 3, 6, 7] 8 (by kernel_rfl) rfl rfl rfl (fun w0 => ?_)
                                refine oIdxE rfl rfl (hE4) (by omega) rfl rfl ?_
                                have hc115 := (hE4).cell
                                first | refine oLdX rfl hc115 rfl rfl ?_ | refine oLdXA rfl hc115 rfl (by repeat (first | exact SubL.done | apply SubL.take | apply SubL.drop)) ?_ | (refine oLdR1 rfl (by repeat (first | exact Pick.here | apply Pick.there)) (by omega) rfl (fun u116 hu116 => ?_))
                                refine oIdxE rfl rfl (hE3) (by omega) rfl rfl ?_
                                have hc119 := (hE3).cell
                                first | refine oLdX rfl hc119 rfl rfl ?_ | refine oLdXA rfl hc119 rfl (by repeat (first | exact SubL.done | apply SubL.take | apply SubL.drop)) ?_ | (refine oLdR1 rfl (by repeat (first | exact Pick.here | apply Pick.there)) (by omega) rfl (fun u120 hu120 => ?_))
                                refine oHead ?_
                                refine oLss rfl rfl ?_
                                refine oNilT ?_
                                refine thn_n ?_
                                first | refine wCond rfl (fun h121 => ?_) (fun h121 => ?_) | refine wCondB rfl (fun h121 => ?_) (fun h121 => ?_)
                                ·
                                  have hmo := rnds_mono (g := g) (ib := ib) (ib' := ib.set k true) (own := own) (own' := grt own by_) (step := 1) (step' := 2) memF_set (grt_len own by_).symm (grt_more (by omega) hs) (by decide) (g.length + 1) i
                                  rw [DLo_ok hok, DLo_ok hok'] at h121
                                  unfold DL at h121
                                  omega
                                ·
                                  refine wSkip ?_
                                  refine blk_n ?_
                                  refine thn_n ?_
                                  refine wRegion' ?_
                                  refine oMove rfl ?_
                                  refine oSucc rfl rfl (by omega) ?_
                                  refine oAssign rfl ?_
                                  refine oNil ?_
                                  refine thn_n ?_
                                  exact ⟨rfl, i + 1, by omega, by omega, (by repeat (first | exact trivial | refine And.intro rfl ?_)), (Leads.has (by repeat' (first | exact Has.nil | exact Pick.here | apply Has.cons | apply Pick.there)))⟩
                              ·
                                refine wExit ?_
                                refine thn_x ?_
                                refine thn_x ?_
                                refine blk_x ?_
                                refine thn_n ?_
                                refine wSeq ?_
                                refine wRegion' ?_
                                (refine oCall rfl (by kernel_rfl) (fun w hS => frame hS (by repeat' (first | exact Split.nil | exact Pick.here | apply Split.cons | apply Pick.there)) (fun B' hB hS' => known12 hS')) ?_; rintro ⟨⟩ -)
                                refine oAssign rfl ?_
                                refine oNil ?_
                                refine thn_n ?_
                                refine wRet ?_
                                refine fin_r ?_
                                refine ⟨rfl, _, (ResL.cons (ResR.tmp rfl) ResL.nil), ?_⟩
                                exact ⟨(), trivial, rfl, (Leads.has (by repeat' (first | exact Has.nil | exact Pick.here | apply Has.cons | apply Pick.there)))⟩
                            ·
                              refine oSkip rfl rfl rfl rfl ?_
                              refine oSkip rfl rfl rfl rfl ?_
                              refine oSkip rfl rfl rfl rfl ?_
                              refine oSkip rfl rfl rfl rfl ?_
                              refine oPickF rfl rfl ?_
                              refine oNil ?_
                              refine thn_n ?_
                              refine wCondF rfl ?_
                              refine wExit ?_
                              refine thn_x ?_
                              refine thn_x ?_
                              refine blk_x ?_
                              refine thn_n ?_
                              refine wSeq ?_
                              refine wRegion' ?_
                              (refine oCall rfl (by kernel_rfl) (fun w hS => frame hS (by repeat' (first | exact Split.nil | exact Pick.here | apply Split.cons | apply Pick.there)) (fun B' hB hS' => known12 hS')) ?_; rintro ⟨⟩ -)
                              refine oAssign rfl ?_
                              refine oNil ?_
                              refine thn_n ?_
                              refine wRet ?_
                              refine fin_r ?_
                              refine ⟨rfl, _, (ResL.cons (ResR.tmp rfl) ResL.nil), ?_⟩
                              exact ⟨(), trivial, rfl, (Leads.has (by repeat' (first | exact Has.nil | exact Pick.here | apply Has.cons | apply Pick.there)))⟩
                          ·
                            refine oSkip rfl rfl rfl rfl ?_
                            refine oPickF rfl rfl ?_
                            refine oMove rfl ?_
                            refine oSkip rfl rfl rfl rfl ?_
                            refine oSkip rfl rfl rfl rfl ?_
                            refine oSkip rfl rfl rfl rfl ?_
                            refine oSkip rfl rfl rfl rfl ?_
                            refine oPickF rfl rfl ?_
                            refine oNil ?_
                            refine thn_n ?_
                            refine wCondF rfl ?_
                            refine wExit ?_
                            refine thn_x ?_
                            refine thn_x ?_
                            refine blk_x ?_
                            refine thn_n ?_
                            refine wSeq ?_
                            refine wRegion' ?_
                            (refine oCall rfl (by kernel_rfl) (fun w hS => frame hS (by repeat' (first | exact Split.nil | exact Pick.here | apply Split.cons | apply Pick.there)) (fun B' hB hS' => known12 hS')) ?_; rintro ⟨⟩ -)
                            refine oAssign rfl ?_
                            refine oNil ?_
                            refine thn_n ?_
                            refine wRet ?_
                            refine fin_r ?_
                            refine ⟨rfl, _, (ResL.cons (ResR.tmp rfl) ResL.nil), ?_⟩
                            exact ⟨(), trivial, rfl, (Leads.has (by repeat' (first | exact Has.nil | exact Pick.here | apply Has.cons | apply Pick.there)))⟩
end Go.Proofs.YtcacohoanlljhaaG
