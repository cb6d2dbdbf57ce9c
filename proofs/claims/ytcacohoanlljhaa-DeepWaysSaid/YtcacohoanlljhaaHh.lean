import Derived.Test.YtcacohoanlljhaaHg

/-
  sheerleglaw12: DeepWays.
-/
namespace Go.Proofs.YtcacohoanlljhaaG
set_option linter.unusedVariables false
set_option linter.unusedSimpArgs false
open Go.RowKit Go.Proofs.YtcacohoanlljhaaK Go.Proofs.YtcacohoanlljhaaT Go.Proofs.YtcacohoanlljhaaL

set_option maxRecDepth 100000 in
set_option maxHeartbeats 1000000 in
theorem deepWays {B : Base} {w : World} (hS : St B [] w) (A : Option Addr) (cp : Nat) (g : Graph) (hC : kII.C B.e A g) (A1 : Option Addr) (cp1 : Nat) (ib : List Bool) (hC1 : Kd.bool.C B.e A1 ib) (A2 : Option Addr) (cp2 : Nat) (own : List Int) (hC2 : (Kd.int .i64).C B.e A2 own) (n : Int × Int × Int) (cs : List Value) (hK : (Kd.pair (Kd.int .i64) (Kd.pair (Kd.int .i64) (Kd.int .i64))).K B.e n cs) :
    CallsIn Fence.wide 0 Try.prog 4 #[.slice A g.length cp, .slice A1 ib.length cp1, .slice A2 own.length cp2, .agg cs.toArray] w (Ret B (fun _ : Unit => True) (fun _ => .bool true) (fun _ => [])) := by
  have m1 := hC1.1
  have m2 := hC2.1
  obtain ⟨n0, n1, n2⟩ := n
  obtain ⟨_, _, rfl, rfl, _, _, rfl, rfl, rfl⟩ := hK
  (refine enter Try.func4 rfl rfl hS ?_; simp only [List.zipIdx_cons, List.zipIdx_nil, List.map_cons, List.map_nil, Nat.reduceAdd, Nat.zero_add])
  refine wSeq ?_
  refine wRegion' ?_
  refine oBox rfl (by first | exact CellsOf.agg | exact CellsOf.one rfl) (fun b7 => ?_)
  refine oAssign rfl ?_
  refine oNil ?_
  refine thn_n ?_
  refine wSeq ?_
  refine wSeq ?_
  refine wRegion' ?_
  refine oMove rfl ?_
  (refine oCall rfl (by kernel_rfl) (fun w hS => frame hS (by repeat' (first | exact Split.nil | exact Pick.here | apply Split.cons | apply Pick.there)) (fun B' hB hS' => few10 hS' A cp g (Kd.C_grow hB hC))) ?_; rintro r16 h16')
  first | refine oNot rfl ?_ | refine oNotB rfl ?_
  refine oMove rfl ?_
  first | refine oSplit (t := 18) rfl (fun h18 => ?_) (fun h18 => ?_) | refine oSplitB (t := 18) rfl (fun h18 => ?_) (fun h18 => ?_)
  ·
    refine oSkip rfl rfl rfl rfl ?_
    refine oSkip rfl rfl rfl rfl ?_
    refine oSkip rfl rfl rfl rfl ?_
    refine oPickT rfl rfl ?_
    refine oMove rfl ?_
    refine oSkip rfl rfl rfl rfl ?_
    refine oSkip rfl rfl rfl rfl ?_
    refine oSkip rfl rfl rfl rfl ?_
    refine oPickT rfl rfl ?_
    refine oNil ?_
    refine thn_n ?_
    refine wCondT rfl ?_
    refine wSeq ?_
    refine wRegion' ?_
    (refine oCall rfl (by kernel_rfl) (fun w hS => frame hS (by repeat' (first | exact Split.nil | exact Pick.here | apply Split.cons | apply Pick.there)) (fun B' hB hS' => known12 hS')) ?_; rintro ⟨⟩ -)
    refine oAssign rfl ?_
    refine oNil ?_
    refine thn_n ?_
    refine wRet ?_
    refine thn_r ?_
    refine fin_r ?_
    refine ⟨rfl, _, (ResL.cons (ResR.tmp rfl) ResL.nil), ?_⟩
    exact ⟨(), trivial, rfl, (Leads.has (by repeat' (first | exact Has.nil | exact Pick.here | apply Has.cons | apply Pick.there)))⟩
  ·
    refine oWant rfl rfl ?_
    refine oMove rfl ?_
    refine oWant rfl rfl ?_
    refine oLenS rfl rfl ?_
    refine oWant rfl rfl ?_
    refine oGtr rfl rfl ?_
    refine oPickF rfl rfl ?_
    refine oMove rfl ?_
    first | refine oSplit (t := 23) rfl (fun h23 => ?_) (fun h23 => ?_) | refine oSplitB (t := 23) rfl (fun h23 => ?_) (fun h23 => ?_)
    ·
      refine oSkip rfl rfl rfl rfl ?_
      refine oSkip rfl rfl rfl rfl ?_
      refine oSkip rfl rfl rfl rfl ?_
      refine oPickT rfl rfl ?_
      refine oNil ?_
      refine thn_n ?_
      refine wCondT rfl ?_
      refine wSeq ?_
      refine wRegion' ?_
      (refine oCall rfl (by kernel_rfl) (fun w hS => frame hS (by repeat' (first | exact Split.nil | exact Pick.here | apply Split.cons | apply Pick.there)) (fun B' hB hS' => known12 hS')) ?_; rintro ⟨⟩ -)
      refine oAssign rfl ?_
      refine oNil ?_
      refine thn_n ?_
      refine wRet ?_
      refine thn_r ?_
      refine fin_r ?_
      refine ⟨rfl, _, (ResL.cons (ResR.tmp rfl) ResL.nil), ?_⟩
      exact ⟨(), trivial, rfl, (Leads.has (by repeat' (first | exact Has.nil | exact Pick.here | apply Has.cons | apply Pick.there)))⟩
    ·
      refine oWant rfl rfl ?_
      refine oMove rfl ?_
      refine oWant rfl rfl ?_
      refine oLenS rfl rfl ?_
      refine oWant rfl rfl ?_
      refine oGtr rfl rfl ?_
      refine oPickF rfl rfl ?_
      refine oNil ?_
      refine thn_n ?_
      first | refine wCond rfl (fun h27 => ?_) (fun h27 => ?_) | refine wCondB rfl (fun h27 => ?_) (fun h27 => ?_)
      ·
        refine wSeq ?_
        refine wRegion' ?_
        (refine oCall rfl (by kernel_rfl) (fun w hS => frame hS (by repeat' (first | exact Split.nil | exact Pick.here | apply Split.cons | apply Pick.there)) (fun B' hB hS' => known12 hS')) ?_; rintro ⟨⟩ -)
        refine oAssign rfl ?_
        refine oNil ?_
        refine thn_n ?_
        refine wRet ?_
        refine thn_r ?_
        refine fin_r ?_
        refine ⟨rfl, _, (ResL.cons (ResR.tmp rfl) ResL.nil), ?_⟩
        exact ⟨(), trivial, rfl, (Leads.has (by repeat' (first | exact Has.nil | exact Pick.here | apply Has.cons | apply Pick.there)))⟩
      ·
        have hsm := few_small (h16' (by simpa using h18))
        have hn := hsm.1
        refine wSkip ?_
        refine thn_n ?_
        refine wSeq ?_
        refine wSeq ?_
        refine wRegion' ?_
        refine oAssign rfl ?_
        refine oNil ?_
        refine thn_n ?_
        refine wBlock ?_
        refine wLoop (ι := Nat) (fun i => [(0, .slice A g.length cp), (1, .slice A1 ib.length cp1), (2, .slice A2 own.length cp2), (7, .pointer (some ⟨b7, 0, none⟩)), (9, .int .i64 (i : Int))]) (fun i => [blk b7 25 [.int .i64 n0, .int .i64 n1, .int .i64 n2]]) (fun i => i ≤ own.length ∧ ∀ x ∈ own.take i, 0 ≤ x ∧ x ≤ 5000) (fun i => own.length - i) 0 ?_ (by repeat (first | exact trivial | refine And.intro rfl ?_)) (Leads.has (by repeat' (first | exact Has.nil | exact Pick.here | apply Has.cons | apply Pick.there))) ?_
        ·
          exact ⟨Nat.zero_le _, by simp⟩
        ·
          rintro i ⟨hi, hs⟩
          try dsimp only
          refine wSeq ?_
          refine wSeq ?_
          refine wRegion' ?_
          refine oMove rfl ?_
          refine oMove rfl ?_
          refine oLenS rfl rfl ?_
          refine oLss rfl rfl ?_
          refine oNil ?_
          refine thn_n ?_
          first | refine wCond rfl (fun h32 => ?_) (fun h32 => ?_) | refine wCondB rfl (fun h32 => ?_) (fun h32 => ?_)
          ·
            obtain ⟨x, hx⟩ : ∃ x, own[i]? = some x := ⟨_, List.getElem?_eq_getElem (by omega)⟩
            obtain ⟨e1, cs1, hE1⟩ := hC2.elm hx
            obtain rfl := hE1.K
            refine wSkip ?_
            refine thn_n ?_
            refine wSeq ?_
            refine wBlock ?_
            refine wSeq ?_
            refine wRegion' ?_
            refine oMove rfl ?_
            refine oMove rfl ?_
            refine oIdxE rfl rfl (hE1) (by omega) rfl rfl ?_
            have hc37 := (hE1).cell
            first | refine oLdX rfl hc37 rfl rfl ?_ | refine oLdXA rfl hc37 rfl (by repeat (first | exact SubL.done | apply SubL.take | apply SubL.drop)) ?_ | (refine oLdR1 rfl (by repeat (first | exact Pick.here | apply Pick.there)) (by omega) rfl (fun u38 hu38 => ?_))
            refine oLss rfl rfl ?_
            refine oMove rfl ?_
            first | refine oSplit (t := 40) rfl (fun h40 => ?_) (fun h40 => ?_) | refine oSplitB (t := 40) rfl (fun h40 => ?_) (fun h40 => ?_)
            ·
              refine oSkip rfl rfl rfl rfl ?_
              refine oSkip rfl rfl rfl rfl ?_
              refine oSkip rfl rfl rfl rfl ?_
              refine oSkip rfl rfl rfl rfl ?_
              refine oSkip rfl rfl rfl rfl ?_
              refine oPickT rfl rfl ?_
              refine oNil ?_
              refine thn_n ?_
              refine wCondT rfl ?_
              refine wSeq ?_
              refine wRegion' ?_
              (refine oCall rfl (by kernel_rfl) (fun w hS => frame hS (by repeat' (first | exact Split.nil | exact Pick.here | apply Split.cons | apply Pick.there)) (fun B' hB hS' => known12 hS')) ?_; rintro ⟨⟩ -)
              refine oAssign rfl ?_
              refine oNil ?_
              refine thn_n ?_
              refine wRet ?_
              refine blk_r ?_
              refine thn_r ?_
              refine thn_r ?_
              refine blk_r ?_
              refine thn_r ?_
              refine fin_r ?_
              refine ⟨rfl, _, (ResL.cons (ResR.tmp rfl) ResL.nil), ?_⟩
              exact ⟨(), trivial, rfl, (Leads.has (by repeat' (first | exact Has.nil | exact Pick.here | apply Has.cons | apply Pick.there)))⟩
            ·
              refine oWant rfl rfl ?_
              refine oMove rfl ?_
              refine oWant rfl rfl ?_
              refine oMove rfl ?_
              refine oWant rfl rfl ?_
              refine oIdxE rfl rfl (hE1) (by omega) rfl rfl ?_
              have hc43 := (hE1).cell
              refine oWant rfl rfl ?_
              first | refine oLdX rfl hc43 rfl rfl ?_ | refine oLdXA rfl hc43 rfl (by repeat (first | exact SubL.done | apply SubL.take | apply SubL.drop)) ?_ | (refine oLdR1 rfl (by repeat (first | exact Pick.here | apply Pick.there)) (by omega) rfl (fun u44 hu44 => ?_))
              refine oWant rfl rfl ?_
              refine oGtr rfl rfl ?_
              refine oPickF rfl rfl ?_
              refine oNil ?_
              refine thn_n ?_
              first | refine wCond rfl (fun h46 => ?_) (fun h46 => ?_) | refine wCondB rfl (fun h46 => ?_) (fun h46 => ?_)
              ·
                refine wSeq ?_
                refine wRegion' ?_
                (refine oCall rfl (by kernel_rfl) (fun w hS => frame hS (by repeat' (first | exact Split.nil | exact Pick.here | apply Split.cons | apply Pick.there)) (fun B' hB hS' => known12 hS')) ?_; rintro ⟨⟩ -)
                refine oAssign rfl ?_
                refine oNil ?_
                refine thn_n ?_
                refine wRet ?_
                refine blk_r ?_
                refine thn_r ?_
                refine thn_r ?_
                refine blk_r ?_
                refine thn_r ?_
                refine fin_r ?_
                refine ⟨rfl, _, (ResL.cons (ResR.tmp rfl) ResL.nil), ?_⟩
                exact ⟨(), trivial, rfl, (Leads.has (by repeat' (first | exact Has.nil | exact Pick.here | apply Has.cons | apply Pick.there)))⟩
              ·
                refine wSkip ?_
                refine blk_n ?_
                refine thn_n ?_
                refine wRegion' ?_
                refine oMove rfl ?_
                refine oSucc rfl rfl (by omega) ?_
                refine oAssign rfl ?_
                refine oNil ?_
                refine thn_n ?_
                exact ⟨rfl, i + 1, ⟨by omega, by
                rw [← take_at hx]
                intro y hy
                rcases List.mem_append.1 hy with h | h
                · exact hs y h
                · obtain rfl := List.mem_singleton.1 h
                  omega⟩, by omega, (by repeat (first | exact trivial | refine And.intro rfl ?_)), (Leads.has (by repeat' (first | exact Has.nil | exact Pick.here | apply Has.cons | apply Pick.there)))⟩
          ·
            obtain rfl : i = own.length := by omega
            rw [List.take_length] at hs
            refine wExit ?_
            refine thn_x ?_
            refine thn_x ?_
            refine blk_x ?_
            refine thn_n ?_
            refine wSeq ?_
            refine wSeq ?_
            refine wRegion' ?_
            refine oIdxA (i := 0) (m := 0) rfl rfl rfl rfl (by decide) rfl ?_
            refine oLd rfl (by repeat (first | exact Pick.here | apply Pick.there)) rfl rfl ?_
            refine oLss rfl rfl ?_
            refine oMove rfl ?_
            first | refine oSplit (t := 51) rfl (fun h51 => ?_) (fun h51 => ?_) | refine oSplitB (t := 51) rfl (fun h51 => ?_) (fun h51 => ?_)
            ·
              refine oSkip rfl rfl rfl rfl ?_
              refine oSkip rfl rfl rfl rfl ?_
              refine oSkip rfl rfl rfl rfl ?_
              refine oPickT rfl rfl ?_
              refine oMove rfl ?_
              refine oSkip rfl rfl rfl rfl ?_
              refine oSkip rfl rfl rfl rfl ?_
              refine oSkip rfl rfl rfl rfl ?_
              refine oPickT rfl rfl ?_
              refine oMove rfl ?_
              refine oSkip rfl rfl rfl rfl ?_
              refine oSkip rfl rfl rfl rfl ?_
              refine oSkip rfl rfl rfl rfl ?_
              refine oPickT rfl rfl ?_
              refine oNil ?_
              refine thn_n ?_
              refine wCondT rfl ?_
              refine wSeq ?_
              refine wRegion' ?_
              (refine oCall rfl (by kernel_rfl) (fun w hS => frame hS (by repeat' (first | exact Split.nil | exact Pick.here | apply Split.cons | apply Pick.there)) (fun B' hB hS' => known12 hS')) ?_; rintro ⟨⟩ -)
              refine oAssign rfl ?_
              refine oNil ?_
              refine thn_n ?_
              refine wRet ?_
              refine thn_r ?_
              refine fin_r ?_
              refine ⟨rfl, _, (ResL.cons (ResR.tmp rfl) ResL.nil), ?_⟩
              exact ⟨(), trivial, rfl, (Leads.has (by repeat' (first | exact Has.nil | exact Pick.here | apply Has.cons | apply Pick.there)))⟩
            ·
              refine oWant rfl rfl ?_
              refine oIdxA (i := 0) (m := 0) rfl rfl rfl rfl (by decide) rfl ?_
              refine oWant rfl rfl ?_
              refine oLd rfl (by repeat (first | exact Pick.here | apply Pick.there)) rfl rfl ?_
              refine oWant rfl rfl ?_
              refine oGtr rfl rfl ?_
              refine oPickF rfl rfl ?_
              refine oMove rfl ?_
              first | refine oSplit (t := 56) rfl (fun h56 => ?_) (fun h56 => ?_) | refine oSplitB (t := 56) rfl (fun h56 => ?_) (fun h56 => ?_)
              ·
                refine oSkip rfl rfl rfl rfl ?_
                refine oSkip rfl rfl rfl rfl ?_
                refine oSkip rfl rfl rfl rfl ?_
                refine oPickT rfl rfl ?_
                refine oMove rfl ?_
                refine oSkip rfl rfl rfl rfl ?_
                refine oSkip rfl rfl rfl rfl ?_
                refine oSkip rfl rfl rfl rfl ?_
                refine oPickT rfl rfl ?_
                refine oNil ?_
                refine thn_n ?_
                refine wCondT rfl ?_
                refine wSeq ?_
                refine wRegion' ?_
                (refine oCall rfl (by kernel_rfl) (fun w hS => frame hS (by repeat' (first | exact Split.nil | exact Pick.here | apply Split.cons | apply Pick.there)) (fun B' hB hS' => known12 hS')) ?_; rintro ⟨⟩ -)
                refine oAssign rfl ?_
                refine oNil ?_
                refine thn_n ?_
                refine wRet ?_
                refine thn_r ?_
                refine fin_r ?_
                refine ⟨rfl, _, (ResL.cons (ResR.tmp rfl) ResL.nil), ?_⟩
                exact ⟨(), trivial, rfl, (Leads.has (by repeat' (first | exact Has.nil | exact Pick.here | apply Has.cons | apply Pick.there)))⟩
              ·
                refine oWant rfl rfl ?_
                refine oIdxA (i := 1) (m := 1) rfl rfl rfl rfl (by decide) rfl ?_
                refine oWant rfl rfl ?_
                refine oLd rfl (by repeat (first | exact Pick.here | apply Pick.there)) rfl rfl ?_
                refine oWant rfl rfl ?_
                refine oLss rfl rfl ?_
                refine oPickF rfl rfl ?_
                refine oMove rfl ?_
                first | refine oSplit (t := 61) rfl (fun h61 => ?_) (fun h61 => ?_) | refine oSplitB (t := 61) rfl (fun h61 => ?_) (fun h61 => ?_)
                ·
                  refine oSkip rfl rfl rfl rfl ?_
                  refine oSkip rfl rfl rfl rfl ?_
                  refine oSkip rfl rfl rfl rfl ?_
                  refine oPickT rfl rfl ?_
                  refine oNil ?_
                  refine thn_n ?_
                  refine wCondT rfl ?_
                  refine wSeq ?_
                  refine wRegion' ?_
                  (refine oCall rfl (by kernel_rfl) (fun w hS => frame hS (by repeat' (first | exact Split.nil | exact Pick.here | apply Split.cons | apply Pick.there)) (fun B' hB hS' => known12 hS')) ?_; rintro ⟨⟩ -)
                  refine oAssign rfl ?_
                  refine oNil ?_
                  refine thn_n ?_
                  refine wRet ?_
                  refine thn_r ?_
                  refine fin_r ?_
                  refine ⟨rfl, _, (ResL.cons (ResR.tmp rfl) ResL.nil), ?_⟩
                  exact ⟨(), trivial, rfl, (Leads.has (by repeat' (first | exact Has.nil | exact Pick.here | apply Has.cons | apply Pick.there)))⟩
                ·
                  refine oWant rfl rfl ?_
                  refine oIdxA (i := 1) (m := 1) rfl rfl rfl rfl (by decide) rfl ?_
                  refine oWant rfl rfl ?_
                  refine oLd rfl (by repeat (first | exact Pick.here | apply Pick.there)) rfl rfl ?_
                  refine oWant rfl rfl ?_
                  refine oGtr rfl rfl ?_
                  refine oPickF rfl rfl ?_
                  refine oNil ?_
                  refine thn_n ?_
                  first | refine wCond rfl (fun h65 => ?_) (fun h65 => ?_) | refine wCondB rfl (fun h65 => ?_) (fun h65 => ?_)
                  ·
                    refine wSeq ?_
                    refine wRegion' ?_
                    (refine oCall rfl (by kernel_rfl) (fun w hS => frame hS (by repeat' (first | exact Split.nil | exact Pick.here | apply Split.cons | apply Pick.there)) (fun B' hB hS' => known12 hS')) ?_; rintro ⟨⟩ -)
                    refine oAssign rfl ?_
                    refine oNil ?_
                    refine thn_n ?_
                    refine wRet ?_
                    refine thn_r ?_
                    refine fin_r ?_
                    refine ⟨rfl, _, (ResL.cons (ResR.tmp rfl) ResL.nil), ?_⟩
                    exact ⟨(), trivial, rfl, (Leads.has (by repeat' (first | exact Has.nil | exact Pick.here | apply Has.cons | apply Pick.there)))⟩
                  ·
                    have hmk : Meek own n0 n1 := ⟨hs, by omega, by omega⟩
                    refine wSkip ?_
                    refine thn_n ?_
                    refine wSeq ?_
                    refine wRegion' ?_
                    refine oMove rfl ?_
                    refine oMove rfl ?_
                    refine oMove rfl ?_
                    refine oIdxA (i := 0) (m := 0) rfl rfl rfl rfl (by decide) rfl ?_
                    refine oLd rfl (by repeat (first | exact Pick.here | apply Pick.there)) rfl rfl ?_
                    refine oIdxA (i := 1) (m := 1) rfl rfl rfl rfl (by decide) rfl ?_
                    refine oLd rfl (by repeat (first | exact Pick.here | apply Pick.there)) rfl rfl ?_
                    (refine oCall rfl (by kernel_rfl) (fun w hS => frame hS (by repeat' (first | exact Split.nil | exact Pick.here | apply Split.cons | apply Pick.there)) (fun B' hB hS' => depthsP hS' g A cp (Kd.C_grow hB hC) hsm ib A1 cp1 (Kd.C_grow hB hC1) (by omega) own A2 cp2 (Kd.C_grow hB hC2) n0 n1 B.e)) ?_; rintro ⟨A75, c75⟩ -)
                    refine oMove rfl ?_
                    refine oExt rfl (by repeat (first | exact GetAt.here | apply GetAt.there)) ?_
                    refine oExt rfl (by repeat (first | exact GetAt.here | apply GetAt.there)) ?_
                    refine oAssign rfl ?_
                    refine oAssign rfl ?_
                    refine oNil ?_
                    refine thn_n ?_
                    refine wSeq ?_
                    refine wRegion' ?_
                    refine oMove rfl ?_
                    refine oMove rfl ?_
                    refine oMove rfl ?_
                    refine oIdxA (i := 0) (m := 0) rfl rfl rfl rfl (by decide) rfl ?_
                    refine oLd rfl (by repeat (first | exact Pick.here | apply Pick.there)) rfl rfl ?_
                    refine oIdxA (i := 1) (m := 1) rfl rfl rfl rfl (by decide) rfl ?_
                    refine oLd rfl (by repeat (first | exact Pick.here | apply Pick.there)) rfl rfl ?_
                    refine oIdxA (i := 2) (m := 2) rfl rfl rfl rfl (by decide) rfl ?_
                    refine oLd rfl (by repeat (first | exact Pick.here | apply Pick.there)) rfl rfl ?_
                    (refine oCall rfl (by kernel_rfl) (fun w hS => frame hS (by repeat' (first | exact Split.nil | exact Pick.here | apply Split.cons | apply Pick.there)) (fun B' hB hS' => worstP hS' g A cp (Kd.C_grow hB hC) hsm ib A1 cp1 (Kd.C_grow hB hC1) (by omega) own A2 cp2 (Kd.C_grow hB hC2) n0 n1 n2 B.e)) ?_; rintro ⟨A87, c87⟩ -)
                    refine oAssign rfl ?_
                    refine oNil ?_
                    refine thn_n ?_
                    refine wFreeze [row (Kd.int .i64) B.e 3 (.slice A75 (DLo g ib own n0 n1).length c75) (DLo g ib own n0 n1), row (Kd.int .i64) B.e 3 (.slice A87 (wsL g ib own n0 n1 n2).length c87) (wsL g ib own n0 n1 n2)] (by repeat' (first | exact Split.nil | exact Pick.here | apply Split.cons | apply Pick.there)) (fun B1 hB1 hq1 => ?_)
                    have hCD := (row_C (kd := Kd.int .i64) (W := B.e) (e := 3) (A := A75) (n := (DLo g ib own n0 n1).length) (cp := c75) (xs := DLo g ib own n0 n1) (hq1 _ _ (by repeat (first | exact Pick.here | apply Pick.there))) hB1).2.2.1
                    have hCW := (row_C (kd := Kd.int .i64) (W := B.e) (e := 3) (A := A87) (n := (wsL g ib own n0 n1 n2).length) (cp := c87) (xs := wsL g ib own n0 n1 n2) (hq1 _ _ (by repeat (first | exact Pick.here | apply Pick.there))) hB1).2.2.1
                    have hC := Kd.C_grow hB1 hC
                    have hC1 := Kd.C_grow hB1 hC1
                    have hC2 := Kd.C_grow hB1 hC2
                    refine wSeq ?_
                    refine wSeq ?_
                    refine wRegion' ?_
                    refine oMove rfl ?_
                    first | refine oNot rfl ?_ | refine oNotB rfl ?_
                    refine oMove rfl ?_
                    first | refine oSplit (t := 90) rfl (fun h90 => ?_) (fun h90 => ?_) | refine oSplitB (t := 90) rfl (fun h90 => ?_) (fun h90 => ?_)
                    ·
                      rw [wsL_no (.inl (decide_eq_false h90))]
                      refine oSkip rfl rfl rfl rfl ?_
                      refine oSkip rfl rfl rfl rfl ?_
                      refine oSkip rfl rfl rfl rfl ?_
                      refine oPickT rfl rfl ?_
                      refine oMove rfl ?_
                      refine oSkip rfl rfl rfl rfl ?_
                      refine oSkip rfl rfl rfl rfl ?_
                      refine oSkip rfl rfl rfl rfl ?_
                      refine oSkip rfl rfl rfl rfl ?_
                      refine oSkip rfl rfl rfl rfl ?_
                      refine oPickT rfl rfl ?_
                      refine oNil ?_
                      refine thn_n ?_
                      refine wCondT rfl ?_
                      refine wSeq ?_
                      refine wRegion' ?_
                      refine oMove rfl ?_
                      refine oLenS rfl rfl ?_
                      refine oEql rfl rfl ?_
                      refine oMove rfl ?_
                      first | refine oSplit (t := 105) rfl (fun h105 => ?_) (fun h105 => ?_) | refine oSplitB (t := 105) rfl (fun h105 => ?_) (fun h105 => ?_)
                      ·
                        refine oWant rfl rfl ?_
                        (refine oCall rfl (by kernel_rfl) (fun w hS => frame hS (by repeat' (first | exact Split.nil | exact Pick.here | apply Split.cons | apply Pick.there)) (fun B' hB hS' => known12 hS')) ?_; rintro ⟨⟩ -)
                        refine oPickT rfl rfl ?_
                        refine oAssign rfl ?_
                        refine oNil ?_
                        refine thn_n ?_
                        refine wRet ?_
                        refine thn_r ?_
                        refine fin_r ?_
                        refine ⟨rfl, _, (ResL.cons (ResR.tmp rfl) ResL.nil), ?_⟩
                        exact ⟨(), trivial, rfl, (Leads.has (by repeat' (first | exact Has.nil | exact Pick.here | apply Has.cons | apply Pick.there)))⟩
                      ·
                        exact absurd rfl h105
                    ·
                      refine oWant rfl rfl ?_
                      refine oIdxA (i := 2) (m := 2) rfl rfl rfl rfl (by decide) rfl ?_
                      refine oWant rfl rfl ?_
                      refine oLd rfl (by repeat (first | exact Pick.here | apply Pick.there)) rfl rfl ?_
                      refine oWant rfl rfl ?_
                      refine oLss rfl rfl ?_
                      refine oPickF rfl rfl ?_
                      refine oMove rfl ?_
                      first | refine oSplit (t := 95) rfl (fun h95 => ?_) (fun h95 => ?_) | refine oSplitB (t := 95) rfl (fun h95 => ?_) (fun h95 => ?_)
                      ·
                        rw [wsL_no (.inr (.inl (by omega)))]
                        refine oSkip rfl rfl rfl rfl ?_
                        refine oSkip rfl rfl rfl rfl ?_
                        refine oSkip rfl rfl rfl rfl ?_
                        refine oSkip rfl rfl rfl rfl ?_
                        refine oSkip rfl rfl rfl rfl ?_
                        refine oPickT rfl rfl ?_
                        refine oNil ?_
                        refine thn_n ?_
                        refine wCondT rfl ?_
                        refine wSeq ?_
                        refine wRegion' ?_
                        refine oMove rfl ?_
                        refine oLenS rfl rfl ?_
                        refine oEql rfl rfl ?_
                        refine oMove rfl ?_
                        first | refine oSplit (t := 105) rfl (fun h105 => ?_) (fun h105 => ?_) | refine oSplitB (t := 105) rfl (fun h105 => ?_) (fun h105 => ?_)
                        ·
                          refine oWant rfl rfl ?_
                          (refine oCall rfl (by kernel_rfl) (fun w hS => frame hS (by repeat' (first | exact Split.nil | exact Pick.here | apply Split.cons | apply Pick.there)) (fun B' hB hS' => known12 hS')) ?_; rintro ⟨⟩ -)
                          refine oPickT rfl rfl ?_
                          refine oAssign rfl ?_
                          refine oNil ?_
                          refine thn_n ?_
                          refine wRet ?_
                          refine thn_r ?_
                          refine fin_r ?_
                          refine ⟨rfl, _, (ResL.cons (ResR.tmp rfl) ResL.nil), ?_⟩
                          exact ⟨(), trivial, rfl, (Leads.has (by repeat' (first | exact Has.nil | exact Pick.here | apply Has.cons | apply Pick.there)))⟩
                        ·
                          exact absurd rfl h105
                      ·
                        refine oWant rfl rfl ?_
                        refine oIdxA (i := 2) (m := 2) rfl rfl rfl rfl (by decide) rfl ?_
                        refine oWant rfl rfl ?_
                        refine oLd rfl (by repeat (first | exact Pick.here | apply Pick.there)) rfl rfl ?_
                        refine oWant rfl rfl ?_
                        refine oMove rfl ?_
                        refine oWant rfl rfl ?_
                        refine oLenS rfl rfl ?_
                        refine oWant rfl rfl ?_
                        refine oGeq rfl rfl ?_
                        refine oPickF rfl rfl ?_
                        refine oNil ?_
                        refine thn_n ?_
                        first | refine wCond rfl (fun h101 => ?_) (fun h101 => ?_) | refine wCondB rfl (fun h101 => ?_) (fun h101 => ?_)
                        ·
                          rw [wsL_no (.inr (.inr (by omega)))]
                          refine wSeq ?_
                          refine wRegion' ?_
                          refine oMove rfl ?_
                          refine oLenS rfl rfl ?_
                          refine oEql rfl rfl ?_
                          refine oMove rfl ?_
                          first | refine oSplit (t := 105) rfl (fun h105 => ?_) (fun h105 => ?_) | refine oSplitB (t := 105) rfl (fun h105 => ?_) (fun h105 => ?_)
                          ·
                            refine oWant rfl rfl ?_
                            (refine oCall rfl (by kernel_rfl) (fun w hS => frame hS (by repeat' (first | exact Split.nil | exact Pick.here | apply Split.cons | apply Pick.there)) (fun B' hB hS' => known12 hS')) ?_; rintro ⟨⟩ -)
                            refine oPickT rfl rfl ?_
                            refine oAssign rfl ?_
                            refine oNil ?_
                            refine thn_n ?_
                            refine wRet ?_
                            refine thn_r ?_
                            refine fin_r ?_
                            refine ⟨rfl, _, (ResL.cons (ResR.tmp rfl) ResL.nil), ?_⟩
                            exact ⟨(), trivial, rfl, (Leads.has (by repeat' (first | exact Has.nil | exact Pick.here | apply Has.cons | apply Pick.there)))⟩
                          ·
                            exact absurd rfl h105
                        ·
                          have hok : okO g ib = true := decide_eq_true (Classical.not_not.1 h90)
                          obtain ⟨k, rfl⟩ := Int.eq_ofNat_of_zero_le (show 0 ≤ n2 by omega)
                          have hkl : k < g.length := by omega
                          rw [wsL_yes hok hkl, DLo_ok hok] at *
                          have hWl := wy_len (g := g) (ib := ib) (D := DL g ib own n0 n1) (g.length + 1) k
                          have hWi := wy_in (g := g) (ib := ib) (D := DL g ib own n0 n1) (g.length + 1) k hkl
                          have hW0 := wy_head (g := g) (ib := ib) (D := DL g ib own n0 n1) (f := g.length + 1) (a := k) (by omega)
                          have hco := hmk.cost hok hn (g.length + 1) k hkl (by have := rk_le (g := g) (ib := ib) k; omega)
                          generalize hWe : wy g ib (DL g ib own n0 n1) (g.length + 1) k = W at *
                          have hWp : 0 < W.length := by obtain ⟨h, _⟩ := List.getElem?_eq_some_iff.1 hW0; exact h
                          obtain ⟨e8, cs8, hE8⟩ := hCW.elm hW0
                          obtain rfl := hE8.K
                          obtain ⟨e9, cs9, hE9⟩ := hCD.elm (show (DL g ib own n0 n1)[k]? = some ((DL g ib own n0 n1).getD k 0) by rw [List.getD_eq_getElem?_getD, List.getElem?_eq_getElem (by rw [DL_len]; exact hkl)]; rfl)
                          obtain rfl := hE9.K
                          refine wSkip ?_
                          refine thn_n ?_
                          refine wSeq ?_
                          refine wRegion' ?_
                          refine oAssign rfl ?_
                          refine oSet (t := 13) (v' := .int .i64 (cw g ib own n0 n1 (W.take 0))) rfl (by rw [List.take_zero, cw_nil]) ?_
                          refine oNil ?_
                          refine thn_n ?_
                          refine wSeq ?_
                          refine wSeq ?_
                          refine wRegion' ?_
                          refine oAssign rfl ?_
                          refine oNil ?_
                          refine thn_n ?_
                          refine wBlock ?_
                          refine wLoop (ι := Nat) (fun i => [(0, .slice A g.length cp), (1, .slice A1 ib.length cp1), (2, .slice A2 own.length cp2), (7, .pointer (some ⟨b7, 0, none⟩)), (10, .slice A75 (DL g ib own n0 n1).length c75), (12, .slice A87 W.length c87), (13, .int .i64 (cw g ib own n0 n1 (W.take i))), (14, .int .i64 (i : Int))]) (fun i => [blk b7 25 [.int .i64 n0, .int .i64 n1, .int .i64 (k : Int)]]) (fun i => i ≤ W.length) (fun i => W.length - i) 0 ?_ (by repeat (first | exact trivial | refine And.intro rfl ?_)) (Leads.has (by repeat' (first | exact Has.nil | exact Pick.here | apply Has.cons | apply Pick.there))) ?_
                          ·
                            exact Nat.zero_le _
                          ·
                            rintro i hi
                            have hbd := hmk.bound (g := g) (ib := ib) (W.take i)
                            have htl : (W.take i).length = i := by rw [List.length_take]; omega
                            have hmr := hmk.rest
                            have hms := hmk.step
                            rw [htl] at hbd
                            try dsimp only
                            refine wSeq ?_
                            refine wSeq ?_
                            refine wRegion' ?_
                            refine oMove rfl ?_
                            refine oMove rfl ?_
                            refine oLenS rfl rfl ?_
                            refine oLss rfl rfl ?_
                            refine oNil ?_
                            refine thn_n ?_
                            first | refine wCond rfl (fun h111 => ?_) (fun h111 => ?_) | refine wCondB rfl (fun h111 => ?_) (fun h111 => ?_)
                            ·
                              obtain ⟨x, hx⟩ : ∃ x, W[i]? = some x := ⟨_, List.getElem?_eq_getElem (by omega)⟩
                              have htk := take_at hx
                              obtain ⟨c, rfl, hcl⟩ := hWi x (List.mem_of_getElem? hx)
                              obtain ⟨e2, cs2, hE2⟩ := hCW.elm hx
                              obtain rfl := hE2.K
                              have hsn := cw_snoc (g := g) (ib := ib) (own := own) (rest := n0) (step := n1) (l := W.take i) (x := (c : Int))
                              rw [htk, htl] at hsn
                              have hma := hmk.at c
                              refine wSkip ?_
                              refine thn_n ?_
                              refine wSeq ?_
                              refine wBlock ?_
                              refine wSeq ?_
                              refine wSeq ?_
                              refine wRegion' ?_
                              refine oMove rfl ?_
                              refine oGtr rfl rfl ?_
                              refine oNil ?_
                              refine thn_n ?_
                              first | refine wCond rfl (fun h115 => ?_) (fun h115 => ?_) | refine wCondB rfl (fun h115 => ?_) (fun h115 => ?_)
                              ·
                                rw [if_pos (by omega)] at hsn
                                refine wRegion' ?_
                                refine oMove rfl ?_
                                refine oIdxA (i := 1) (m := 1) rfl rfl rfl rfl (by decide) rfl ?_
                                refine oLd rfl (by repeat (first | exact Pick.here | apply Pick.there)) rfl rfl ?_
                                first | refine oAdd rfl rfl (by omega) ?_ | refine oAddW rfl rfl ?_
                                refine oAssign rfl ?_
                                skip
                                refine oNil ?_
                                refine thn_n ?_
                                refine wSeq ?_
                                refine wRegion' ?_
                                refine oMove rfl ?_
                                refine oMove rfl ?_
                                refine oMove rfl ?_
                                refine oMove rfl ?_
                                refine oIdxE rfl rfl (hE2) (by omega) rfl rfl ?_
                                have hc124 := (hE2).cell
                                first | refine oLdX rfl hc124 rfl rfl ?_ | refine oLdXA rfl hc124 rfl (by repeat (first | exact SubL.done | apply SubL.take | apply SubL.drop)) ?_ | (refine oLdR1 rfl (by repeat (first | exact Pick.here | apply Pick.there)) (by omega) rfl (fun u125 hu125 => ?_))
                                (refine oCall rfl (by kernel_rfl) (fun w hS => frame hS (by repeat' (first | exact Split.nil | exact Pick.here | apply Split.cons | apply Pick.there)) (fun B' hB hS' => member_any hS' A cp g A1 cp1 ib (Kd.C_grow hB hC1) (c : Int))) ?_; rintro ⟨⟩ -)
                                first | refine oNot rfl ?_ | refine oNotB rfl ?_
                                refine oNil ?_
                                refine thn_n ?_
                                first | refine wCond rfl (fun h127 => ?_) (fun h127 => ?_) | refine wCondB rfl (fun h127 => ?_) (fun h127 => ?_)
                                ·
                                  have hnd : nodeC g ib own n0 (c : Int) = n0 := by unfold nodeC; rw [if_neg (by simpa using h127)]
                                  refine wRegion' ?_
                                  refine oMove rfl ?_
                                  refine oIdxA (i := 0) (m := 0) rfl rfl rfl rfl (by decide) rfl ?_
                                  refine oLd rfl (by repeat (first | exact Pick.here | apply Pick.there)) rfl rfl ?_
                                  first | refine oAdd rfl rfl (by omega) ?_ | refine oAddW rfl rfl ?_
                                  refine oAssign rfl ?_
                                  skip
                                  refine oNil ?_
                                  refine blk_n ?_
                                  refine thn_n ?_
                                  refine wRegion' ?_
                                  refine oMove rfl ?_
                                  refine oSet (t := 13) (v' := .int .i64 (cw g ib own n0 n1 (W.take (i + 1)))) rfl (by rw [hsn, hnd]) ?_
                                  refine oSucc rfl rfl (by omega) ?_
                                  refine oAssign rfl ?_
                                  refine oNil ?_
                                  refine thn_n ?_
                                  exact ⟨rfl, i + 1, by omega, by omega, (by repeat (first | exact trivial | refine And.intro rfl ?_)), (Leads.has (by repeat' (first | exact Has.nil | exact Pick.here | apply Has.cons | apply Pick.there)))⟩
                                ·
                                  refine wSeq ?_
                                  refine wRegion' ?_
                                  refine oMove rfl ?_
                                  refine oMove rfl ?_
                                  refine oIdxE rfl rfl (hE2) (by omega) rfl rfl ?_
                                  have hc134 := (hE2).cell
                                  first | refine oLdX rfl hc134 rfl rfl ?_ | refine oLdXA rfl hc134 rfl (by repeat (first | exact SubL.done | apply SubL.take | apply SubL.drop)) ?_ | (refine oLdR1 rfl (by repeat (first | exact Pick.here | apply Pick.there)) (by omega) rfl (fun u135 hu135 => ?_))
                                  refine oMove rfl ?_
                                  refine oLenS rfl rfl ?_
                                  refine oLss rfl rfl ?_
                                  refine oNil ?_
                                  refine thn_n ?_
                                  first | refine wCond rfl (fun h138 => ?_) (fun h138 => ?_) | refine wCondB rfl (fun h138 => ?_) (fun h138 => ?_)
                                  ·
                                    have hnd : nodeC g ib own n0 (c : Int) = own.getD c 0 := by unfold nodeC; rw [if_pos (by simpa using h127), if_pos (by omega), Int.toNat_natCast]
                                    obtain ⟨e3, cs3, hE3⟩ := hC2.elm (show own[c]? = some (own.getD c 0) by rw [List.getD_eq_getElem?_getD, List.getElem?_eq_getElem (by omega)]; rfl)
                                    obtain rfl := hE3.K
                                    refine wRegion' ?_
                                    refine oMove rfl ?_
                                    refine oMove rfl ?_
                                    refine oMove rfl ?_
                                    refine oMove rfl ?_
                                    refine oIdxE rfl rfl (hE2) (by omega) rfl rfl ?_
                                    have hc143 := (hE2).cell
                                    first | refine oLdX rfl hc143 rfl rfl ?_ | refine oLdXA rfl hc143 rfl (by repeat (first | exact SubL.done | apply SubL.take | apply SubL.drop)) ?_ | (refine oLdR1 rfl (by repeat (first | exact Pick.here | apply Pick.there)) (by omega) rfl (fun u144 hu144 => ?_))
                                    refine oIdxE rfl rfl (hE3) (by omega) rfl rfl ?_
                                    have hc145 := (hE3).cell
                                    first | refine oLdX rfl hc145 rfl rfl ?_ | refine oLdXA rfl hc145 rfl (by repeat (first | exact SubL.done | apply SubL.take | apply SubL.drop)) ?_ | (refine oLdR1 rfl (by repeat (first | exact Pick.here | apply Pick.there)) (by omega) rfl (fun u146 hu146 => ?_))
                                    first | refine oAdd rfl rfl (by omega) ?_ | refine oAddW rfl rfl ?_
                                    refine oAssign rfl ?_
                                    skip
                                    refine oNil ?_
                                    refine blk_n ?_
                                    refine thn_n ?_
                                    refine wRegion' ?_
                                    refine oMove rfl ?_
                                    refine oSet (t := 13) (v' := .int .i64 (cw g ib own n0 n1 (W.take (i + 1)))) rfl (by rw [hsn, hnd]) ?_
                                    refine oSucc rfl rfl (by omega) ?_
                                    refine oAssign rfl ?_
                                    refine oNil ?_
                                    refine thn_n ?_
                                    exact ⟨rfl, i + 1, by omega, by omega, (by repeat (first | exact trivial | refine And.intro rfl ?_)), (Leads.has (by repeat' (first | exact Has.nil | exact Pick.here | apply Has.cons | apply Pick.there)))⟩
                                  ·
                                    have hnd : nodeC g ib own n0 (c : Int) = 0 := by unfold nodeC; rw [if_pos (by simpa using h127), if_neg (by omega)]
                                    refine wSkip ?_
                                    refine blk_n ?_
                                    refine thn_n ?_
                                    refine wRegion' ?_
                                    refine oMove rfl ?_
                                    refine oSet (t := 13) (v' := .int .i64 (cw g ib own n0 n1 (W.take (i + 1)))) rfl (by rw [hsn, hnd, Int.add_zero]) ?_
                                    refine oSucc rfl rfl (by omega) ?_
                                    refine oAssign rfl ?_
                                    refine oNil ?_
                                    refine thn_n ?_
                                    exact ⟨rfl, i + 1, by omega, by omega, (by repeat (first | exact trivial | refine And.intro rfl ?_)), (Leads.has (by repeat' (first | exact Has.nil | exact Pick.here | apply Has.cons | apply Pick.there)))⟩
                              ·
                                rw [if_neg (by omega), Int.add_zero] at hsn
                                refine wSkip ?_
                                refine thn_n ?_
                                refine wSeq ?_
                                refine wRegion' ?_
                                refine oMove rfl ?_
                                refine oMove rfl ?_
                                refine oMove rfl ?_
                                refine oMove rfl ?_
                                refine oIdxE rfl rfl (hE2) (by omega) rfl rfl ?_
                                have hc124 := (hE2).cell
                                first | refine oLdX rfl hc124 rfl rfl ?_ | refine oLdXA rfl hc124 rfl (by repeat (first | exact SubL.done | apply SubL.take | apply SubL.drop)) ?_ | (refine oLdR1 rfl (by repeat (first | exact Pick.here | apply Pick.there)) (by omega) rfl (fun u125 hu125 => ?_))
                                (refine oCall rfl (by kernel_rfl) (fun w hS => frame hS (by repeat' (first | exact Split.nil | exact Pick.here | apply Split.cons | apply Pick.there)) (fun B' hB hS' => member_any hS' A cp g A1 cp1 ib (Kd.C_grow hB hC1) (c : Int))) ?_; rintro ⟨⟩ -)
                                first | refine oNot rfl ?_ | refine oNotB rfl ?_
                                refine oNil ?_
                                refine thn_n ?_
                                first | refine wCond rfl (fun h127 => ?_) (fun h127 => ?_) | refine wCondB rfl (fun h127 => ?_) (fun h127 => ?_)
                                ·
                                  have hnd : nodeC g ib own n0 (c : Int) = n0 := by unfold nodeC; rw [if_neg (by simpa using h127)]
                                  refine wRegion' ?_
                                  refine oMove rfl ?_
                                  refine oIdxA (i := 0) (m := 0) rfl rfl rfl rfl (by decide) rfl ?_
                                  refine oLd rfl (by repeat (first | exact Pick.here | apply Pick.there)) rfl rfl ?_
                                  first | refine oAdd rfl rfl (by omega) ?_ | refine oAddW rfl rfl ?_
                                  refine oAssign rfl ?_
                                  skip
                                  refine oNil ?_
                                  refine blk_n ?_
                                  refine thn_n ?_
                                  refine wRegion' ?_
                                  refine oMove rfl ?_
                                  refine oSet (t := 13) (v' := .int .i64 (cw g ib own n0 n1 (W.take (i + 1)))) rfl (by rw [hsn, hnd]) ?_
                                  refine oSucc rfl rfl (by omega) ?_
                                  refine oAssign rfl ?_
                                  refine oNil ?_
                                  refine thn_n ?_
                                  exact ⟨rfl, i + 1, by omega, by omega, (by repeat (first | exact trivial | refine And.intro rfl ?_)), (Leads.has (by repeat' (first | exact Has.nil | exact Pick.here | apply Has.cons | apply Pick.there)))⟩
                                ·
                                  refine wSeq ?_
                                  refine wRegion' ?_
                                  refine oMove rfl ?_
                                  refine oMove rfl ?_
                                  refine oIdxE rfl rfl (hE2) (by omega) rfl rfl ?_
                                  have hc134 := (hE2).cell
                                  first | refine oLdX rfl hc134 rfl rfl ?_ | refine oLdXA rfl hc134 rfl (by repeat (first | exact SubL.done | apply SubL.take | apply SubL.drop)) ?_ | (refine oLdR1 rfl (by repeat (first | exact Pick.here | apply Pick.there)) (by omega) rfl (fun u135 hu135 => ?_))
                                  refine oMove rfl ?_
                                  refine oLenS rfl rfl ?_
                                  refine oLss rfl rfl ?_
                                  refine oNil ?_
                                  refine thn_n ?_
                                  first | refine wCond rfl (fun h138 => ?_) (fun h138 => ?_) | refine wCondB rfl (fun h138 => ?_) (fun h138 => ?_)
                                  ·
                                    have hnd : nodeC g ib own n0 (c : Int) = own.getD c 0 := by unfold nodeC; rw [if_pos (by simpa using h127), if_pos (by omega), Int.toNat_natCast]
                                    obtain ⟨e3, cs3, hE3⟩ := hC2.elm (show own[c]? = some (own.getD c 0) by rw [List.getD_eq_getElem?_getD, List.getElem?_eq_getElem (by omega)]; rfl)
                                    obtain rfl := hE3.K
                                    refine wRegion' ?_
                                    refine oMove rfl ?_
                                    refine oMove rfl ?_
                                    refine oMove rfl ?_
                                    refine oMove rfl ?_
                                    refine oIdxE rfl rfl (hE2) (by omega) rfl rfl ?_
                                    have hc143 := (hE2).cell
                                    first | refine oLdX rfl hc143 rfl rfl ?_ | refine oLdXA rfl hc143 rfl (by repeat (first | exact SubL.done | apply SubL.take | apply SubL.drop)) ?_ | (refine oLdR1 rfl (by repeat (first | exact Pick.here | apply Pick.there)) (by omega) rfl (fun u144 hu144 => ?_))
                                    refine oIdxE rfl rfl (hE3) (by omega) rfl rfl ?_
                                    have hc145 := (hE3).cell
                                    first | refine oLdX rfl hc145 rfl rfl ?_ | refine oLdXA rfl hc145 rfl (by repeat (first | exact SubL.done | apply SubL.take | apply SubL.drop)) ?_ | (refine oLdR1 rfl (by repeat (first | exact Pick.here | apply Pick.there)) (by omega) rfl (fun u146 hu146 => ?_))
                                    first | refine oAdd rfl rfl (by omega) ?_ | refine oAddW rfl rfl ?_
                                    refine oAssign rfl ?_
                                    skip
                                    refine oNil ?_
                                    refine blk_n ?_
                                    refine thn_n ?_
                                    refine wRegion' ?_
                                    refine oMove rfl ?_
                                    refine oSet (t := 13) (v' := .int .i64 (cw g ib own n0 n1 (W.take (i + 1)))) rfl (by rw [hsn, hnd]) ?_
                                    refine oSucc rfl rfl (by omega) ?_
                                    refine oAssign rfl ?_
                                    refine oNil ?_
                                    refine thn_n ?_
                                    exact ⟨rfl, i + 1, by omega, by omega, (by repeat (first | exact trivial | refine And.intro rfl ?_)), (Leads.has (by repeat' (first | exact Has.nil | exact Pick.here | apply Has.cons | apply Pick.there)))⟩
                                  ·
                                    have hnd : nodeC g ib own n0 (c : Int) = 0 := by unfold nodeC; rw [if_pos (by simpa using h127), if_neg (by omega)]
                                    refine wSkip ?_
                                    refine blk_n ?_
                                    refine thn_n ?_
                                    refine wRegion' ?_
                                    refine oMove rfl ?_
                                    refine oSet (t := 13) (v' := .int .i64 (cw g ib own n0 n1 (W.take (i + 1)))) rfl (by rw [hsn, hnd, Int.add_zero]) ?_
                                    refine oSucc rfl rfl (by omega) ?_
                                    refine oAssign rfl ?_
                                    refine oNil ?_
                                    refine thn_n ?_
                                    exact ⟨rfl, i + 1, by omega, by omega, (by repeat (first | exact trivial | refine And.intro rfl ?_)), (Leads.has (by repeat' (first | exact Has.nil | exact Pick.here | apply Has.cons | apply Pick.there)))⟩
                            ·
                              obtain rfl : i = W.length := by omega
                              rw [List.take_length, hco]
                              refine wExit ?_
                              refine thn_x ?_
                              refine thn_x ?_
                              refine blk_x ?_
                              refine thn_n ?_
                              refine wSeq ?_
                              refine wDrawG rfl [0, 1, 2, 3, 4, 5, 6, 7, 8, 9, 10, 11, 12, 13, 14, 15, 16, 17, 18, 19, 20] [(21, [], [])] [22, 23] 24 (by kernel_rfl) rfl rfl (fun w0 => ?_)
                              refine oMove rfl ?_
                              refine oLenS rfl rfl ?_
                              refine oGtr rfl rfl ?_
                              refine oMove rfl ?_
                              first | refine oSplit (t := 151) rfl (fun h151 => ?_) (fun h151 => ?_) | refine oSplitB (t := 151) rfl (fun h151 => ?_) (fun h151 => ?_)
                              ·
                                refine oWant rfl rfl ?_
                                refine oMove rfl ?_
                                refine oWant rfl rfl ?_
                                refine oIdxE rfl rfl (hE8) (by omega) rfl rfl ?_
                                have hc153 := (hE8).cell
                                refine oWant rfl rfl ?_
                                first | refine oLdX rfl hc153 rfl rfl ?_ | refine oLdXA rfl hc153 rfl (by repeat (first | exact SubL.done | apply SubL.take | apply SubL.drop)) ?_ | (refine oLdR1 rfl (by repeat (first | exact Pick.here | apply Pick.there)) (by omega) rfl (fun u154 hu154 => ?_))
                                refine oWant rfl rfl ?_
                                refine oIdxA (i := 2) (m := 2) rfl rfl rfl rfl (by decide) rfl ?_
                                refine oWant rfl rfl ?_
                                refine oLd rfl (by repeat (first | exact Pick.here | apply Pick.there)) rfl rfl ?_
                                refine oWant rfl rfl ?_
                                refine oEql rfl rfl ?_
                                refine oPickT rfl rfl ?_
                                refine oMove rfl ?_
                                first | refine oSplit (t := 159) rfl (fun h159 => ?_) (fun h159 => ?_) | refine oSplitB (t := 159) rfl (fun h159 => ?_) (fun h159 => ?_)
                                ·
                                  refine oWant rfl rfl ?_
                                  refine oMove rfl ?_
                                  refine oWant rfl rfl ?_
                                  refine oMove rfl ?_
                                  refine oWant rfl rfl ?_
                                  refine oIdxA (i := 2) (m := 2) rfl rfl rfl rfl (by decide) rfl ?_
                                  refine oWant rfl rfl ?_
                                  refine oLd rfl (by repeat (first | exact Pick.here | apply Pick.there)) rfl rfl ?_
                                  refine oWant rfl rfl ?_
                                  refine oIdxE rfl rfl (hE9) (by rw [DL_len]; exact hkl) rfl rfl ?_
                                  have hc164 := (hE9).cell
                                  refine oWant rfl rfl ?_
                                  first | refine oLdX rfl hc164 rfl rfl ?_ | refine oLdXA rfl hc164 rfl (by repeat (first | exact SubL.done | apply SubL.take | apply SubL.drop)) ?_ | (refine oLdR1 rfl (by repeat (first | exact Pick.here | apply Pick.there)) (by rw [DL_len]; exact hkl) rfl (fun u165 hu165 => ?_))
                                  refine oWant rfl rfl ?_
                                  refine oEql rfl rfl ?_
                                  refine oPickT rfl rfl ?_
                                  refine oMove rfl ?_
                                  refine oLkSegG ?_
                                  refine oSegG rfl ?_
                                  first | refine oSplit (t := 168) rfl (fun h168 => ?_) (fun h168 => ?_) | refine oSplitB (t := 168) rfl (fun h168 => ?_) (fun h168 => ?_)
                                  ·
                                    refine oWant rfl rfl ?_
                                    (refine oCall rfl (by kernel_rfl) (fun w hS => frame hS (by repeat' (first | exact Split.nil | exact Pick.here | apply Split.cons | apply Pick.there)) (fun B' hB hS' => known12 hS')) ?_; rintro ⟨⟩ -)
                                    refine oAgainG ?_ rfl (fun w0 => ?_)
                                    ·
                                      exact AgainG.nil
                                    ·
                                      refine oTailG ?_
                                      refine oPickT rfl rfl ?_
                                      refine oAssign rfl ?_
                                      refine oNil ?_
                                      refine thn_n ?_
                                      refine wRet ?_
                                      refine fin_r ?_
                                      refine ⟨rfl, _, (ResL.cons (ResR.tmp rfl) ResL.nil), ?_⟩
                                      exact ⟨(), trivial, rfl, (Leads.has (by repeat' (first | exact Has.nil | exact Pick.here | apply Has.cons | apply Pick.there)))⟩
                                  ·
                                    exact absurd rfl h168
                                ·
                                  exact absurd rfl h159
                              ·
                                omega
end Go.Proofs.YtcacohoanlljhaaG
