/-
  The references' Few: what they let in is small.
-/
import Derived.Test.YtnidmlngkpkmlaaKl
import Derived.Test.YtnidmlngkpkmlaaKt
namespace Go.Proofs.YtnidmlngkpkmlaaS
set_option linter.unusedVariables false
set_option linter.unusedSimpArgs false
open Go.RowKit Go.Proofs.YtnidmlngkpkmlaaK Go.Proofs.YtnidmlngkpkmlaaT

set_option maxRecDepth 100000 in
theorem few16 {B : Base} {w : World} (hS : St B [] w) (x : ApiFunc) (cs : List Value) (hK : kApiFunc.K B.e x cs) :
    CallsIn Fence.wide 0 Try.prog 65 #[.agg cs.toArray] w (Ret B (fun _ : Bool => True) (fun r => .bool r) (fun _ => [])) := by
  obtain ⟨A0, c0, A1, c1, A2, c2, A3, c3, rfl, _⟩ := kApiFunc_open hK
  (refine enter Try.func65 rfl rfl hS ?_; simp only [List.zipIdx_cons, List.zipIdx_nil, List.map_cons, List.map_nil, Nat.reduceAdd, Nat.zero_add])
  refine wSeq ?_
  refine wRegion' ?_
  refine oBox rfl (by first | exact CellsOf.agg | exact CellsOf.one rfl) (fun b1 => ?_)
  refine oAssign rfl ?_
  refine oNil ?_
  refine thn_n ?_
  refine wSeq ?_
  refine wRegion' ?_
  refine oFld (n := 1) (m := 1) rfl rfl rfl ?_
  refine oLd rfl (by repeat (first | exact Pick.here | apply Pick.there)) rfl rfl ?_
  refine oLenS rfl rfl ?_
  refine oLeq rfl rfl ?_
  refine oMove rfl ?_
  first | refine oSplit (t := 7) rfl (fun h7 => ?_) (fun h7 => ?_) | refine oSplitB (t := 7) rfl (fun h7 => ?_) (fun h7 => ?_)
  ·
    refine oWant rfl rfl ?_
    refine oFld (n := 6) (m := 6) rfl rfl rfl ?_
    refine oWant rfl rfl ?_
    refine oLd rfl (by repeat (first | exact Pick.here | apply Pick.there)) rfl rfl ?_
    refine oWant rfl rfl ?_
    refine oLenS rfl rfl ?_
    refine oWant rfl rfl ?_
    refine oLeq rfl rfl ?_
    refine oPickT rfl rfl ?_
    refine oMove rfl ?_
    first | refine oSplit (t := 13) rfl (fun h13 => ?_) (fun h13 => ?_) | refine oSplitB (t := 13) rfl (fun h13 => ?_) (fun h13 => ?_)
    ·
      refine oWant rfl rfl ?_
      refine oFld (n := 7) (m := 7) rfl rfl rfl ?_
      refine oWant rfl rfl ?_
      refine oLd rfl (by repeat (first | exact Pick.here | apply Pick.there)) rfl rfl ?_
      refine oWant rfl rfl ?_
      refine oLenS rfl rfl ?_
      refine oWant rfl rfl ?_
      refine oLeq rfl rfl ?_
      refine oPickT rfl rfl ?_
      refine oMove rfl ?_
      first | refine oSplit (t := 19) rfl (fun h19 => ?_) (fun h19 => ?_) | refine oSplitB (t := 19) rfl (fun h19 => ?_) (fun h19 => ?_)
      ·
        refine oWant rfl rfl ?_
        refine oFld (n := 8) (m := 8) rfl rfl rfl ?_
        refine oWant rfl rfl ?_
        refine oLd rfl (by repeat (first | exact Pick.here | apply Pick.there)) rfl rfl ?_
        refine oWant rfl rfl ?_
        refine oLenS rfl rfl ?_
        refine oWant rfl rfl ?_
        refine oLeq rfl rfl ?_
        refine oPickT rfl rfl ?_
        refine oAssign rfl ?_
        refine oNil ?_
        refine thn_n ?_
        refine wRet ?_
        refine fin_r ?_
        refine ⟨rfl, _, (ResL.cons (ResR.tmp rfl) ResL.nil), ?_⟩
        exact ⟨_, trivial, rfl, (Leads.has (by repeat' (first | exact Has.nil | exact Pick.here | apply Has.cons | apply Pick.there)))⟩
      ·
        refine oSkip rfl rfl rfl rfl ?_
        refine oSkip rfl rfl rfl rfl ?_
        refine oSkip rfl rfl rfl rfl ?_
        refine oSkip rfl rfl rfl rfl ?_
        refine oPickF rfl rfl ?_
        refine oAssign rfl ?_
        refine oNil ?_
        refine thn_n ?_
        refine wRet ?_
        refine fin_r ?_
        refine ⟨rfl, _, (ResL.cons (ResR.tmp rfl) ResL.nil), ?_⟩
        exact ⟨_, trivial, rfl, (Leads.has (by repeat' (first | exact Has.nil | exact Pick.here | apply Has.cons | apply Pick.there)))⟩
    ·
      refine oSkip rfl rfl rfl rfl ?_
      refine oSkip rfl rfl rfl rfl ?_
      refine oSkip rfl rfl rfl rfl ?_
      refine oSkip rfl rfl rfl rfl ?_
      refine oPickF rfl rfl ?_
      refine oMove rfl ?_
      refine oSkip rfl rfl rfl rfl ?_
      refine oSkip rfl rfl rfl rfl ?_
      refine oSkip rfl rfl rfl rfl ?_
      refine oSkip rfl rfl rfl rfl ?_
      refine oPickF rfl rfl ?_
      refine oAssign rfl ?_
      refine oNil ?_
      refine thn_n ?_
      refine wRet ?_
      refine fin_r ?_
      refine ⟨rfl, _, (ResL.cons (ResR.tmp rfl) ResL.nil), ?_⟩
      exact ⟨_, trivial, rfl, (Leads.has (by repeat' (first | exact Has.nil | exact Pick.here | apply Has.cons | apply Pick.there)))⟩
  ·
    refine oSkip rfl rfl rfl rfl ?_
    refine oSkip rfl rfl rfl rfl ?_
    refine oSkip rfl rfl rfl rfl ?_
    refine oSkip rfl rfl rfl rfl ?_
    refine oPickF rfl rfl ?_
    refine oMove rfl ?_
    refine oSkip rfl rfl rfl rfl ?_
    refine oSkip rfl rfl rfl rfl ?_
    refine oSkip rfl rfl rfl rfl ?_
    refine oSkip rfl rfl rfl rfl ?_
    refine oPickF rfl rfl ?_
    refine oMove rfl ?_
    refine oSkip rfl rfl rfl rfl ?_
    refine oSkip rfl rfl rfl rfl ?_
    refine oSkip rfl rfl rfl rfl ?_
    refine oSkip rfl rfl rfl rfl ?_
    refine oPickF rfl rfl ?_
    refine oAssign rfl ?_
    refine oNil ?_
    refine thn_n ?_
    refine wRet ?_
    refine fin_r ?_
    refine ⟨rfl, _, (ResL.cons (ResR.tmp rfl) ResL.nil), ?_⟩
    exact ⟨_, trivial, rfl, (Leads.has (by repeat' (first | exact Has.nil | exact Pick.here | apply Has.cons | apply Pick.there)))⟩
set_option maxRecDepth 100000 in
theorem few15 {B : Base} {w : World} (hS : St B [] w) (x : ApiData) (cs : List Value) (hK : kApiData.K B.e x cs) :
    CallsIn Fence.wide 0 Try.prog 66 #[.agg cs.toArray] w (Ret B (fun _ : Bool => True) (fun r => .bool r) (fun _ => [])) := by
  obtain ⟨A0, c0, A1, c1, rfl, _⟩ := kApiData_open hK
  (refine enter Try.func66 rfl rfl hS ?_; simp only [List.zipIdx_cons, List.zipIdx_nil, List.map_cons, List.map_nil, Nat.reduceAdd, Nat.zero_add])
  refine wSeq ?_
  refine wRegion' ?_
  refine oBox rfl (by first | exact CellsOf.agg | exact CellsOf.one rfl) (fun b1 => ?_)
  refine oAssign rfl ?_
  refine oNil ?_
  refine thn_n ?_
  refine wSeq ?_
  refine wRegion' ?_
  refine oFld (n := 1) (m := 1) rfl rfl rfl ?_
  refine oLd rfl (by repeat (first | exact Pick.here | apply Pick.there)) rfl rfl ?_
  refine oLenS rfl rfl ?_
  refine oLeq rfl rfl ?_
  refine oMove rfl ?_
  first | refine oSplit (t := 7) rfl (fun h7 => ?_) (fun h7 => ?_) | refine oSplitB (t := 7) rfl (fun h7 => ?_) (fun h7 => ?_)
  ·
    refine oWant rfl rfl ?_
    refine oFld (n := 2) (m := 2) rfl rfl rfl ?_
    refine oWant rfl rfl ?_
    refine oLd rfl (by repeat (first | exact Pick.here | apply Pick.there)) rfl rfl ?_
    refine oWant rfl rfl ?_
    refine oLenS rfl rfl ?_
    refine oWant rfl rfl ?_
    refine oLeq rfl rfl ?_
    refine oPickT rfl rfl ?_
    refine oAssign rfl ?_
    refine oNil ?_
    refine thn_n ?_
    refine wRet ?_
    refine fin_r ?_
    refine ⟨rfl, _, (ResL.cons (ResR.tmp rfl) ResL.nil), ?_⟩
    exact ⟨_, trivial, rfl, (Leads.has (by repeat' (first | exact Has.nil | exact Pick.here | apply Has.cons | apply Pick.there)))⟩
  ·
    refine oSkip rfl rfl rfl rfl ?_
    refine oSkip rfl rfl rfl rfl ?_
    refine oSkip rfl rfl rfl rfl ?_
    refine oSkip rfl rfl rfl rfl ?_
    refine oPickF rfl rfl ?_
    refine oAssign rfl ?_
    refine oNil ?_
    refine thn_n ?_
    refine wRet ?_
    refine fin_r ?_
    refine ⟨rfl, _, (ResL.cons (ResR.tmp rfl) ResL.nil), ?_⟩
    exact ⟨_, trivial, rfl, (Leads.has (by repeat' (first | exact Has.nil | exact Pick.here | apply Has.cons | apply Pick.there)))⟩
set_option maxRecDepth 100000 in
set_option maxHeartbeats 600000 in
theorem few19 {B : Base} {w : World} (hS : St B [] w) (x : ApiObject) (cs : List Value) (hK : kApiObject.K B.e x cs) :
    CallsIn Fence.wide 0 Try.prog 45 #[.agg cs.toArray] w (Ret B (fun r : Bool => r = true → x.fSymbols.length ≤ 60) (fun r => .bool r) (fun _ => [])) := by
  obtain ⟨A0, c0, A1, c1, A2, c2, rfl, l0, g0, l1, g1, l2, g2⟩ := kApiObject_open hK
  have m0 := g0.1
  have m1 := g1.1
  have m2 := g2.1
  (refine enter Try.func45 rfl rfl hS ?_; simp only [List.zipIdx_cons, List.zipIdx_nil, List.map_cons, List.map_nil, Nat.reduceAdd, Nat.zero_add])
  refine wSeq ?_
  refine wRegion' ?_
  refine oBox rfl (by first | exact CellsOf.agg | exact CellsOf.one rfl) (fun b1 => ?_)
  refine oAssign rfl ?_
  refine oNil ?_
  refine thn_n ?_
  refine wSeq ?_
  refine wSeq ?_
  refine wRegion' ?_
  refine oAssign rfl ?_
  refine oNil ?_
  refine thn_n ?_
  refine wBlock ?_
  refine wLoop (ι := Nat) (fun i => [(1, .pointer (some ⟨b1, 0, none⟩)), (3, .int .i64 (i : Int))]) (fun i => [blk b1 40 [.slice A0 x.fSymbols.length c0, .slice A1 x.fFuncs.length c1, .slice A2 x.fDatas.length c2]]) (fun i => i ≤ x.fSymbols.length) (fun i => x.fSymbols.length - i) 0 ?_ (by repeat (first | exact trivial | refine And.intro rfl ?_)) (Leads.has (by repeat' (first | exact Has.nil | exact Pick.here | apply Has.cons | apply Pick.there))) ?_
  ·
    exact Nat.zero_le _
  ·
    rintro i hi
    dsimp only
    refine wSeq ?_
    refine wSeq ?_
    refine wRegion' ?_
    refine oMove rfl ?_
    refine oFld (n := 0) (m := 0) rfl rfl rfl ?_
    refine oLd rfl (by repeat (first | exact Pick.here | apply Pick.there)) rfl rfl ?_
    refine oLenS rfl rfl ?_
    refine oLss rfl rfl ?_
    refine oNil ?_
    refine thn_n ?_
    first | refine wCond rfl (fun h10 => ?_) (fun h10 => ?_) | refine wCondB rfl (fun h10 => ?_) (fun h10 => ?_)
    ·
      refine wSkip ?_
      refine thn_n ?_
      refine wSeq ?_
      refine wBlock ?_
      refine wSeq ?_
      refine wRegion' ?_
      refine oFld (n := 0) (m := 0) rfl rfl rfl ?_
      refine oLd rfl (by repeat (first | exact Pick.here | apply Pick.there)) rfl rfl ?_
      refine oMove rfl ?_
      refine oIdx rfl rfl (g0) rfl (by omega) rfl rfl (fun e16 u16 cs16 hu16 hk16 hc16 => ?_)
      obtain rfl := kApiSymbol_open hk16
      first | refine oFldX (n := 0) (m := 0) rfl rfl rfl ?_ | refine oFldR (n := 0) (m := 0) rfl rfl rfl ?_ | refine oFldD (n := 0) (m := 0) rfl rfl rfl ?_
      first | refine oLdX rfl hc16 rfl rfl ?_ | refine oLdXA rfl hc16 rfl (by repeat (first | exact SubL.done | apply SubL.take | apply SubL.drop)) ?_ | (refine oLdR1 rfl (by repeat (first | exact Pick.here | apply Pick.there)) (by omega) rfl (fun u18 hu18 => ?_))
      refine oLenStr rfl rfl ?_
      refine oGtr rfl rfl ?_
      refine oNil ?_
      refine thn_n ?_
      first | refine wCond rfl (fun h20 => ?_) (fun h20 => ?_) | refine wCondB rfl (fun h20 => ?_) (fun h20 => ?_)
      ·
        refine wSeq ?_
        refine wRegion' ?_
        refine oAssign rfl ?_
        refine oNil ?_
        refine thn_n ?_
        refine wRet ?_
        refine blk_r ?_
        refine thn_r ?_
        refine thn_r ?_
        refine blk_r ?_
        refine thn_r ?_
        refine fin_r ?_
        refine ⟨rfl, _, (ResL.cons (ResR.tmp rfl) ResL.nil), ?_⟩
        exact ⟨_, by first | (simp; done) | (simp; omega), rfl, (Leads.has (by repeat' (first | exact Has.nil | exact Pick.here | apply Has.cons | apply Pick.there)))⟩
      ·
        refine wSkip ?_
        refine blk_n ?_
        refine thn_n ?_
        refine wRegion' ?_
        refine oMove rfl ?_
        refine oSucc rfl rfl (by omega) ?_
        refine oAssign rfl ?_
        refine oNil ?_
        refine thn_n ?_
        exact ⟨rfl, i + 1, by omega, by omega, (by repeat (first | exact trivial | refine And.intro rfl ?_)), (Leads.has (by repeat' (first | exact Has.nil | exact Pick.here | apply Has.cons | apply Pick.there)))⟩
    ·
      refine wExit ?_
      refine thn_x ?_
      refine thn_x ?_
      refine blk_x ?_
      refine thn_n ?_
      refine wSeq ?_
      refine wSeq ?_
      refine wRegion' ?_
      refine oAssign rfl ?_
      refine oNil ?_
      refine thn_n ?_
      refine wBlock ?_
      refine wLoop (ι := Nat) (fun i => [(1, .pointer (some ⟨b1, 0, none⟩)), (4, .int .i64 (i : Int))]) (fun i => [blk b1 40 [.slice A0 x.fSymbols.length c0, .slice A1 x.fFuncs.length c1, .slice A2 x.fDatas.length c2]]) (fun i => i ≤ x.fFuncs.length) (fun i => x.fFuncs.length - i) 0 ?_ (by repeat (first | exact trivial | refine And.intro rfl ?_)) (Leads.has (by repeat' (first | exact Has.nil | exact Pick.here | apply Has.cons | apply Pick.there))) ?_
      ·
        exact Nat.zero_le _
      ·
        rintro i hi
        dsimp only
        refine wSeq ?_
        refine wSeq ?_
        refine wRegion' ?_
        refine oMove rfl ?_
        refine oFld (n := 1) (m := 1) rfl rfl rfl ?_
        refine oLd rfl (by repeat (first | exact Pick.here | apply Pick.there)) rfl rfl ?_
        refine oLenS rfl rfl ?_
        refine oLss rfl rfl ?_
        refine oNil ?_
        refine thn_n ?_
        first | refine wCond rfl (fun h25 => ?_) (fun h25 => ?_) | refine wCondB rfl (fun h25 => ?_) (fun h25 => ?_)
        ·
          refine wSkip ?_
          refine thn_n ?_
          refine wSeq ?_
          refine wBlock ?_
          refine wSeq ?_
          refine wRegion' ?_
          refine oMove rfl ?_
          refine oGeq rfl rfl ?_
          refine oMove rfl ?_
          first | refine oSplit (t := 30) rfl (fun h30 => ?_) (fun h30 => ?_) | refine oSplitB (t := 30) rfl (fun h30 => ?_) (fun h30 => ?_)
          ·
            refine oSkip rfl rfl rfl rfl ?_
            refine oSkip rfl rfl rfl rfl ?_
            refine oSkip rfl rfl rfl rfl ?_
            refine oSkip rfl rfl rfl rfl ?_
            refine oSkip rfl rfl rfl rfl ?_
            refine oSkip rfl rfl rfl rfl ?_
            refine oSkip rfl rfl rfl rfl ?_
            refine oPickT rfl rfl ?_
            refine oNil ?_
            refine thn_n ?_
            refine wCondT rfl ?_
            refine wSeq ?_
            refine wRegion' ?_
            refine oAssign rfl ?_
            refine oNil ?_
            refine thn_n ?_
            refine wRet ?_
            refine blk_r ?_
            refine thn_r ?_
            refine thn_r ?_
            refine blk_r ?_
            refine thn_r ?_
            refine fin_r ?_
            refine ⟨rfl, _, (ResL.cons (ResR.tmp rfl) ResL.nil), ?_⟩
            exact ⟨_, by first | (simp; done) | (simp; omega), rfl, (Leads.has (by repeat' (first | exact Has.nil | exact Pick.here | apply Has.cons | apply Pick.there)))⟩
          ·
            refine oWant rfl rfl ?_
            refine oFld (n := 1) (m := 1) rfl rfl rfl ?_
            refine oWant rfl rfl ?_
            refine oLd rfl (by repeat (first | exact Pick.here | apply Pick.there)) rfl rfl ?_
            refine oWant rfl rfl ?_
            refine oMove rfl ?_
            refine oWant rfl rfl ?_
            refine oIdx rfl rfl (g1) rfl (by omega) rfl rfl (fun e34 u34 cs34 hu34 hk34 hc34 => ?_)
            obtain ⟨A0', c0', A1', c1', A2', c2', A3', c3', rfl, _⟩ := kApiFunc_open hk34
            refine oWant rfl rfl ?_
            first | refine oLdX rfl hc34 rfl rfl ?_ | refine oLdXA rfl hc34 rfl (by repeat (first | exact SubL.done | apply SubL.take | apply SubL.drop)) ?_ | (refine oLdR1 rfl (by repeat (first | exact Pick.here | apply Pick.there)) (by omega) rfl (fun u35 hu35 => ?_))
            refine oWant rfl rfl ?_
            (refine oCall rfl (by kernel_rfl) (fun w hS => frame hS (by repeat' (first | exact Split.nil | exact Pick.here | apply Split.cons | apply Pick.there)) (fun B' hB hS' => few16 hS' u34 _ (kApiFunc.K_grow hB hk34))) ?_; rintro r -)
            refine oWant rfl rfl ?_
            first | refine oNot rfl ?_ | refine oNotB rfl ?_
            refine oPickF rfl rfl ?_
            refine oNil ?_
            refine thn_n ?_
            first | refine wCond rfl (fun h38 => ?_) (fun h38 => ?_) | refine wCondB rfl (fun h38 => ?_) (fun h38 => ?_)
            ·
              refine wSeq ?_
              refine wRegion' ?_
              refine oAssign rfl ?_
              refine oNil ?_
              refine thn_n ?_
              refine wRet ?_
              refine blk_r ?_
              refine thn_r ?_
              refine thn_r ?_
              refine blk_r ?_
              refine thn_r ?_
              refine fin_r ?_
              refine ⟨rfl, _, (ResL.cons (ResR.tmp rfl) ResL.nil), ?_⟩
              exact ⟨_, by first | (simp; done) | (simp; omega), rfl, (Leads.has (by repeat' (first | exact Has.nil | exact Pick.here | apply Has.cons | apply Pick.there)))⟩
            ·
              refine wSkip ?_
              refine blk_n ?_
              refine thn_n ?_
              refine wRegion' ?_
              refine oMove rfl ?_
              refine oSucc rfl rfl (by omega) ?_
              refine oAssign rfl ?_
              refine oNil ?_
              refine thn_n ?_
              exact ⟨rfl, i + 1, by omega, by omega, (by repeat (first | exact trivial | refine And.intro rfl ?_)), (Leads.has (by repeat' (first | exact Has.nil | exact Pick.here | apply Has.cons | apply Pick.there)))⟩
        ·
          refine wExit ?_
          refine thn_x ?_
          refine thn_x ?_
          refine blk_x ?_
          refine thn_n ?_
          refine wSeq ?_
          refine wSeq ?_
          refine wRegion' ?_
          refine oAssign rfl ?_
          refine oNil ?_
          refine thn_n ?_
          refine wBlock ?_
          refine wLoop (ι := Nat) (fun i => [(1, .pointer (some ⟨b1, 0, none⟩)), (5, .int .i64 (i : Int))]) (fun i => [blk b1 40 [.slice A0 x.fSymbols.length c0, .slice A1 x.fFuncs.length c1, .slice A2 x.fDatas.length c2]]) (fun i => i ≤ x.fDatas.length) (fun i => x.fDatas.length - i) 0 ?_ (by repeat (first | exact trivial | refine And.intro rfl ?_)) (Leads.has (by repeat' (first | exact Has.nil | exact Pick.here | apply Has.cons | apply Pick.there))) ?_
          ·
            exact Nat.zero_le _
          ·
            rintro i hi
            dsimp only
            refine wSeq ?_
            refine wSeq ?_
            refine wRegion' ?_
            refine oMove rfl ?_
            refine oFld (n := 2) (m := 2) rfl rfl rfl ?_
            refine oLd rfl (by repeat (first | exact Pick.here | apply Pick.there)) rfl rfl ?_
            refine oLenS rfl rfl ?_
            refine oLss rfl rfl ?_
            refine oNil ?_
            refine thn_n ?_
            first | refine wCond rfl (fun h43 => ?_) (fun h43 => ?_) | refine wCondB rfl (fun h43 => ?_) (fun h43 => ?_)
            ·
              refine wSkip ?_
              refine thn_n ?_
              refine wSeq ?_
              refine wBlock ?_
              refine wSeq ?_
              refine wRegion' ?_
              refine oMove rfl ?_
              refine oGeq rfl rfl ?_
              refine oMove rfl ?_
              first | refine oSplit (t := 48) rfl (fun h48 => ?_) (fun h48 => ?_) | refine oSplitB (t := 48) rfl (fun h48 => ?_) (fun h48 => ?_)
              ·
                refine oSkip rfl rfl rfl rfl ?_
                refine oSkip rfl rfl rfl rfl ?_
                refine oSkip rfl rfl rfl rfl ?_
                refine oSkip rfl rfl rfl rfl ?_
                refine oSkip rfl rfl rfl rfl ?_
                refine oSkip rfl rfl rfl rfl ?_
                refine oSkip rfl rfl rfl rfl ?_
                refine oPickT rfl rfl ?_
                refine oNil ?_
                refine thn_n ?_
                refine wCondT rfl ?_
                refine wSeq ?_
                refine wRegion' ?_
                refine oAssign rfl ?_
                refine oNil ?_
                refine thn_n ?_
                refine wRet ?_
                refine blk_r ?_
                refine thn_r ?_
                refine thn_r ?_
                refine blk_r ?_
                refine thn_r ?_
                refine fin_r ?_
                refine ⟨rfl, _, (ResL.cons (ResR.tmp rfl) ResL.nil), ?_⟩
                exact ⟨_, by first | (simp; done) | (simp; omega), rfl, (Leads.has (by repeat' (first | exact Has.nil | exact Pick.here | apply Has.cons | apply Pick.there)))⟩
              ·
                refine oWant rfl rfl ?_
                refine oFld (n := 2) (m := 2) rfl rfl rfl ?_
                refine oWant rfl rfl ?_
                refine oLd rfl (by repeat (first | exact Pick.here | apply Pick.there)) rfl rfl ?_
                refine oWant rfl rfl ?_
                refine oMove rfl ?_
                refine oWant rfl rfl ?_
                refine oIdx rfl rfl (g2) rfl (by omega) rfl rfl (fun e52 u52 cs52 hu52 hk52 hc52 => ?_)
                obtain ⟨A0', c0', A1', c1', rfl, _⟩ := kApiData_open hk52
                refine oWant rfl rfl ?_
                first | refine oLdX rfl hc52 rfl rfl ?_ | refine oLdXA rfl hc52 rfl (by repeat (first | exact SubL.done | apply SubL.take | apply SubL.drop)) ?_ | (refine oLdR1 rfl (by repeat (first | exact Pick.here | apply Pick.there)) (by omega) rfl (fun u53 hu53 => ?_))
                refine oWant rfl rfl ?_
                (refine oCall rfl (by kernel_rfl) (fun w hS => frame hS (by repeat' (first | exact Split.nil | exact Pick.here | apply Split.cons | apply Pick.there)) (fun B' hB hS' => few15 hS' u52 _ (kApiData.K_grow hB hk52))) ?_; rintro r -)
                refine oWant rfl rfl ?_
                first | refine oNot rfl ?_ | refine oNotB rfl ?_
                refine oPickF rfl rfl ?_
                refine oNil ?_
                refine thn_n ?_
                first | refine wCond rfl (fun h56 => ?_) (fun h56 => ?_) | refine wCondB rfl (fun h56 => ?_) (fun h56 => ?_)
                ·
                  refine wSeq ?_
                  refine wRegion' ?_
                  refine oAssign rfl ?_
                  refine oNil ?_
                  refine thn_n ?_
                  refine wRet ?_
                  refine blk_r ?_
                  refine thn_r ?_
                  refine thn_r ?_
                  refine blk_r ?_
                  refine thn_r ?_
                  refine fin_r ?_
                  refine ⟨rfl, _, (ResL.cons (ResR.tmp rfl) ResL.nil), ?_⟩
                  exact ⟨_, by first | (simp; done) | (simp; omega), rfl, (Leads.has (by repeat' (first | exact Has.nil | exact Pick.here | apply Has.cons | apply Pick.there)))⟩
                ·
                  refine wSkip ?_
                  refine blk_n ?_
                  refine thn_n ?_
                  refine wRegion' ?_
                  refine oMove rfl ?_
                  refine oSucc rfl rfl (by omega) ?_
                  refine oAssign rfl ?_
                  refine oNil ?_
                  refine thn_n ?_
                  exact ⟨rfl, i + 1, by omega, by omega, (by repeat (first | exact trivial | refine And.intro rfl ?_)), (Leads.has (by repeat' (first | exact Has.nil | exact Pick.here | apply Has.cons | apply Pick.there)))⟩
            ·
              refine wExit ?_
              refine thn_x ?_
              refine thn_x ?_
              refine blk_x ?_
              refine thn_n ?_
              refine wSeq ?_
              refine wRegion' ?_
              refine oFld (n := 0) (m := 0) rfl rfl rfl ?_
              refine oLd rfl (by repeat (first | exact Pick.here | apply Pick.there)) rfl rfl ?_
              refine oLenS rfl rfl ?_
              refine oLeq rfl rfl ?_
              refine oAssign rfl ?_
              refine oNil ?_
              refine thn_n ?_
              refine wRet ?_
              refine fin_r ?_
              refine ⟨rfl, _, (ResL.cons (ResR.tmp rfl) ResL.nil), ?_⟩
              exact ⟨_, by first | (simp; done) | (simp; omega), rfl, (Leads.has (by repeat' (first | exact Has.nil | exact Pick.here | apply Has.cons | apply Pick.there)))⟩
set_option maxRecDepth 100000 in
set_option maxHeartbeats 600000 in
theorem few24 {B : Base} {w : World} (hS : St B [] w) (A : Option Addr) (cp : Nat) (l : List ApiObject) (hC : kApiObject.C B.e A l) :
    CallsIn Fence.wide 0 Try.prog 13 #[.slice A l.length cp] w (Ret B (fun r : Bool => r = true → l.length ≤ 9 ∧ ∀ o ∈ l, o.fSymbols.length ≤ 60) (fun r => .bool r) (fun _ => [])) := by
  have m0 := hC.1
  (refine enter Try.func13 rfl rfl hS ?_; simp only [List.zipIdx_cons, List.zipIdx_nil, List.map_cons, List.map_nil, Nat.reduceAdd, Nat.zero_add])
  refine wSeq ?_
  refine wRegion' ?_
  refine oAssign rfl ?_
  refine oNil ?_
  refine thn_n ?_
  refine wSeq ?_
  refine wSeq ?_
  refine wRegion' ?_
  refine oAssign rfl ?_
  refine oNil ?_
  refine thn_n ?_
  refine wBlock ?_
  refine wLoop (ι := Nat) (fun i => [(0, .slice A l.length cp), (3, .int .i64 (i : Int))]) (fun i => []) (fun i => i ≤ l.length ∧ ∀ j o, j < i → l[j]? = some o → o.fSymbols.length ≤ 60) (fun i => l.length - i) 0 ?_ (by repeat (first | exact trivial | refine And.intro rfl ?_)) (Leads.has (by repeat' (first | exact Has.nil | exact Pick.here | apply Has.cons | apply Pick.there))) ?_
  ·
    exact ⟨Nat.zero_le _, fun j o hj => by omega⟩
  ·
    rintro i ⟨hi, hs⟩
    dsimp only
    refine wSeq ?_
    refine wSeq ?_
    refine wRegion' ?_
    refine oMove rfl ?_
    refine oMove rfl ?_
    refine oLenS rfl rfl ?_
    refine oLss rfl rfl ?_
    refine oNil ?_
    refine thn_n ?_
    first | refine wCond rfl (fun h7 => ?_) (fun h7 => ?_) | refine wCondB rfl (fun h7 => ?_) (fun h7 => ?_)
    ·
      refine wSkip ?_
      refine thn_n ?_
      refine wSeq ?_
      refine wBlock ?_
      refine wSeq ?_
      refine wRegion' ?_
      refine oMove rfl ?_
      refine oMove rfl ?_
      refine oIdx rfl rfl (hC) rfl (by omega) rfl rfl (fun e12 u12 cs12 hu12 hk12 hc12 => ?_)
      obtain ⟨A0, c0, A1, c1, A2, c2, rfl, _⟩ := kApiObject_open hk12
      first | refine oLdX rfl hc12 rfl rfl ?_ | refine oLdXA rfl hc12 rfl (by repeat (first | exact SubL.done | apply SubL.take | apply SubL.drop)) ?_ | (refine oLdR1 rfl (by repeat (first | exact Pick.here | apply Pick.there)) (by omega) rfl (fun u13 hu13 => ?_))
      (refine oCall rfl (by kernel_rfl) (fun w hS => frame hS (by repeat' (first | exact Split.nil | exact Pick.here | apply Split.cons | apply Pick.there)) (fun B' hB hS' => few19 hS' u12 _ (kApiObject.K_grow hB hk12))) ?_; rintro r hr)
      first | refine oNot rfl ?_ | refine oNotB rfl ?_
      refine oNil ?_
      refine thn_n ?_
      first | refine wCond rfl (fun h15 => ?_) (fun h15 => ?_) | refine wCondB rfl (fun h15 => ?_) (fun h15 => ?_)
      ·
        refine wSeq ?_
        refine wRegion' ?_
        refine oAssign rfl ?_
        refine oNil ?_
        refine thn_n ?_
        refine wRet ?_
        refine blk_r ?_
        refine thn_r ?_
        refine thn_r ?_
        refine blk_r ?_
        refine thn_r ?_
        refine fin_r ?_
        refine ⟨rfl, _, (ResL.cons (ResR.tmp rfl) ResL.nil), ?_⟩
        exact ⟨false, by simp, rfl, (Leads.has (by repeat' (first | exact Has.nil | exact Pick.here | apply Has.cons | apply Pick.there)))⟩
      ·
        refine wSkip ?_
        refine blk_n ?_
        refine thn_n ?_
        refine wRegion' ?_
        refine oMove rfl ?_
        refine oSucc rfl rfl (by omega) ?_
        refine oAssign rfl ?_
        refine oNil ?_
        refine thn_n ?_
        exact ⟨rfl, i + 1, ⟨by omega, fun j o hj ho => by
        by_cases e : j = i
        · subst e; obtain rfl := Option.some.inj (hu12.symm.trans ho); exact hr (by simpa using h15)
        · exact hs j o (by omega) ho⟩, by omega, (by repeat (first | exact trivial | refine And.intro rfl ?_)), (Leads.has (by repeat' (first | exact Has.nil | exact Pick.here | apply Has.cons | apply Pick.there)))⟩
    ·
      refine wExit ?_
      refine thn_x ?_
      refine thn_x ?_
      refine blk_x ?_
      refine thn_n ?_
      refine wSeq ?_
      refine wRegion' ?_
      refine oMove rfl ?_
      refine oLenS rfl rfl ?_
      refine oLeq rfl rfl ?_
      refine oAssign rfl ?_
      refine oNil ?_
      refine thn_n ?_
      refine wRet ?_
      refine fin_r ?_
      refine ⟨rfl, _, (ResL.cons (ResR.tmp rfl) ResL.nil), ?_⟩
      obtain rfl : i = l.length := by omega
      exact ⟨_, fun h => ⟨by simp at h; omega, fun o ho => by
        obtain ⟨j, hj⟩ := List.mem_iff_getElem?.1 ho
        exact hs j o (List.getElem?_eq_some_iff.1 hj).1 hj⟩, rfl, (Leads.has (by repeat' (first | exact Has.nil | exact Pick.here | apply Has.cons | apply Pick.there)))⟩
end Go.Proofs.YtnidmlngkpkmlaaS
