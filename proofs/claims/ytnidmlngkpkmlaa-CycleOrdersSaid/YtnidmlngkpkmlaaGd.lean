/-
  The references' small ones: Few, Edge, Ints, In, Member.
-/
import Derived.Test.YtnidmlngkpkmlaaGc
namespace Go.Proofs.YtnidmlngkpkmlaaG
set_option linter.unusedVariables false
set_option linter.unusedSimpArgs false
open Go.RowKit Go.Proofs.YtnidmlngkpkmlaaK Go.Proofs.YtnidmlngkpkmlaaT Go.Proofs.YtnidmlngkpkmlaaL

set_option maxRecDepth 100000 in
set_option maxHeartbeats 600000 in
theorem few10 {B : Base} {w : World} (hS : St B [] w) (A : Option Addr) (cp : Nat) (g : Graph) (hC : kII.C B.e A g) :
    CallsIn Fence.wide 0 Try.prog 33 #[.slice A g.length cp] w (Ret B (fun r : Bool => r = true → g.length ≤ 24 ∧ ∀ l ∈ g, l.length ≤ 30) (fun r => .bool r) (fun _ => [])) := by
  have m0 := hC.1
  (refine enter Try.func33 rfl rfl hS ?_; simp only [List.zipIdx_cons, List.zipIdx_nil, List.map_cons, List.map_nil, Nat.reduceAdd, Nat.zero_add])
  refine wSeq ?_
  refine wRegion' ?_
  refine oAssign rfl ?_
  refine oNil ?_
  refine thn_n ?_
  refine wSeq ?_
  refine wSeq ?_
  refine wRegion' ?_
  refine oAssign rfl ?_
  refine oNil ?_
  refine thn_n ?_
  refine wBlock ?_
  refine wLoop (ι := Nat) (fun i => [(0, .slice A g.length cp), (3, .int .i64 (i : Int))]) (fun i => []) (fun i => i ≤ g.length ∧ ∀ j l, j < i → g[j]? = some l → l.length ≤ 30) (fun i => g.length - i) 0 ?_ (by repeat (first | exact trivial | refine And.intro rfl ?_)) (Leads.has (by repeat' (first | exact Has.nil | exact Pick.here | apply Has.cons | apply Pick.there))) ?_
  ·
    exact ⟨Nat.zero_le _, fun j o hj => by omega⟩
  ·
    rintro i ⟨hi, hs⟩
    dsimp only
    refine wSeq ?_
    refine wSeq ?_
    refine wRegion' ?_
    refine oMove rfl ?_
    refine oMove rfl ?_
    refine oLenS rfl rfl ?_
    refine oLss rfl rfl ?_
    refine oNil ?_
    refine thn_n ?_
    first | refine wCond rfl (fun h7 => ?_) (fun h7 => ?_) | refine wCondB rfl (fun h7 => ?_) (fun h7 => ?_)
    ·
      refine wSkip ?_
      refine thn_n ?_
      refine wSeq ?_
      refine wBlock ?_
      refine wSeq ?_
      refine wRegion' ?_
      refine oMove rfl ?_
      refine oMove rfl ?_
      refine oIdx rfl rfl (hC) rfl (by omega) rfl rfl (fun e12 u12 cs12 hu12 hk12 hc12 => ?_)
      obtain ⟨A0, c0, rfl, hle12, g0⟩ := hk12
      first | refine oLdX rfl hc12 rfl rfl ?_ | refine oLdXA rfl hc12 rfl (by repeat (first | exact SubL.done | apply SubL.take | apply SubL.drop)) ?_ | (refine oLdR1 rfl (by repeat (first | exact Pick.here | apply Pick.there)) (by omega) rfl (fun u13 hu13 => ?_))
      refine oLenS rfl rfl ?_
      refine oGtr rfl rfl ?_
      refine oNil ?_
      refine thn_n ?_
      first | refine wCond rfl (fun h15 => ?_) (fun h15 => ?_) | refine wCondB rfl (fun h15 => ?_) (fun h15 => ?_)
      ·
        refine wSeq ?_
        refine wRegion' ?_
        refine oAssign rfl ?_
        refine oNil ?_
        refine thn_n ?_
        refine wRet ?_
        refine blk_r ?_
        refine thn_r ?_
        refine thn_r ?_
        refine blk_r ?_
        refine thn_r ?_
        refine fin_r ?_
        refine ⟨rfl, _, (ResL.cons (ResR.tmp rfl) ResL.nil), ?_⟩
        exact ⟨false, by simp, rfl, (Leads.has (by repeat' (first | exact Has.nil | exact Pick.here | apply Has.cons | apply Pick.there)))⟩
      ·
        refine wSkip ?_
        refine blk_n ?_
        refine thn_n ?_
        refine wRegion' ?_
        refine oMove rfl ?_
        refine oSucc rfl rfl (by omega) ?_
        refine oAssign rfl ?_
        refine oNil ?_
        refine thn_n ?_
        exact ⟨rfl, i + 1, ⟨by omega, fun j o hj ho => by
        by_cases e : j = i
        · subst e; obtain rfl := Option.some.inj (hu12.symm.trans ho); omega
        · exact hs j o (by omega) ho⟩, by omega, (by repeat (first | exact trivial | refine And.intro rfl ?_)), (Leads.has (by repeat' (first | exact Has.nil | exact Pick.here | apply Has.cons | apply Pick.there)))⟩
    ·
      refine wExit ?_
      refine thn_x ?_
      refine thn_x ?_
      refine blk_x ?_
      refine thn_n ?_
      refine wSeq ?_
      refine wRegion' ?_
      refine oMove rfl ?_
      refine oLenS rfl rfl ?_
      refine oLeq rfl rfl ?_
      refine oAssign rfl ?_
      refine oNil ?_
      refine thn_n ?_
      refine wRet ?_
      refine fin_r ?_
      refine ⟨rfl, _, (ResL.cons (ResR.tmp rfl) ResL.nil), ?_⟩
      obtain rfl : i = g.length := by omega
      exact ⟨_, fun h => ⟨by simp at h; omega, fun o ho => by
        obtain ⟨j, hj⟩ := List.mem_iff_getElem?.1 ho
        exact hs j o (List.getElem?_eq_some_iff.1 hj).1 hj⟩, rfl, (Leads.has (by repeat' (first | exact Has.nil | exact Pick.here | apply Has.cons | apply Pick.there)))⟩
def edgeF (g : Graph) (a b : Int) : Bool := decide (0 ≤ a) && decide (a < (g.length : Int)) && decide (0 ≤ b) && decide (b < (g.length : Int)) && decide (b ∈ g.getD a.toNat [])
set_option maxRecDepth 100000 in
set_option maxHeartbeats 600000 in
theorem edge_any {B : Base} {w : World} (hS : St B [] w) (A : Option Addr) (cp : Nat) (g : Graph) (hC : kII.C B.e A g) (a b : Int) :
    CallsIn Fence.wide 0 Try.prog 43 #[.slice A g.length cp, .int .i64 a, .int .i64 b] w (Ret B (fun _ : Unit => True) (fun _ => .bool (edgeF g a b)) (fun _ => [])) := by
  have m0 := hC.1
  (refine enter Try.func43 rfl rfl hS ?_; simp only [List.zipIdx_cons, List.zipIdx_nil, List.map_cons, List.map_nil, Nat.reduceAdd, Nat.zero_add])
  refine wSeq ?_
  refine wRegion' ?_
  refine oAssign rfl ?_
  refine oNil ?_
  refine thn_n ?_
  refine wSeq ?_
  refine wSeq ?_
  refine wRegion' ?_
  refine oMove rfl ?_
  refine oLss rfl rfl ?_
  refine oMove rfl ?_
  first | refine oSplit (t := 10) rfl (fun h10 => ?_) (fun h10 => ?_) | refine oSplitB (t := 10) rfl (fun h10 => ?_) (fun h10 => ?_)
  ·
    refine oSkip rfl rfl rfl rfl ?_
    refine oSkip rfl rfl rfl rfl ?_
    refine oSkip rfl rfl rfl rfl ?_
    refine oSkip rfl rfl rfl rfl ?_
    refine oPickT rfl rfl ?_
    refine oMove rfl ?_
    refine oSkip rfl rfl rfl rfl ?_
    refine oSkip rfl rfl rfl rfl ?_
    refine oPickT rfl rfl ?_
    refine oMove rfl ?_
    refine oSkip rfl rfl rfl rfl ?_
    refine oSkip rfl rfl rfl rfl ?_
    refine oSkip rfl rfl rfl rfl ?_
    refine oSkip rfl rfl rfl rfl ?_
    refine oPickT rfl rfl ?_
    refine oNil ?_
    refine thn_n ?_
    refine wCondT rfl ?_
    refine wSeq ?_
    refine wRegion' ?_
    refine oAssign rfl ?_
    refine oNil ?_
    refine thn_n ?_
    refine wRet ?_
    refine thn_r ?_
    refine fin_r ?_
    refine ⟨rfl, _, (ResL.cons (ResR.tmp rfl) ResL.nil), ?_⟩
    exact ⟨(), trivial, by simp [edgeF, resVal]; omega, (Leads.has (by repeat' (first | exact Has.nil | exact Pick.here | apply Has.cons | apply Pick.there)))⟩
  ·
    refine oWant rfl rfl ?_
    refine oMove rfl ?_
    refine oWant rfl rfl ?_
    refine oMove rfl ?_
    refine oWant rfl rfl ?_
    refine oLenS rfl rfl ?_
    refine oWant rfl rfl ?_
    refine oGeq rfl rfl ?_
    refine oPickF rfl rfl ?_
    refine oMove rfl ?_
    first | refine oSplit (t := 16) rfl (fun h16 => ?_) (fun h16 => ?_) | refine oSplitB (t := 16) rfl (fun h16 => ?_) (fun h16 => ?_)
    ·
      refine oSkip rfl rfl rfl rfl ?_
      refine oSkip rfl rfl rfl rfl ?_
      refine oPickT rfl rfl ?_
      refine oMove rfl ?_
      refine oSkip rfl rfl rfl rfl ?_
      refine oSkip rfl rfl rfl rfl ?_
      refine oSkip rfl rfl rfl rfl ?_
      refine oSkip rfl rfl rfl rfl ?_
      refine oPickT rfl rfl ?_
      refine oNil ?_
      refine thn_n ?_
      refine wCondT rfl ?_
      refine wSeq ?_
      refine wRegion' ?_
      refine oAssign rfl ?_
      refine oNil ?_
      refine thn_n ?_
      refine wRet ?_
      refine thn_r ?_
      refine fin_r ?_
      refine ⟨rfl, _, (ResL.cons (ResR.tmp rfl) ResL.nil), ?_⟩
      exact ⟨(), trivial, by simp [edgeF, resVal]; omega, (Leads.has (by repeat' (first | exact Has.nil | exact Pick.here | apply Has.cons | apply Pick.there)))⟩
    ·
      refine oWant rfl rfl ?_
      refine oMove rfl ?_
      refine oWant rfl rfl ?_
      refine oLss rfl rfl ?_
      refine oPickF rfl rfl ?_
      refine oMove rfl ?_
      first | refine oSplit (t := 20) rfl (fun h20 => ?_) (fun h20 => ?_) | refine oSplitB (t := 20) rfl (fun h20 => ?_) (fun h20 => ?_)
      ·
        refine oSkip rfl rfl rfl rfl ?_
        refine oSkip rfl rfl rfl rfl ?_
        refine oSkip rfl rfl rfl rfl ?_
        refine oSkip rfl rfl rfl rfl ?_
        refine oPickT rfl rfl ?_
        refine oNil ?_
        refine thn_n ?_
        refine wCondT rfl ?_
        refine wSeq ?_
        refine wRegion' ?_
        refine oAssign rfl ?_
        refine oNil ?_
        refine thn_n ?_
        refine wRet ?_
        refine thn_r ?_
        refine fin_r ?_
        refine ⟨rfl, _, (ResL.cons (ResR.tmp rfl) ResL.nil), ?_⟩
        exact ⟨(), trivial, by simp [edgeF, resVal]; omega, (Leads.has (by repeat' (first | exact Has.nil | exact Pick.here | apply Has.cons | apply Pick.there)))⟩
      ·
        refine oWant rfl rfl ?_
        refine oMove rfl ?_
        refine oWant rfl rfl ?_
        refine oMove rfl ?_
        refine oWant rfl rfl ?_
        refine oLenS rfl rfl ?_
        refine oWant rfl rfl ?_
        refine oGeq rfl rfl ?_
        refine oPickF rfl rfl ?_
        refine oNil ?_
        refine thn_n ?_
        first | refine wCond rfl (fun h25 => ?_) (fun h25 => ?_) | refine wCondB rfl (fun h25 => ?_) (fun h25 => ?_)
        ·
          refine wSeq ?_
          refine wRegion' ?_
          refine oAssign rfl ?_
          refine oNil ?_
          refine thn_n ?_
          refine wRet ?_
          refine thn_r ?_
          refine fin_r ?_
          refine ⟨rfl, _, (ResL.cons (ResR.tmp rfl) ResL.nil), ?_⟩
          exact ⟨(), trivial, by simp [edgeF, resVal]; omega, (Leads.has (by repeat' (first | exact Has.nil | exact Pick.here | apply Has.cons | apply Pick.there)))⟩
        ·
          obtain ⟨a, rfl⟩ := Int.eq_ofNat_of_zero_le (show 0 ≤ a by omega)
          refine wSkip ?_
          refine thn_n ?_
          refine wSeq ?_
          refine wSeq ?_
          refine wRegion' ?_
          refine oAssign rfl ?_
          refine oNil ?_
          refine thn_n ?_
          refine wBlock ?_
          refine wLoop (ι := Nat) (fun i => [(0, .slice A g.length cp), (1, .int .i64 (a : Int)), (2, .int .i64 b), (7, .int .i64 (i : Int))]) (fun i => []) (fun i => i ≤ (g.getD a []).length ∧ ∀ j, j < i → (g.getD a [])[j]? ≠ some b) (fun i => (g.getD a []).length - i) 0 ?_ (by repeat (first | exact trivial | refine And.intro rfl ?_)) (Leads.has (by repeat' (first | exact Has.nil | exact Pick.here | apply Has.cons | apply Pick.there))) ?_
          ·
            exact ⟨Nat.zero_le _, fun j hj => by omega⟩
          ·
            rintro i ⟨hi, hs⟩
            dsimp only
            refine wSeq ?_
            refine wSeq ?_
            refine wRegion' ?_
            refine oMove rfl ?_
            refine oMove rfl ?_
            refine oMove rfl ?_
            refine oIdx rfl rfl (hC) rfl (by omega) rfl rfl (fun e29 u29 cs29 hu29 hk29 hc29 => ?_)
            obtain ⟨A0, c0, rfl, hle29, g0⟩ := hk29
            have hbig := g0.1
            rw [getD_at hu29] at hi hs
            first | refine oLdX rfl hc29 rfl rfl ?_ | refine oLdXA rfl hc29 rfl (by repeat (first | exact SubL.done | apply SubL.take | apply SubL.drop)) ?_ | (refine oLdR1 rfl (by repeat (first | exact Pick.here | apply Pick.there)) (by omega) rfl (fun u30 hu30 => ?_))
            refine oLenS rfl rfl ?_
            refine oLss rfl rfl ?_
            refine oNil ?_
            refine thn_n ?_
            first | refine wCond rfl (fun h32 => ?_) (fun h32 => ?_) | refine wCondB rfl (fun h32 => ?_) (fun h32 => ?_)
            ·
              refine wSkip ?_
              refine thn_n ?_
              refine wSeq ?_
              refine wBlock ?_
              refine wSeq ?_
              refine wRegion' ?_
              refine oMove rfl ?_
              refine oMove rfl ?_
              refine oIdx rfl rfl (hC) rfl (by omega) rfl rfl (fun e37 u37 cs37 hu37 hk37 hc37 => ?_)
              obtain ⟨A0, c0, rfl, hle37, g0⟩ := hk37
              have hbig := g0.1
              obtain rfl := Option.some.inj (hu29.symm.trans hu37)
              first | refine oLdX rfl hc37 rfl rfl ?_ | refine oLdXA rfl hc37 rfl (by repeat (first | exact SubL.done | apply SubL.take | apply SubL.drop)) ?_ | (refine oLdR1 rfl (by repeat (first | exact Pick.here | apply Pick.there)) (by omega) rfl (fun u38 hu38 => ?_))
              refine oMove rfl ?_
              refine oIdx rfl rfl (g0) rfl (by omega) rfl rfl (fun e40 u40 cs40 hu40 hk40 hc40 => ?_)
              obtain rfl := hk40
              first | refine oLdX rfl hc40 rfl rfl ?_ | refine oLdXA rfl hc40 rfl (by repeat (first | exact SubL.done | apply SubL.take | apply SubL.drop)) ?_ | (refine oLdR1 rfl (by repeat (first | exact Pick.here | apply Pick.there)) (by omega) rfl (fun u41 hu41 => ?_))
              refine oMove rfl ?_
              refine oEql rfl rfl ?_
              refine oNil ?_
              refine thn_n ?_
              first | refine wCond rfl (fun h43 => ?_) (fun h43 => ?_) | refine wCondB rfl (fun h43 => ?_) (fun h43 => ?_)
              ·
                refine wSeq ?_
                refine wRegion' ?_
                refine oAssign rfl ?_
                refine oNil ?_
                refine thn_n ?_
                refine wRet ?_
                refine blk_r ?_
                refine thn_r ?_
                refine thn_r ?_
                refine blk_r ?_
                refine thn_r ?_
                refine fin_r ?_
                refine ⟨rfl, _, (ResL.cons (ResR.tmp rfl) ResL.nil), ?_⟩
                have hmem : b ∈ g.getD a [] := by rw [getD_at hu29, ← h43]; exact List.mem_of_getElem? hu40
                exact ⟨(), trivial, by rw [show edgeF g a b = true by unfold edgeF; rw [Int.toNat_natCast, decide_eq_true hmem, decide_eq_true (show (0 : Int) ≤ a by omega), decide_eq_true (show (a : Int) < g.length by omega), decide_eq_true (show 0 ≤ b by omega), decide_eq_true (show b < g.length by omega)]; rfl]; rfl, (Leads.has (by repeat' (first | exact Has.nil | exact Pick.here | apply Has.cons | apply Pick.there)))⟩
              ·
                refine wSkip ?_
                refine blk_n ?_
                refine thn_n ?_
                refine wRegion' ?_
                refine oMove rfl ?_
                refine oSucc rfl rfl (by omega) ?_
                refine oAssign rfl ?_
                refine oNil ?_
                refine thn_n ?_
                exact ⟨rfl, i + 1, ⟨by rw [getD_at hu29]; omega, fun j hj => by
                rw [getD_at hu29]
                by_cases e : j = i
                · subst e; rw [hu40]; intro h; exact h43 (Option.some.inj h)
                · exact hs j (by omega)⟩, by rw [getD_at hu29]; omega, (by repeat (first | exact trivial | refine And.intro rfl ?_)), (Leads.has (by repeat' (first | exact Has.nil | exact Pick.here | apply Has.cons | apply Pick.there)))⟩
            ·
              refine wExit ?_
              refine thn_x ?_
              refine thn_x ?_
              refine blk_x ?_
              refine thn_n ?_
              refine wSeq ?_
              refine wRegion' ?_
              refine oAssign rfl ?_
              refine oNil ?_
              refine thn_n ?_
              refine wRet ?_
              refine fin_r ?_
              refine ⟨rfl, _, (ResL.cons (ResR.tmp rfl) ResL.nil), ?_⟩
              have hmem : ¬ b ∈ g.getD a [] := by
                rw [getD_at hu29]
                intro h
                obtain ⟨j, hj⟩ := List.mem_iff_getElem?.1 h
                exact hs j (by have := (List.getElem?_eq_some_iff.1 hj).1; omega) hj
              exact ⟨(), trivial, by rw [show edgeF g a b = false by unfold edgeF; rw [Int.toNat_natCast, decide_eq_false hmem, Bool.and_false]]; rfl, (Leads.has (by repeat' (first | exact Has.nil | exact Pick.here | apply Has.cons | apply Pick.there)))⟩
set_option maxRecDepth 100000 in
set_option maxHeartbeats 600000 in
theorem in_any {B : Base} {w : World} (hS : St B [] w) (A : Option Addr) (cp : Nat) (l : List Int) (hC : (Kd.int .i64).C B.e A l) (b : Int) :
    CallsIn Fence.wide 0 Try.prog 44 #[.slice A l.length cp, .int .i64 b] w (Ret B (fun _ : Unit => True) (fun _ => .bool (decide (b ∈ l))) (fun _ => [])) := by
  have m0 := hC.1
  (refine enter Try.func44 rfl rfl hS ?_; simp only [List.zipIdx_cons, List.zipIdx_nil, List.map_cons, List.map_nil, Nat.reduceAdd, Nat.zero_add])
  refine wSeq ?_
  refine wRegion' ?_
  refine oAssign rfl ?_
  refine oNil ?_
  refine thn_n ?_
  refine wSeq ?_
  refine wSeq ?_
  refine wRegion' ?_
  refine oAssign rfl ?_
  refine oNil ?_
  refine thn_n ?_
  refine wBlock ?_
  refine wLoop (ι := Nat) (fun i => [(0, .slice A l.length cp), (1, .int .i64 b), (5, .int .i64 (i : Int))]) (fun i => []) (fun i => i ≤ l.length ∧ ∀ j, j < i → l[j]? ≠ some b) (fun i => l.length - i) 0 ?_ (by repeat (first | exact trivial | refine And.intro rfl ?_)) (Leads.has (by repeat' (first | exact Has.nil | exact Pick.here | apply Has.cons | apply Pick.there))) ?_
  ·
    exact ⟨Nat.zero_le _, fun j hj => by omega⟩
  ·
    rintro i ⟨hi, hs⟩
    dsimp only
    refine wSeq ?_
    refine wSeq ?_
    refine wRegion' ?_
    refine oMove rfl ?_
    refine oMove rfl ?_
    refine oLenS rfl rfl ?_
    refine oLss rfl rfl ?_
    refine oNil ?_
    refine thn_n ?_
    first | refine wCond rfl (fun h9 => ?_) (fun h9 => ?_) | refine wCondB rfl (fun h9 => ?_) (fun h9 => ?_)
    ·
      refine wSkip ?_
      refine thn_n ?_
      refine wSeq ?_
      refine wBlock ?_
      refine wSeq ?_
      refine wRegion' ?_
      refine oMove rfl ?_
      refine oMove rfl ?_
      refine oIdx rfl rfl (hC) rfl (by omega) rfl rfl (fun e14 u14 cs14 hu14 hk14 hc14 => ?_)
      obtain rfl := hk14
      first | refine oLdX rfl hc14 rfl rfl ?_ | refine oLdXA rfl hc14 rfl (by repeat (first | exact SubL.done | apply SubL.take | apply SubL.drop)) ?_ | (refine oLdR1 rfl (by repeat (first | exact Pick.here | apply Pick.there)) (by omega) rfl (fun u15 hu15 => ?_))
      refine oMove rfl ?_
      refine oEql rfl rfl ?_
      refine oNil ?_
      refine thn_n ?_
      first | refine wCond rfl (fun h17 => ?_) (fun h17 => ?_) | refine wCondB rfl (fun h17 => ?_) (fun h17 => ?_)
      ·
        refine wSeq ?_
        refine wRegion' ?_
        refine oAssign rfl ?_
        refine oNil ?_
        refine thn_n ?_
        refine wRet ?_
        refine blk_r ?_
        refine thn_r ?_
        refine thn_r ?_
        refine blk_r ?_
        refine thn_r ?_
        refine fin_r ?_
        refine ⟨rfl, _, (ResL.cons (ResR.tmp rfl) ResL.nil), ?_⟩
        exact ⟨(), trivial, by rw [decide_eq_true (show b ∈ l by rw [← h17]; exact List.mem_of_getElem? hu14)]; rfl, (Leads.has (by repeat' (first | exact Has.nil | exact Pick.here | apply Has.cons | apply Pick.there)))⟩
      ·
        refine wSkip ?_
        refine blk_n ?_
        refine thn_n ?_
        refine wRegion' ?_
        refine oMove rfl ?_
        refine oSucc rfl rfl (by omega) ?_
        refine oAssign rfl ?_
        refine oNil ?_
        refine thn_n ?_
        exact ⟨rfl, i + 1, ⟨by omega, fun j hj => by
        by_cases e : j = i
        · subst e; rw [hu14]; intro h; exact h17 (Option.some.inj h)
        · exact hs j (by omega)⟩, by omega, (by repeat (first | exact trivial | refine And.intro rfl ?_)), (Leads.has (by repeat' (first | exact Has.nil | exact Pick.here | apply Has.cons | apply Pick.there)))⟩
    ·
      refine wExit ?_
      refine thn_x ?_
      refine thn_x ?_
      refine blk_x ?_
      refine thn_n ?_
      refine wSeq ?_
      refine wRegion' ?_
      refine oAssign rfl ?_
      refine oNil ?_
      refine thn_n ?_
      refine wRet ?_
      refine fin_r ?_
      refine ⟨rfl, _, (ResL.cons (ResR.tmp rfl) ResL.nil), ?_⟩
      exact ⟨(), trivial, by rw [decide_eq_false (show ¬ b ∈ l by intro h; obtain ⟨j, hj⟩ := List.mem_iff_getElem?.1 h; exact hs j (by have := (List.getElem?_eq_some_iff.1 hj).1; omega) hj)]; rfl, (Leads.has (by repeat' (first | exact Has.nil | exact Pick.here | apply Has.cons | apply Pick.there)))⟩
set_option maxRecDepth 100000 in
set_option maxHeartbeats 600000 in
theorem ints_any {B : Base} {w : World} (hS : St B [] w) (A : Option Addr) (cp : Nat) (l : List Int) (hC : (Kd.int .i64).C B.e A l) (A1 : Option Addr) (cp1 : Nat) (k : List Int) (hC1 : (Kd.int .i64).C B.e A1 k) :
    CallsIn Fence.wide 0 Try.prog 39 #[.slice A l.length cp, .slice A1 k.length cp1] w (Ret B (fun _ : Unit => True) (fun _ => .bool (decide (l = k))) (fun _ => [])) := by
  have m0 := hC.1
  have m1 := hC1.1
  (refine enter Try.func39 rfl rfl hS ?_; simp only [List.zipIdx_cons, List.zipIdx_nil, List.map_cons, List.map_nil, Nat.reduceAdd, Nat.zero_add])
  refine wSeq ?_
  refine wRegion' ?_
  refine oAssign rfl ?_
  refine oNil ?_
  refine thn_n ?_
  refine wSeq ?_
  refine wSeq ?_
  refine wRegion' ?_
  refine oMove rfl ?_
  refine oLenS rfl rfl ?_
  refine oMove rfl ?_
  refine oLenS rfl rfl ?_
  refine oNeq rfl rfl ?_
  refine oNil ?_
  refine thn_n ?_
  first | refine wCond rfl (fun h10 => ?_) (fun h10 => ?_) | refine wCondB rfl (fun h10 => ?_) (fun h10 => ?_)
  ·
    refine wSeq ?_
    refine wRegion' ?_
    refine oAssign rfl ?_
    refine oNil ?_
    refine thn_n ?_
    refine wRet ?_
    refine thn_r ?_
    refine fin_r ?_
    refine ⟨rfl, _, (ResL.cons (ResR.tmp rfl) ResL.nil), ?_⟩
    exact ⟨(), trivial, by rw [decide_eq_false (show ¬ l = k by rintro rfl; exact h10 rfl)]; rfl, (Leads.has (by repeat' (first | exact Has.nil | exact Pick.here | apply Has.cons | apply Pick.there)))⟩
  ·
    refine wSkip ?_
    refine thn_n ?_
    refine wSeq ?_
    refine wSeq ?_
    refine wRegion' ?_
    refine oAssign rfl ?_
    refine oNil ?_
    refine thn_n ?_
    refine wBlock ?_
    refine wLoop (ι := Nat) (fun i => [(0, .slice A l.length cp), (1, .slice A1 k.length cp1), (5, .int .i64 (i : Int))]) (fun i => []) (fun i => i ≤ l.length ∧ ∀ j, j < i → l[j]? = k[j]?) (fun i => l.length - i) 0 ?_ (by repeat (first | exact trivial | refine And.intro rfl ?_)) (Leads.has (by repeat' (first | exact Has.nil | exact Pick.here | apply Has.cons | apply Pick.there))) ?_
    ·
      exact ⟨Nat.zero_le _, fun j hj => by omega⟩
    ·
      rintro i ⟨hi, hs⟩
      dsimp only
      refine wSeq ?_
      refine wSeq ?_
      refine wRegion' ?_
      refine oMove rfl ?_
      refine oMove rfl ?_
      refine oLenS rfl rfl ?_
      refine oLss rfl rfl ?_
      refine oNil ?_
      refine thn_n ?_
      first | refine wCond rfl (fun h14 => ?_) (fun h14 => ?_) | refine wCondB rfl (fun h14 => ?_) (fun h14 => ?_)
      ·
        refine wSkip ?_
        refine thn_n ?_
        refine wSeq ?_
        refine wBlock ?_
        refine wSeq ?_
        refine wDraw2 rfl rfl [0, 1, 4, 5] [2, 3, 6, 7] 8 (by kernel_rfl) rfl rfl rfl (fun w0 => ?_)
        refine oIdx rfl rfl (hC) rfl (by omega) rfl rfl (fun e19 u19 cs19 hu19 hk19 hc19 => ?_)
        obtain rfl := hk19
        first | refine oLdX rfl hc19 rfl rfl ?_ | refine oLdXA rfl hc19 rfl (by repeat (first | exact SubL.done | apply SubL.take | apply SubL.drop)) ?_ | (refine oLdR1 rfl (by repeat (first | exact Pick.here | apply Pick.there)) (by omega) rfl (fun u20 hu20 => ?_))
        refine oIdx rfl rfl (hC1) rfl (by omega) rfl rfl (fun e23 u23 cs23 hu23 hk23 hc23 => ?_)
        obtain rfl := hk23
        first | refine oLdX rfl hc23 rfl rfl ?_ | refine oLdXA rfl hc23 rfl (by repeat (first | exact SubL.done | apply SubL.take | apply SubL.drop)) ?_ | (refine oLdR1 rfl (by repeat (first | exact Pick.here | apply Pick.there)) (by omega) rfl (fun u24 hu24 => ?_))
        refine oHead ?_
        refine oNeq rfl rfl ?_
        refine oNilT ?_
        refine thn_n ?_
        first | refine wCond rfl (fun h25 => ?_) (fun h25 => ?_) | refine wCondB rfl (fun h25 => ?_) (fun h25 => ?_)
        ·
          refine wSeq ?_
          refine wRegion' ?_
          refine oAssign rfl ?_
          refine oNil ?_
          refine thn_n ?_
          refine wRet ?_
          refine blk_r ?_
          refine thn_r ?_
          refine thn_r ?_
          refine blk_r ?_
          refine thn_r ?_
          refine fin_r ?_
          refine ⟨rfl, _, (ResL.cons (ResR.tmp rfl) ResL.nil), ?_⟩
          exact ⟨(), trivial, by rw [decide_eq_false (show ¬ l = k by rintro rfl; rw [hu19] at hu23; exact h25 (Option.some.inj hu23))]; rfl, (Leads.has (by repeat' (first | exact Has.nil | exact Pick.here | apply Has.cons | apply Pick.there)))⟩
        ·
          refine wSkip ?_
          refine blk_n ?_
          refine thn_n ?_
          refine wRegion' ?_
          refine oMove rfl ?_
          refine oSucc rfl rfl (by omega) ?_
          refine oAssign rfl ?_
          refine oNil ?_
          refine thn_n ?_
          exact ⟨rfl, i + 1, ⟨by omega, fun j hj => by
          by_cases e : j = i
          · subst e; rw [hu19, hu23]; congr 1; omega
          · exact hs j (by omega)⟩, by omega, (by repeat (first | exact trivial | refine And.intro rfl ?_)), (Leads.has (by repeat' (first | exact Has.nil | exact Pick.here | apply Has.cons | apply Pick.there)))⟩
      ·
        refine wExit ?_
        refine thn_x ?_
        refine thn_x ?_
        refine blk_x ?_
        refine thn_n ?_
        refine wSeq ?_
        refine wRegion' ?_
        refine oAssign rfl ?_
        refine oNil ?_
        refine thn_n ?_
        refine wRet ?_
        refine fin_r ?_
        refine ⟨rfl, _, (ResL.cons (ResR.tmp rfl) ResL.nil), ?_⟩
        have hlk : l = k := by
          apply List.ext_getElem?
          intro j
          rcases Nat.lt_or_ge j i with h | h
          · exact hs j h
          · rw [List.getElem?_eq_none (by omega), List.getElem?_eq_none (by omega)]
        exact ⟨(), trivial, by rw [decide_eq_true hlk]; rfl, (Leads.has (by repeat' (first | exact Has.nil | exact Pick.here | apply Has.cons | apply Pick.there)))⟩
def memF (g : Graph) (ib : List Bool) (a : Int) : Bool := decide (0 ≤ a) && decide (a < (g.length : Int)) && decide (a < (ib.length : Int)) && ib.getD a.toNat false
set_option maxRecDepth 100000 in
theorem member_any {B : Base} {w : World} (hS : St B [] w) (A : Option Addr) (cp : Nat) (g : Graph) (A1 : Option Addr) (cp1 : Nat) (ib : List Bool) (hC1 : Kd.bool.C B.e A1 ib) (a : Int) :
    CallsIn Fence.wide 0 Try.prog 42 #[.slice A g.length cp, .slice A1 ib.length cp1, .int .i64 a] w (Ret B (fun _ : Unit => True) (fun _ => .bool (memF g ib a)) (fun _ => [])) := by
  (refine enter Try.func42 rfl rfl hS ?_; simp only [List.zipIdx_cons, List.zipIdx_nil, List.map_cons, List.map_nil, Nat.reduceAdd, Nat.zero_add])
  refine wSeq ?_
  refine wRegion' ?_
  refine oAssign rfl ?_
  refine oNil ?_
  refine thn_n ?_
  refine wSeq ?_
  refine wRegion' ?_
  refine oMove rfl ?_
  refine oGeq rfl rfl ?_
  refine oMove rfl ?_
  first | refine oSplit (t := 9) rfl (fun h9 => ?_) (fun h9 => ?_) | refine oSplitB (t := 9) rfl (fun h9 => ?_) (fun h9 => ?_)
  ·
    refine oWant rfl rfl ?_
    refine oMove rfl ?_
    refine oWant rfl rfl ?_
    refine oMove rfl ?_
    refine oWant rfl rfl ?_
    refine oLenS rfl rfl ?_
    refine oWant rfl rfl ?_
    refine oLss rfl rfl ?_
    refine oPickT rfl rfl ?_
    refine oMove rfl ?_
    first | refine oSplit (t := 15) rfl (fun h15 => ?_) (fun h15 => ?_) | refine oSplitB (t := 15) rfl (fun h15 => ?_) (fun h15 => ?_)
    ·
      refine oWant rfl rfl ?_
      refine oMove rfl ?_
      refine oWant rfl rfl ?_
      refine oMove rfl ?_
      refine oWant rfl rfl ?_
      refine oLenS rfl rfl ?_
      refine oWant rfl rfl ?_
      refine oLss rfl rfl ?_
      refine oPickT rfl rfl ?_
      refine oMove rfl ?_
      first | refine oSplit (t := 21) rfl (fun h21 => ?_) (fun h21 => ?_) | refine oSplitB (t := 21) rfl (fun h21 => ?_) (fun h21 => ?_)
      ·
        obtain ⟨a, rfl⟩ := Int.eq_ofNat_of_zero_le (show 0 ≤ a by omega)
        refine oWant rfl rfl ?_
        refine oMove rfl ?_
        refine oWant rfl rfl ?_
        refine oMove rfl ?_
        refine oWant rfl rfl ?_
        refine oIdx rfl rfl (hC1) rfl (by omega) rfl rfl (fun e24 u24 cs24 hu24 hk24 hc24 => ?_)
        obtain rfl := hk24
        refine oWant rfl rfl ?_
        first | refine oLdX rfl hc24 rfl rfl ?_ | refine oLdXA rfl hc24 rfl (by repeat (first | exact SubL.done | apply SubL.take | apply SubL.drop)) ?_ | (refine oLdR1 rfl (by repeat (first | exact Pick.here | apply Pick.there)) (by omega) rfl (fun u25 hu25 => ?_))
        refine oPickT rfl rfl ?_
        refine oAssign rfl ?_
        refine oNil ?_
        refine thn_n ?_
        refine wRet ?_
        refine fin_r ?_
        refine ⟨rfl, _, (ResL.cons (ResR.tmp rfl) ResL.nil), ?_⟩
        exact ⟨(), trivial, by simp only [resVal, memF]; congr 1; rw [Int.toNat_natCast, getD_at hu24, decide_eq_true (show (0 : Int) ≤ a by omega), decide_eq_true (by omega), decide_eq_true (by omega)]; rfl, (Leads.has (by repeat' (first | exact Has.nil | exact Pick.here | apply Has.cons | apply Pick.there)))⟩
      ·
        refine oSkip rfl rfl rfl rfl ?_
        refine oSkip rfl rfl rfl rfl ?_
        refine oSkip rfl rfl rfl rfl ?_
        refine oSkip rfl rfl rfl rfl ?_
        refine oPickF rfl rfl ?_
        refine oAssign rfl ?_
        refine oNil ?_
        refine thn_n ?_
        refine wRet ?_
        refine fin_r ?_
        refine ⟨rfl, _, (ResL.cons (ResR.tmp rfl) ResL.nil), ?_⟩
        exact ⟨(), trivial, by simp [memF, resVal]; omega, (Leads.has (by repeat' (first | exact Has.nil | exact Pick.here | apply Has.cons | apply Pick.there)))⟩
    ·
      refine oSkip rfl rfl rfl rfl ?_
      refine oSkip rfl rfl rfl rfl ?_
      refine oSkip rfl rfl rfl rfl ?_
      refine oSkip rfl rfl rfl rfl ?_
      refine oPickF rfl rfl ?_
      refine oMove rfl ?_
      refine oSkip rfl rfl rfl rfl ?_
      refine oSkip rfl rfl rfl rfl ?_
      refine oSkip rfl rfl rfl rfl ?_
      refine oSkip rfl rfl rfl rfl ?_
      refine oPickF rfl rfl ?_
      refine oAssign rfl ?_
      refine oNil ?_
      refine thn_n ?_
      refine wRet ?_
      refine fin_r ?_
      refine ⟨rfl, _, (ResL.cons (ResR.tmp rfl) ResL.nil), ?_⟩
      exact ⟨(), trivial, by simp [memF, resVal]; omega, (Leads.has (by repeat' (first | exact Has.nil | exact Pick.here | apply Has.cons | apply Pick.there)))⟩
  ·
    refine oSkip rfl rfl rfl rfl ?_
    refine oSkip rfl rfl rfl rfl ?_
    refine oSkip rfl rfl rfl rfl ?_
    refine oSkip rfl rfl rfl rfl ?_
    refine oPickF rfl rfl ?_
    refine oMove rfl ?_
    refine oSkip rfl rfl rfl rfl ?_
    refine oSkip rfl rfl rfl rfl ?_
    refine oSkip rfl rfl rfl rfl ?_
    refine oSkip rfl rfl rfl rfl ?_
    refine oPickF rfl rfl ?_
    refine oMove rfl ?_
    refine oSkip rfl rfl rfl rfl ?_
    refine oSkip rfl rfl rfl rfl ?_
    refine oSkip rfl rfl rfl rfl ?_
    refine oSkip rfl rfl rfl rfl ?_
    refine oPickF rfl rfl ?_
    refine oAssign rfl ?_
    refine oNil ?_
    refine thn_n ?_
    refine wRet ?_
    refine fin_r ?_
    refine ⟨rfl, _, (ResL.cons (ResR.tmp rfl) ResL.nil), ?_⟩
    exact ⟨(), trivial, by simp [memF, resVal]; omega, (Leads.has (by repeat' (first | exact Has.nil | exact Pick.here | apply Has.cons | apply Pick.there)))⟩
end Go.Proofs.YtnidmlngkpkmlaaG
