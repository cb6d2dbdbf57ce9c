/-
  Package scope: global, all, the iterator.
-/
import Derived.Test.YtnidmlngkpkmlaaKl
import Derived.Test.YtnidmlngkpkmlaaKt
namespace Go.Proofs.YtnidmlngkpkmlaaS
set_option linter.unusedVariables false
set_option linter.unusedSimpArgs false
open Go.RowKit Go.Proofs.YtnidmlngkpkmlaaK Go.Proofs.YtnidmlngkpkmlaaT

def fileSyms (i : Nat) (o : ApiObject) : List (Nat × Nat × ApiSymbol) := o.fSymbols.mapIdx fun k x => (i, k, x)
def symsFrom : Nat → List ApiObject → List (Nat × Nat × ApiSymbol)
  | _, [] => []
  | i, o :: l => fileSyms i o ++ symsFrom (i + 1) l
abbrev symV (x : ApiSymbol) : Value := .agg #[.string x.fName, .bool x.fLocal, .int .i64 x.fSort, .int .i64 x.fKind, .int .i64 x.fDef]
abbrev placeV (p : Nat × Nat) : Value := .agg #[.int .i64 p.1, .int .i64 p.2]
def symArgs (y : Nat × Nat × ApiSymbol) : List Value := [placeV (y.1, y.2.1), symV y.2.2]
def Small (l : List ApiObject) : Prop := l.length ≤ 1000 ∧ ∀ o ∈ l, o.fSymbols.length ≤ 1000
theorem drop_at {α : Type} {l : List α} {j : Nat} {y : α} {r : List α} (h : l.drop j = y :: r) : ∃ hj : j < l.length, l[j] = y ∧ l.drop (j + 1) = r := by
  have hj : j < l.length := by
    rcases Nat.lt_or_ge j l.length with hj | hj
    · exact hj
    · rw [List.drop_of_length_le hj] at h; cases h
  rw [List.drop_eq_getElem_cons hj] at h
  injection h with h1 h2
  exact ⟨hj, h1, h2⟩
theorem drop_file {l : List ApiObject} {i : Nat} {o : ApiObject} (h : l[i]? = some o) : symsFrom i (l.drop i) = fileSyms i o ++ symsFrom (i + 1) (l.drop (i + 1)) := by
  obtain ⟨hi, rfl⟩ := List.getElem?_eq_some_iff.1 h
  rw [List.drop_eq_getElem_cons hi]
  rfl
theorem drop_sym {i k : Nat} {o : ApiObject} {x : ApiSymbol} {r : List (Nat × Nat × ApiSymbol)} (h : o.fSymbols[k]? = some x) : (fileSyms i o).drop k ++ r = (i, k, x) :: ((fileSyms i o).drop (k + 1) ++ r) := by
  obtain ⟨hk, rfl⟩ := List.getElem?_eq_some_iff.1 h
  rw [List.drop_eq_getElem_cons (by simpa [fileSyms] using hk)]
  simp [fileSyms]
def isGlobal (x : ApiSymbol) : Bool := !x.fLocal && !decide (x.fDef = -1)

set_option maxRecDepth 100000 in
theorem global_any {B : Base} {w : World} (hS : St B [] w) (x : ApiSymbol) :
    CallsIn Fence.wide 0 Try.prog 50 #[symV x] w (Ret B (fun _ : Unit => True) (fun _ => .bool (isGlobal x)) (fun _ => [])) := by
  (refine enter Try.func50 rfl rfl hS ?_; simp only [List.zipIdx_cons, List.zipIdx_nil, List.map_cons, List.map_nil, Nat.reduceAdd, Nat.zero_add])
  refine wSeq ?_
  refine wRegion' ?_
  refine oBox rfl (by first | exact CellsOf.agg | exact CellsOf.one rfl) (fun b1 => ?_)
  refine oAssign rfl ?_
  refine oNil ?_
  refine thn_n ?_
  refine wSeq ?_
  refine wRegion' ?_
  refine oFld (n := 1) (m := 1) rfl rfl rfl ?_
  refine oLd rfl (by repeat (first | exact Pick.here | apply Pick.there)) rfl rfl ?_
  first | refine oNot rfl ?_ | refine oNotB rfl ?_
  refine oMove rfl ?_
  first | refine oSplit (t := 6) rfl (fun h6 => ?_) (fun h6 => ?_) | refine oSplitB (t := 6) rfl (fun h6 => ?_) (fun h6 => ?_)
  ·
    refine oWant rfl rfl ?_
    refine oFld (n := 4) (m := 4) rfl rfl rfl ?_
    refine oWant rfl rfl ?_
    refine oLd rfl (by repeat (first | exact Pick.here | apply Pick.there)) rfl rfl ?_
    refine oWant rfl rfl ?_
    refine oNeq rfl rfl ?_
    refine oPickT rfl rfl ?_
    refine oAssign rfl ?_
    refine oNil ?_
    refine thn_n ?_
    refine wRet ?_
    refine fin_r ?_
    refine ⟨rfl, _, (ResL.cons (ResR.tmp rfl) ResL.nil), ?_⟩
    exact ⟨(), trivial, by simp_all [isGlobal, resVal], (Leads.has (by repeat' (first | exact Has.nil | exact Pick.here | apply Has.cons | apply Pick.there)))⟩
  ·
    refine oSkip rfl rfl rfl rfl ?_
    refine oSkip rfl rfl rfl rfl ?_
    refine oSkip rfl rfl rfl rfl ?_
    refine oPickF rfl rfl ?_
    refine oAssign rfl ?_
    refine oNil ?_
    refine thn_n ?_
    refine wRet ?_
    refine fin_r ?_
    refine ⟨rfl, _, (ResL.cons (ResR.tmp rfl) ResL.nil), ?_⟩
    exact ⟨(), trivial, by simp_all [isGlobal, resVal], (Leads.has (by repeat' (first | exact Has.nil | exact Pick.here | apply Has.cons | apply Pick.there)))⟩
set_option maxRecDepth 100000 in
theorem all_any {B : Base} {w : World} (hS : St B [] w) (A : Option Addr) (n cp : Nat) :
    CallsIn Fence.wide 0 Try.prog 49 #[.slice A n cp] w (Ret B (fun _ : Nat => True) (fun b => .func (.func 67) #[] #[.pointer (some ⟨b, 0, none⟩)]) (fun b => [blk b 22 [.slice A n cp]])) := by
  (refine enter Try.func49 rfl rfl hS ?_; simp only [List.zipIdx_cons, List.zipIdx_nil, List.map_cons, List.map_nil, Nat.reduceAdd, Nat.zero_add])
  refine wSeq ?_
  refine wRegion' ?_
  refine oBox rfl (by first | exact CellsOf.agg | exact CellsOf.one rfl) (fun b1 => ?_)
  refine oAssign rfl ?_
  refine oNil ?_
  refine thn_n ?_
  refine wSeq ?_
  refine wRegion' ?_
  refine oMakeFunc rfl ?_
  refine oAssign rfl ?_
  refine oNil ?_
  refine thn_n ?_
  refine wRet ?_
  refine fin_r ?_
  refine ⟨rfl, _, (ResL.cons (ResR.tmp rfl) ResL.nil), ?_⟩
  exact ⟨b1, trivial, rfl, (Leads.has (by repeat' (first | exact Has.nil | exact Pick.here | apply Has.cons | apply Pick.there)))⟩

set_option maxRecDepth 100000 in
set_option maxHeartbeats 600000 in
theorem all1 {B : Base} (l : List ApiObject) (A : Option Addr) (cp b : Nat) (hC : kApiObject.C B.e A l) (hl : Small l) :
    IterC Try.prog 67 #[.pointer (some ⟨b, 0, none⟩)] B ((symsFrom 0 l).map symArgs) [blk b 22 [.slice A l.length cp]] := by
  intro lp AI Ax r0 w hbody hA hS
  have hl1 := hl.1
  show CallsIn Fence.wide 0 Try.prog 67 #[.func (.yield lp) #[] #[], .pointer (some ⟨b, 0, none⟩)] w _
  (refine enter Try.func67 rfl rfl hS ?_; simp only [List.zipIdx_cons, List.zipIdx_nil, List.map_cons, List.map_nil, Nat.reduceAdd, Nat.zero_add])
  refine wSeq ?_
  refine wRegion' ?_
  refine oLd rfl (by repeat (first | exact Pick.here | apply Pick.there)) rfl rfl ?_
  refine oLenS rfl rfl ?_
  refine oMove rfl ?_
  refine oNil ?_
  refine thn_n ?_
  refine wBlock ?_
  refine wLoop (ι := Nat × Nat × Res) (fun z => [(0, .func (.yield lp) #[] #[]), (7, .slice A l.length cp), (8, .int .i64 (l.length : Int)), (9, .int .i64 (z.1 : Int))]) (fun z => [z.2.2, blk b 22 [.slice A l.length cp]]) (fun z => z.1 ≤ l.length ∧ z.2.1 ≤ (symsFrom 0 l).length ∧ AI z.2.1 z.2.2 ∧ (symsFrom 0 l).drop z.2.1 = symsFrom z.1 (l.drop z.1)) (fun z => l.length - z.1) (0, 0, r0) ?_ (by repeat (first | exact trivial | refine And.intro rfl ?_)) (Leads.has (by repeat' (first | exact Has.nil | exact Pick.here | apply Has.cons | apply Pick.there))) ?_
  ·
    exact ⟨Nat.zero_le _, Nat.zero_le _, hA, rfl⟩
  ·
    rintro ⟨i, j0, r0⟩ ⟨hi, hj0, hA, hd⟩
    dsimp only at hi hj0 hA hd
    dsimp only
    refine wSeq ?_
    refine wRegion' ?_
    refine oLss rfl rfl ?_
    refine oNil ?_
    refine thn_n ?_
    refine wSeq ?_
    first | refine wCond rfl (fun h10 => ?_) (fun h10 => ?_) | refine wCondB rfl (fun h10 => ?_) (fun h10 => ?_)
    ·
      refine wSkip ?_
      refine thn_n ?_
      refine wSeq ?_
      refine wBlock ?_
      refine wSeq ?_
      refine wRegion' ?_
      refine oMove rfl ?_
      refine oIdx rfl rfl (hC) rfl (by omega) rfl rfl (fun e12 u12 cs12 hu12 hk12 hc12 => ?_)
      obtain ⟨A0, c0, A1, c1, A2, c2, rfl, l0, g0, l1, g1, l2, g2⟩ := kApiObject_open hk12
      have ho1 := hl.2 _ (List.mem_of_getElem? hu12)
      first | refine oLdX rfl hc12 rfl rfl ?_ | refine oLdXA rfl hc12 rfl (by repeat (first | exact SubL.done | apply SubL.take | apply SubL.drop)) ?_ | (refine oLdR1 rfl (by repeat (first | exact Pick.here | apply Pick.there)) (by omega) rfl (fun u13 hu13 => ?_))
      refine oAlloc rfl (by first | exact CellsOf.agg | exact CellsOf.one rfl) (fun b4 => ?_)
      refine oAssign rfl ?_
      refine oStA rfl rfl rfl rfl (by repeat (first | exact Pick.here | apply Pick.there)) (by rfl) ?_
      refine oNil ?_
      refine thn_n ?_
      refine wSeq ?_
      refine wRegion' ?_
      refine oFld (n := 0) (m := 0) rfl rfl rfl ?_
      refine oLd rfl (by repeat (first | exact Pick.here | apply Pick.there)) rfl rfl ?_
      refine oLenS rfl rfl ?_
      refine oMove rfl ?_
      refine oNil ?_
      refine thn_n ?_
      refine wBlock ?_
      refine wLoop (ι := Nat × Nat × Res) (fun z => [(0, .func (.yield lp) #[] #[]), (7, .slice A l.length cp), (8, .int .i64 (l.length : Int)), (9, .int .i64 (i : Int)), (3, .int .i64 (i : Int)), (15, .slice A0 u12.fSymbols.length c0), (16, .int .i64 (u12.fSymbols.length : Int)), (17, .int .i64 (z.1 : Int))]) (fun z => [z.2.2, blk b 22 [.slice A l.length cp]]) (fun z => z.1 ≤ u12.fSymbols.length ∧ z.2.1 ≤ (symsFrom 0 l).length ∧ AI z.2.1 z.2.2 ∧ (symsFrom 0 l).drop z.2.1 = (fileSyms i u12).drop z.1 ++ symsFrom (i + 1) (l.drop (i + 1))) (fun z => u12.fSymbols.length - z.1) (0, j0, r0) ?_ (by repeat (first | exact trivial | refine And.intro rfl ?_)) (Leads.has (by repeat' (first | exact Has.nil | exact Pick.here | apply Has.cons | apply Pick.there))) ?_
      ·
        exact ⟨Nat.zero_le _, hj0, hA, hd.trans (drop_file hu12)⟩
      ·
        rintro ⟨k, j, r⟩ ⟨hk, hj1, hA, hd2⟩
        dsimp only at hk hj1 hA hd2
        dsimp only
        refine wSeq ?_
        refine wRegion' ?_
        refine oLss rfl rfl ?_
        refine oNil ?_
        refine thn_n ?_
        refine wSeq ?_
        first | refine wCond rfl (fun h18 => ?_) (fun h18 => ?_) | refine wCondB rfl (fun h18 => ?_) (fun h18 => ?_)
        ·
          refine wSkip ?_
          refine thn_n ?_
          refine wSeq ?_
          refine wBlock ?_
          refine wSeq ?_
          refine wRegion' ?_
          refine oMove rfl ?_
          refine oIdx rfl rfl (g0) rfl (by omega) rfl rfl (fun e20 u20 cs20 hu20 hk20 hc20 => ?_)
          obtain rfl := kApiSymbol_open hk20
          obtain ⟨hjlt, hjg, hjd⟩ := drop_at (hd2.trans (drop_sym (r := symsFrom (i + 1) (l.drop (i + 1))) hu20))
          have hY : ∀ Fr W1, St B (r :: Fr) W1 → YieldAt Fence.wide 0 Try.prog lp (symArgs (i, k, u20)).toArray W1 (YEnd B j AI Ax Fr) := by
            intro Fr W1 h1
            have := hbody j (by simpa using hjlt) r Fr W1 hA h1
            rwa [List.getElem_map, hjg] at this
          first | refine oLdX rfl hc20 rfl rfl ?_ | refine oLdXA rfl hc20 rfl (by repeat (first | exact SubL.done | apply SubL.take | apply SubL.drop)) ?_ | (refine oLdR1 rfl (by repeat (first | exact Pick.here | apply Pick.there)) (by omega) rfl (fun u21 hu21 => ?_))
          refine oAlloc rfl (by first | exact CellsOf.agg | exact CellsOf.one rfl) (fun b6 => ?_)
          refine oAssign rfl ?_
          refine oStA rfl rfl rfl rfl (by repeat (first | exact Pick.here | apply Pick.there)) (by rfl) ?_
          refine oNil ?_
          refine thn_n ?_
          refine wSeq ?_
          refine wRegion' ?_
          refine oMove rfl ?_
          refine oMove rfl ?_
          refine oMove rfl ?_
          refine oBuild (Parts.cons rfl (Parts.cons rfl Parts.nil)) rfl rfl (Built.cons (off := 0) (s := 1) rfl (by first | exact CellsOf.agg | exact CellsOf.one rfl) rfl (by repeat (first | exact PutL.done | apply PutL.put | apply PutL.skip)) (Built.cons (off := 1) (s := 1) rfl (by first | exact CellsOf.agg | exact CellsOf.one rfl) rfl (by repeat (first | exact PutL.done | apply PutL.put | apply PutL.skip)) Built.nil)) ?_
          refine oLdA rfl (by repeat (first | exact Pick.here | apply Pick.there)) rfl (by repeat (first | exact SubL.done | apply SubL.take | apply SubL.drop)) ?_
          refine oYield rfl rfl rfl (fun w hS => hY _ w (hS.perm (Pick.perm (by repeat (first | exact Pick.here | apply Pick.there))))) ?_
          rintro ⟨bb, r'⟩ hr'
          dsimp only at hr' ⊢
          first | refine oNot rfl ?_ | refine oNotB rfl ?_
          refine oNil ?_
          refine thn_n ?_
          first | refine wCond rfl (fun h28 => ?_) (fun h28 => ?_) | refine wCondB rfl (fun h28 => ?_) (fun h28 => ?_)
          ·
            refine wRet ?_
            refine blk_r ?_
            refine thn_r ?_
            refine thn_r ?_
            refine blk_r ?_
            refine blk_r ?_
            refine thn_r ?_
            refine thn_r ?_
            refine blk_r ?_
            refine fin_r ?_
            refine ⟨rfl, _, ResL.nil, ?_⟩
            exact ⟨r', .inr ⟨j, by simpa using hjlt, by rw [if_neg (by simpa using h28)] at hr'; exact hr'⟩, rfl, (Leads.has (by repeat' (first | exact Has.nil | exact Pick.here | apply Has.cons | apply Pick.there)))⟩
          ·
            refine wSkip ?_
            refine blk_n ?_
            refine thn_n ?_
            refine wRegion' ?_
            refine oSucc rfl rfl (by omega) ?_
            refine oMove rfl ?_
            refine oNil ?_
            refine thn_n ?_
            exact ⟨rfl, (k + 1, j + 1, r'), ⟨by show k + 1 ≤ _; omega, hjlt, by rw [if_pos (by simpa using h28)] at hr'; exact hr', hjd⟩, by show u12.fSymbols.length - (k + 1) < u12.fSymbols.length - k; omega, (by repeat (first | exact trivial | refine And.intro rfl ?_)), (Leads.has (by repeat' (first | exact Has.nil | exact Pick.here | apply Has.cons | apply Pick.there)))⟩
        ·
          refine wExit ?_
          refine thn_x ?_
          refine thn_x ?_
          refine blk_x ?_
          refine blk_n ?_
          refine thn_n ?_
          refine wRegion' ?_
          refine oSucc rfl rfl (by omega) ?_
          refine oMove rfl ?_
          refine oNil ?_
          refine thn_n ?_
          exact ⟨rfl, (i + 1, j, r), ⟨by show i + 1 ≤ _; omega, hj1, hA, by rw [hd2, List.drop_of_length_le (by simp only [fileSyms, List.length_mapIdx]; omega)]; rfl⟩, by show l.length - (i + 1) < l.length - i; omega, (by repeat (first | exact trivial | refine And.intro rfl ?_)), (Leads.has (by repeat' (first | exact Has.nil | exact Pick.here | apply Has.cons | apply Pick.there)))⟩
    ·
      refine wExit ?_
      refine thn_x ?_
      refine thn_x ?_
      refine blk_x ?_
      refine fin_n ?_
      refine ⟨rfl, _, ResL.nil, ?_⟩
      have hj : j0 = ((symsFrom 0 l).map symArgs).length := by
        obtain rfl : i = l.length := by omega
        rw [List.drop_length, symsFrom] at hd
        have := List.drop_eq_nil_iff.1 hd
        rw [List.length_map]; omega
      exact ⟨r0, .inl (hj ▸ hA), rfl, (Leads.has (by repeat' (first | exact Has.nil | exact Pick.here | apply Has.cons | apply Pick.there)))⟩
end Go.Proofs.YtnidmlngkpkmlaaS
