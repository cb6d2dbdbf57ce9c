/-
  Package digraph: ends and its iterator; the library's AppendSeq and Collect over it.
-/
import Derived.Test.YtnidmlngkpkmlaaKq
import Derived.Test.YtnidmlngkpkmlaaKt
namespace Go.Proofs.YtnidmlngkpkmlaaG
set_option linter.unusedVariables false
set_option linter.unusedSimpArgs false
open Go.RowKit Go.Proofs.YtnidmlngkpkmlaaK Go.Proofs.YtnidmlngkpkmlaaT

abbrev kII : Kd (List Int) := Kd.slice (Kd.int .i64)
abbrev Graph := List (List Int)
def inG (g : Graph) (x : Int) : Bool := decide (0 ≤ x) && decide (x < (g.length : Int))
def endsOf (g : Graph) (a : Nat) : List Int := (g.getD a []).filter (inG g)
def intV (x : Int) : List Value := [.int .i64 x]
theorem getD_at {α : Type} {l : List α} {i : Nat} {o d : α} (h : l[i]? = some o) : l.getD i d = o := by rw [List.getD_eq_getElem?_getD, h]; rfl
theorem filter_drop {u : List Int} {i : Nat} {x : Int} {P : Int → Bool} (h : u[i]? = some x) : (u.drop i).filter P = if P x = true then x :: (u.drop (i + 1)).filter P else (u.drop (i + 1)).filter P := by
  obtain ⟨hi, rfl⟩ := List.getElem?_eq_some_iff.1 h
  rw [List.drop_eq_getElem_cons hi, List.filter_cons]
theorem drop_cons {α : Type} {l : List α} {j : Nat} {y : α} {r : List α} (h : l.drop j = y :: r) : ∃ hj : j < l.length, l[j] = y ∧ l.drop (j + 1) = r := by
  have hj : j < l.length := by
    rcases Nat.lt_or_ge j l.length with hj | hj
    · exact hj
    · rw [List.drop_of_length_le hj] at h; cases h
  rw [List.drop_eq_getElem_cons hj] at h
  injection h with h1 h2
  exact ⟨hj, h1, h2⟩

set_option maxRecDepth 100000 in
theorem ends_any {B : Base} {w : World} (hS : St B [] w) (A : Option Addr) (n cp : Nat) (a : Int) :
    CallsIn Fence.wide 0 Try.prog 75 #[.slice A n cp, .int .i64 a] w (Ret B (fun _ : Nat × Nat => True) (fun p => .func (.func 78) #[] #[.pointer (some ⟨p.1, 0, none⟩), .pointer (some ⟨p.2, 0, none⟩)]) (fun p => [blk p.1 68 [.slice A n cp], blk p.2 3 [.int .i64 a]])) := by
  (refine enter Try.func75 rfl rfl hS ?_; simp only [List.zipIdx_cons, List.zipIdx_nil, List.map_cons, List.map_nil, Nat.reduceAdd, Nat.zero_add])
  refine wSeq ?_
  refine wRegion' ?_
  refine oBox rfl (by first | exact CellsOf.agg | exact CellsOf.one rfl) (fun b2 => ?_)
  refine oBox rfl (by first | exact CellsOf.agg | exact CellsOf.one rfl) (fun b3 => ?_)
  refine oAssign rfl ?_
  refine oNil ?_
  refine thn_n ?_
  refine wSeq ?_
  refine wRegion' ?_
  refine oMakeFunc rfl ?_
  refine oAssign rfl ?_
  refine oNil ?_
  refine thn_n ?_
  refine wRet ?_
  refine fin_r ?_
  refine ⟨rfl, _, (ResL.cons (ResR.tmp rfl) ResL.nil), ?_⟩
  exact ⟨(b2, b3), trivial, rfl, (Leads.has (by repeat' (first | exact Has.nil | exact Pick.here | apply Has.cons | apply Pick.there)))⟩

set_option maxRecDepth 100000 in
set_option maxHeartbeats 600000 in
theorem ends1 {B : Base} (g : Graph) (A : Option Addr) (cp a p2 p3 : Nat) (hC : kII.C B.e A g) (ha : a < g.length) :
    IterC Try.prog 78 #[.pointer (some ⟨p2, 0, none⟩), .pointer (some ⟨p3, 0, none⟩)] B ((endsOf g a).map intV) [blk p2 68 [.slice A g.length cp], blk p3 3 [.int .i64 (a : Int)]] := by
  intro lp AI Ax r0 w hbody hA hS
  have hl1 := hC.1
  show CallsIn Fence.wide 0 Try.prog 78 #[.func (.yield lp) #[] #[], .pointer (some ⟨p2, 0, none⟩), .pointer (some ⟨p3, 0, none⟩)] w _
  (refine enter Try.func78 rfl rfl hS ?_; simp only [List.zipIdx_cons, List.zipIdx_nil, List.map_cons, List.map_nil, Nat.reduceAdd, Nat.zero_add])
  refine wSeq ?_
  refine wRegion' ?_
  refine oLd rfl (by repeat (first | exact Pick.here | apply Pick.there)) rfl rfl ?_
  refine oLd rfl (by repeat (first | exact Pick.here | apply Pick.there)) rfl rfl ?_
  refine oIdx rfl rfl (hC) rfl (by omega) rfl rfl (fun e8 u8 cs8 hu8 hk8 hc8 => ?_)
  obtain ⟨A0, c0, rfl, hle8, g0⟩ := hk8
  have hbig8 := g0.1
  have hends : endsOf g a = u8.filter (inG g) := by unfold endsOf; rw [getD_at hu8]
  first | refine oLdX rfl hc8 rfl rfl ?_ | refine oLdXA rfl hc8 rfl (by repeat (first | exact SubL.done | apply SubL.take | apply SubL.drop)) ?_ | (refine oLdR1 rfl (by repeat (first | exact Pick.here | apply Pick.there)) (by omega) rfl (fun u9 hu9 => ?_))
  refine oLenS rfl rfl ?_
  refine oMove rfl ?_
  refine oNil ?_
  refine thn_n ?_
  refine wBlock ?_
  refine wLoop (ι := Nat × Nat × Res) (fun z => [(0, .func (.yield lp) #[] #[]), (1, .pointer (some ⟨p2, 0, none⟩)), (9, .slice A0 u8.length c0), (10, .int .i64 (u8.length : Int)), (11, .int .i64 (z.1 : Int))]) (fun z => [z.2.2, blk p2 68 [.slice A g.length cp], blk p3 3 [.int .i64 (a : Int)]]) (fun z => z.1 ≤ u8.length ∧ z.2.1 ≤ (endsOf g a).length ∧ AI z.2.1 z.2.2 ∧ (endsOf g a).drop z.2.1 = (u8.drop z.1).filter (inG g)) (fun z => u8.length - z.1) (0, 0, r0) ?_ (by repeat (first | exact trivial | refine And.intro rfl ?_)) (Leads.has (by repeat' (first | exact Has.nil | exact Pick.here | apply Has.cons | apply Pick.there))) ?_
  ·
    exact ⟨Nat.zero_le _, Nat.zero_le _, hA, hends⟩
  ·
    rintro ⟨i, j, r⟩ ⟨hi, hj, hA, hd⟩
    dsimp only at hi hj hA hd
    dsimp only
    refine wSeq ?_
    refine wRegion' ?_
    refine oLss rfl rfl ?_
    refine oNil ?_
    refine thn_n ?_
    refine wSeq ?_
    first | refine wCond rfl (fun h12 => ?_) (fun h12 => ?_) | refine wCondB rfl (fun h12 => ?_) (fun h12 => ?_)
    ·
      refine wSkip ?_
      refine thn_n ?_
      refine wSeq ?_
      refine wBlock ?_
      refine wSeq ?_
      refine wRegion' ?_
      refine oIdx rfl rfl (g0) rfl (by omega) rfl rfl (fun e13 u13 cs13 hu13 hk13 hc13 => ?_)
      obtain rfl := hk13
      have hfd := filter_drop (P := inG g) hu13
      first | refine oLdX rfl hc13 rfl rfl ?_ | refine oLdXA rfl hc13 rfl (by repeat (first | exact SubL.done | apply SubL.take | apply SubL.drop)) ?_ | (refine oLdR1 rfl (by repeat (first | exact Pick.here | apply Pick.there)) (by omega) rfl (fun u14 hu14 => ?_))
      refine oAssign rfl ?_
      refine oNil ?_
      refine thn_n ?_
      refine wSeq ?_
      refine wRegion' ?_
      refine oMove rfl ?_
      refine oGeq rfl rfl ?_
      refine oMove rfl ?_
      first | refine oSplit (t := 17) rfl (fun h17 => ?_) (fun h17 => ?_) | refine oSplitB (t := 17) rfl (fun h17 => ?_) (fun h17 => ?_)
      ·
        refine oWant rfl rfl ?_
        refine oMove rfl ?_
        refine oWant rfl rfl ?_
        refine oLd rfl (by repeat (first | exact Pick.here | apply Pick.there)) rfl rfl ?_
        refine oWant rfl rfl ?_
        refine oLenS rfl rfl ?_
        refine oWant rfl rfl ?_
        refine oLss rfl rfl ?_
        refine oPickT rfl rfl ?_
        refine oMove rfl ?_
        first | refine oSplit (t := 23) rfl (fun h23 => ?_) (fun h23 => ?_) | refine oSplitB (t := 23) rfl (fun h23 => ?_) (fun h23 => ?_)
        ·
          rw [if_pos (by simp [inG]; omega)] at hfd
          obtain ⟨hjlt, hjg, hjd⟩ := drop_cons (hd.trans hfd)
          have hY : ∀ Fr W1, St B (r :: Fr) W1 → YieldAt Fence.wide 0 Try.prog lp (intV u13).toArray W1 (YEnd B j AI Ax Fr) := by
            intro Fr W1 h1
            have := hbody j (by simpa using hjlt) r Fr W1 hA h1
            rwa [List.getElem_map, hjg] at this
          refine oWant rfl rfl ?_
          refine oMove rfl ?_
          refine oWant rfl rfl ?_
          refine oMove rfl ?_
          refine oWant rfl rfl ?_
          refine oYield rfl rfl rfl (fun w hS => hY _ w (hS.perm (Pick.perm (by repeat (first | exact Pick.here | apply Pick.there))))) ?_
          rintro ⟨bb, r'⟩ hr'
          dsimp only at hr' ⊢
          refine oWant rfl rfl ?_
          first | refine oNot rfl ?_ | refine oNotB rfl ?_
          refine oPickT rfl rfl ?_
          refine oNil ?_
          refine thn_n ?_
          first | refine wCond rfl (fun h28 => ?_) (fun h28 => ?_) | refine wCondB rfl (fun h28 => ?_) (fun h28 => ?_)
          ·
            refine wRet ?_
            refine blk_r ?_
            refine thn_r ?_
            refine thn_r ?_
            refine blk_r ?_
            refine fin_r ?_
            refine ⟨rfl, _, ResL.nil, ?_⟩
            exact ⟨r', .inr ⟨j, by simpa using hjlt, by rw [if_neg (by simpa using h28)] at hr'; exact hr'⟩, rfl, (Leads.has (by repeat' (first | exact Has.nil | exact Pick.here | apply Has.cons | apply Pick.there)))⟩
          ·
            refine wSkip ?_
            refine blk_n ?_
            refine thn_n ?_
            refine wRegion' ?_
            refine oSucc rfl rfl (by omega) ?_
            refine oMove rfl ?_
            refine oNil ?_
            refine thn_n ?_
            exact ⟨rfl, (i + 1, j + 1, r'), ⟨by show i + 1 ≤ _; omega, hjlt, by rw [if_pos (by simpa using h28)] at hr'; exact hr', hjd⟩, by show u8.length - (i + 1) < u8.length - i; omega, (by repeat (first | exact trivial | refine And.intro rfl ?_)), (Leads.has (by repeat' (first | exact Has.nil | exact Pick.here | apply Has.cons | apply Pick.there)))⟩
        ·
          refine oSkip rfl rfl rfl rfl ?_
          refine oSkip rfl rfl rfl rfl ?_
          refine oSkip rfl rfl rfl rfl ?_
          refine oSkip rfl rfl rfl rfl ?_
          refine oPickF rfl rfl ?_
          refine oNil ?_
          refine thn_n ?_
          refine wCondF rfl ?_
          refine wSkip ?_
          refine blk_n ?_
          refine thn_n ?_
          refine wRegion' ?_
          refine oSucc rfl rfl (by omega) ?_
          refine oMove rfl ?_
          refine oNil ?_
          refine thn_n ?_
          exact ⟨rfl, (i + 1, j, r), ⟨by show i + 1 ≤ _; omega, hj, hA, by rw [hd, hfd, if_neg (by simp [inG]; omega)]⟩, by show u8.length - (i + 1) < u8.length - i; omega, (by repeat (first | exact trivial | refine And.intro rfl ?_)), (Leads.has (by repeat' (first | exact Has.nil | exact Pick.here | apply Has.cons | apply Pick.there)))⟩
      ·
        refine oSkip rfl rfl rfl rfl ?_
        refine oSkip rfl rfl rfl rfl ?_
        refine oSkip rfl rfl rfl rfl ?_
        refine oSkip rfl rfl rfl rfl ?_
        refine oPickF rfl rfl ?_
        refine oMove rfl ?_
        refine oSkip rfl rfl rfl rfl ?_
        refine oSkip rfl rfl rfl rfl ?_
        refine oSkip rfl rfl rfl rfl ?_
        refine oSkip rfl rfl rfl rfl ?_
        refine oPickF rfl rfl ?_
        refine oNil ?_
        refine thn_n ?_
        refine wCondF rfl ?_
        refine wSkip ?_
        refine blk_n ?_
        refine thn_n ?_
        refine wRegion' ?_
        refine oSucc rfl rfl (by omega) ?_
        refine oMove rfl ?_
        refine oNil ?_
        refine thn_n ?_
        exact ⟨rfl, (i + 1, j, r), ⟨by show i + 1 ≤ _; omega, hj, hA, by rw [hd, hfd, if_neg (by simp [inG]; omega)]⟩, by show u8.length - (i + 1) < u8.length - i; omega, (by repeat (first | exact trivial | refine And.intro rfl ?_)), (Leads.has (by repeat' (first | exact Has.nil | exact Pick.here | apply Has.cons | apply Pick.there)))⟩
    ·
      refine wExit ?_
      refine thn_x ?_
      refine thn_x ?_
      refine blk_x ?_
      refine fin_n ?_
      refine ⟨rfl, _, ResL.nil, ?_⟩
      have hj : j = ((endsOf g a).map intV).length := by
        obtain rfl : i = u8.length := by omega
        rw [List.drop_length] at hd
        have := List.drop_eq_nil_iff.1 hd
        rw [List.length_map]; omega
      exact ⟨r, .inl (hj ▸ hA), rfl, (Leads.has (by repeat' (first | exact Has.nil | exact Pick.here | apply Has.cons | apply Pick.there)))⟩

set_option maxRecDepth 100000 in
set_option maxHeartbeats 600000 in
theorem appendSeq_any {B : Base} {w : World} (g : Graph) (A : Option Addr) (cp a p2 p3 : Nat) (hS : St B [blk p2 68 [.slice A g.length cp], blk p3 3 [.int .i64 (a : Int)]] w) (hC : kII.C B.e A g) (ha : a < g.length) (hsm : (endsOf g a).length ≤ 1000000) (W0 : World) :
    CallsIn Fence.wide 0 Try.prog 81 #[.slice none 0 0, .func (.func 78) #[] #[.pointer (some ⟨p2, 0, none⟩), .pointer (some ⟨p3, 0, none⟩)]] w
      (Ret B (fun _ : Option Addr × Nat => True) (fun z => .slice z.1 (endsOf g a).length z.2) (fun z => [row (Kd.int .i64) W0 3 (.slice z.1 (endsOf g a).length z.2) (endsOf g a)])) := by
  (refine enterM Try.func81 rfl rfl hS ?_; simp only [List.zipIdx_cons, List.zipIdx_nil, List.map_cons, List.map_nil, Nat.reduceAdd, Nat.zero_add])
  refine wSeq ?_
  refine wRegion' ?_
  refine oBox rfl (by first | exact CellsOf.agg | exact CellsOf.one rfl) (fun b2 => ?_)
  refine oAssign rfl ?_
  refine oNil ?_
  refine thn_n ?_
  refine wSeq ?_
  refine wSeq ?_
  refine wRegion' ?_
  refine oMove rfl ?_
  refine oNil ?_
  refine thn_n ?_
  refine wBlock ?_
  refine wRange rfl rfl (by kernel_rfl) (ends1 g A cp a p2 p3 hC ha) (by rintro _ h; obtain ⟨y, _, rfl⟩ := List.mem_map.1 h; rfl) rfl (ι := Nat × Option Addr × Nat) (κ := Unit) (fun j z => z.1 = j) (fun z => [blk b2 50 [.slice z.2.1 z.1 z.2.2], row (Kd.int .i64) W0 3 (.slice z.2.1 z.1 z.2.2) ((endsOf g a).take z.1)]) (fun x z => False) (fun x z => []) (0, none, 0) rfl (Leads.nilrow.trans (Leads.has (by repeat' (first | exact Has.nil | exact Pick.here | apply Has.cons | apply Pick.there)))) ?_ ?_ ?_
  ·
    intro lp0 B' R1 R2 j hj
    rintro ⟨i, A2, c2⟩ hB rfl
    dsimp only
    have hj' : i < (endsOf g a).length := by simpa using hj
    have hlt : ((endsOf g a).take i).length = i := by simp; omega
    have htk : (endsOf g a).take i ++ [(endsOf g a)[i]] = (endsOf g a).take (i + 1) := (List.take_succ_eq_append_getElem hj').symm
    rw [List.getElem_map]
    generalize (endsOf g a)[i] = x at *
    dsimp only [hand, intV]
    refine wRegion' ?_
    refine oAssign rfl ?_
    refine oNil ?_
    refine aq_n (by repeat (first | exact Pick.here | apply Pick.there)) ?_
    refine wBlock ?_
    refine wRegion' ?_
    refine oLd rfl (by repeat (first | exact Pick.here | apply Pick.there)) rfl rfl ?_
    refine oMove rfl ?_
    refine oBuildSlice1 rfl rfl rfl rfl rfl (by first | exact CellsOf.agg | exact CellsOf.one rfl) rfl (fun b10 => ?_)
    refine oApp1 x rfl rfl rfl rfl (by repeat (first | exact Pick.here | apply Pick.there)) (by repeat (first | exact Pick.here | apply Pick.there)) rfl (by omega) rfl (fun g11 cp11 => ?_)
    rw [hlt, htk]
    refine oSt rfl rfl rfl rfl rfl (by repeat (first | exact Pick.here | apply Pick.there)) (by repeat (first | exact SetAt.here | apply SetAt.there)) ?_
    refine oNil ?_
    refine blk_n ?_
    refine rq_n ?_
    exact ⟨(i + 1, some ⟨g11, 0, none⟩, cp11), rfl, (Leads.has (by repeat' (first | exact Has.nil | exact Pick.here | apply Has.cons | apply Pick.there)))⟩
  ·
    rintro ⟨i, A2, c2⟩ Dm0 h
    dsimp only at h
    rw [List.length_map] at h
    subst h
    dsimp only
    rw [List.take_length]
    try dsimp only
    refine blk_n ?_
    refine thn_n ?_
    refine wSeq ?_
    refine wRegion' ?_
    refine oLd rfl (by repeat (first | exact Pick.here | apply Pick.there)) rfl rfl ?_
    refine oAssign rfl ?_
    refine oNil ?_
    refine thn_n ?_
    refine wRet ?_
    refine finM_r (Ds := [Dm0]) rfl (by repeat' (first | exact Split.nil | exact Pick.here | apply Split.cons | apply Pick.there)) (ResL.cons (ResR.tmp rfl) ResL.nil) ?_
    exact ⟨(A2, c2), trivial, rfl, (Leads.has (by repeat' (first | exact Has.nil | exact Pick.here | apply Has.cons | apply Pick.there)))⟩
  ·
    rintro _ _ _ h; exact h.elim
set_option maxRecDepth 100000 in
theorem collect_any {B : Base} {w : World} (g : Graph) (A : Option Addr) (cp a p2 p3 : Nat) (hS : St B [blk p2 68 [.slice A g.length cp], blk p3 3 [.int .i64 (a : Int)]] w) (hC : kII.C B.e A g) (ha : a < g.length) (hsm : (endsOf g a).length ≤ 1000000) (W0 : World) :
    CallsIn Fence.wide 0 Try.prog 79 #[.func (.func 78) #[] #[.pointer (some ⟨p2, 0, none⟩), .pointer (some ⟨p3, 0, none⟩)]] w
      (Ret B (fun _ : Option Addr × Nat => True) (fun z => .slice z.1 (endsOf g a).length z.2) (fun z => [row (Kd.int .i64) W0 3 (.slice z.1 (endsOf g a).length z.2) (endsOf g a)])) := by
  (refine enter Try.func79 rfl rfl hS ?_; simp only [List.zipIdx_cons, List.zipIdx_nil, List.map_cons, List.map_nil, Nat.reduceAdd, Nat.zero_add])
  refine wSeq ?_
  refine wRegion' ?_
  refine oAssign rfl ?_
  refine oNil ?_
  refine thn_n ?_
  refine wSeq ?_
  refine wRegion' ?_
  refine oMove rfl ?_
  (refine oCall rfl (by kernel_rfl) (fun w hS => frame hS (by repeat' (first | exact Split.nil | exact Pick.here | apply Split.cons | apply Pick.there)) (fun B' hB hS' => appendSeq_any g A cp a p2 p3 hS' (Kd.C_grow hB hC) ha hsm W0)) ?_; rintro ⟨A1, c1⟩ -)
  refine oAssign rfl ?_
  refine oNil ?_
  refine thn_n ?_
  refine wRet ?_
  refine fin_r ?_
  refine ⟨rfl, _, (ResL.cons (ResR.tmp rfl) ResL.nil), ?_⟩
  exact ⟨(A1, c1), trivial, rfl, (Leads.has (by repeat' (first | exact Has.nil | exact Pick.here | apply Has.cons | apply Pick.there)))⟩
end Go.Proofs.YtnidmlngkpkmlaaG
