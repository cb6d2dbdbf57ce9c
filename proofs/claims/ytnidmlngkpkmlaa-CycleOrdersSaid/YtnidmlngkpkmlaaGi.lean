/-
  The reference's On; graphs turned: Turn, and the reference's Clean.
-/
import Derived.Test.YtnidmlngkpkmlaaGh
namespace Go.Proofs.YtnidmlngkpkmlaaG
set_option linter.unusedVariables false
set_option linter.unusedSimpArgs false
open Go.RowKit Go.Proofs.YtnidmlngkpkmlaaK Go.Proofs.YtnidmlngkpkmlaaT Go.Proofs.YtnidmlngkpkmlaaL

set_option maxRecDepth 100000 in
set_option maxHeartbeats 1000000 in
theorem refOn {B : Base} {w : World} (hS : St B [] w) (g : Graph) (A : Option Addr) (cp : Nat) (hC : kII.C B.e A g) (hsm : SmallG g) (ib : List Bool) (A1 : Option Addr) (cp1 : Nat) (hC1 : Kd.bool.C B.e A1 ib) (W0 : World) :
    CallsIn Fence.wide 0 Try.prog 41 #[.slice A g.length cp, .slice A1 ib.length cp1] w
      (Ret B (fun _ : Option Addr × Nat => True) (fun z => .slice z.1 (onL g ib).length z.2) (fun z => [row (Kd.int .i64) W0 3 (.slice z.1 (onL g ib).length z.2) (onL g ib)])) := by
  have hn := hsm.1
  have hsr := withinR_small (ib := ib) hsm
  have hrl := withinR_len g ib
  (refine enter Try.func41 rfl rfl hS ?_; simp only [List.zipIdx_cons, List.zipIdx_nil, List.map_cons, List.map_nil, Nat.reduceAdd, Nat.zero_add])
  refine wSeq ?_
  refine wRegion' ?_
  refine oAssign rfl ?_
  refine oNil ?_
  refine thn_n ?_
  refine wSeq ?_
  refine wRegion' ?_
  refine oMove rfl ?_
  refine oMove rfl ?_
  (refine oCall rfl (by kernel_rfl) (fun w hS => frame hS (by repeat' (first | exact Split.nil | exact Pick.here | apply Split.cons | apply Pick.there)) (fun B' hB hS' => refWithin hS' g A cp (Kd.C_grow hB hC) hsm ib A1 cp1 (Kd.C_grow hB hC1) B.e)) ?_; rintro ⟨A10, c10, hs10⟩ hl10)
  dsimp only at hl10
  refine oSet (t := 10) (v' := .slice A10 (withinR g ib).length c10) rfl (by rw [hrl]) ?_
  refine oAssign rfl ?_
  refine oNil ?_
  refine thn_n ?_
  refine wFreeze [row kHdr B.e 50 (.slice A10 g.length c10) hs10, bun (rws (Kd.int .i64) B.e 3 hs10 (withinR g ib))] (by repeat' (first | exact Split.nil | exact Pick.here | apply Split.cons | apply Pick.there)) (fun B1 hB1 hq1 => ?_)
  have hCw := grid_C (hq1 _ _ (by repeat (first | exact Pick.here | apply Pick.there))) (hq1 _ _ (by repeat (first | exact Pick.here | apply Pick.there))) (by rw [hrl]; exact hl10) hB1
  have hC := Kd.C_grow hB1 hC
  have hC1 := Kd.C_grow hB1 hC1
  refine wSeq ?_
  refine wRegion' ?_
  refine oAssign rfl ?_
  refine oNil ?_
  refine thn_n ?_
  refine wSeq ?_
  refine wSeq ?_
  refine wRegion' ?_
  refine oAssign rfl ?_
  refine oNil ?_
  refine thn_n ?_
  refine wBlock ?_
  refine wLoop (ι := Nat × Option Addr × Nat) (fun z => [(0, .slice A g.length cp), (1, .slice A1 ib.length cp1), (5, .slice A10 (withinR g ib).length c10), (6, .slice z.2.1 (selTo (fun a => memF g ib a && onP (withinR g ib) a) z.1).length z.2.2), (7, .int .i64 (z.1 : Int))]) (fun z => [row (Kd.int .i64) W0 3 (.slice z.2.1 (selTo (fun a => memF g ib a && onP (withinR g ib) a) z.1).length z.2.2) (selTo (fun a => memF g ib a && onP (withinR g ib) a) z.1)]) (fun z => z.1 ≤ g.length) (fun z => g.length - z.1) (0, none, 0) ?_ (by repeat (first | exact trivial | refine And.intro rfl ?_)) (Leads.nilrow.trans (Leads.has (by repeat' (first | exact Has.nil | exact Pick.here | apply Has.cons | apply Pick.there)))) ?_
  ·
    exact Nat.zero_le _
  ·
    rintro ⟨i, A6, c6⟩ hi
    dsimp only at hi
    have hss := selTo_succ (fun a => memF g ib a && onP (withinR g ib) a) i
    have hsl := selTo_len (fun a => memF g ib a && onP (withinR g ib) a) i
    dsimp only
    refine wSeq ?_
    refine wSeq ?_
    refine wRegion' ?_
    refine oMove rfl ?_
    refine oMove rfl ?_
    refine oLenS rfl rfl ?_
    refine oLss rfl rfl ?_
    refine oNil ?_
    refine thn_n ?_
    first | refine wCond rfl (fun h14 => ?_) (fun h14 => ?_) | refine wCondB rfl (fun h14 => ?_) (fun h14 => ?_)
    ·
      refine wSkip ?_
      refine thn_n ?_
      refine wSeq ?_
      refine wBlock ?_
      refine wSeq ?_
      refine wRegion' ?_
      refine oMove rfl ?_
      refine oMove rfl ?_
      refine oMove rfl ?_
      (refine oCall rfl (by kernel_rfl) (fun w hS => frame hS (by repeat' (first | exact Split.nil | exact Pick.here | apply Split.cons | apply Pick.there)) (fun B' hB hS' => member_any hS' A cp g A1 cp1 ib (Kd.C_grow hB hC1) (i : Int))) ?_; rintro ⟨⟩ -)
      refine oMove rfl ?_
      first | refine oSplit (t := 21) rfl (fun h21 => ?_) (fun h21 => ?_) | refine oSplitB (t := 21) rfl (fun h21 => ?_) (fun h21 => ?_)
      ·
        refine oWant rfl rfl ?_
        refine oMove rfl ?_
        refine oWant rfl rfl ?_
        refine oMove rfl ?_
        refine oWant rfl rfl ?_
        refine oMove rfl ?_
        refine oWant rfl rfl ?_
        refine oIdx rfl rfl (hCw) rfl (by omega) rfl rfl (fun e25 u25 cs25 hu25 hk25 hc25 => ?_)
        obtain ⟨A0, c0, rfl, hle25, g0⟩ := hk25
        refine oWant rfl rfl ?_
        first | refine oLdX rfl hc25 rfl rfl ?_ | refine oLdXA rfl hc25 rfl (by repeat (first | exact SubL.done | apply SubL.take | apply SubL.drop)) ?_ | (refine oLdR1 rfl (by repeat (first | exact Pick.here | apply Pick.there)) (by omega) rfl (fun u26 hu26 => ?_))
        refine oWant rfl rfl ?_
        (refine oCall rfl (by kernel_rfl) (fun w hS => frame hS (by repeat' (first | exact Split.nil | exact Pick.here | apply Split.cons | apply Pick.there)) (fun B' hB hS' => refReach hS' (withinR g ib) A10 c10 (Kd.C_grow hB hCw) hsr u25 A0 c0 (Kd.C_grow hB g0) B.e)) ?_; rintro ⟨A27, c27, out⟩ ⟨hol, hor⟩)
        dsimp only at hol hor ⊢
        refine oWant rfl rfl ?_
        refine oMove rfl ?_
        refine oWant rfl rfl ?_
        refine oIdxR rfl rfl (by repeat (first | exact Pick.here | apply Pick.there)) (by omega) rfl rfl (fun g29 hg29 => ?_)
        first | subst hg29 | (injection hg29 with hg29; injection hg29 with hg29; subst hg29)
        refine oWant rfl rfl ?_
        first | refine oLdX rfl hc29 rfl rfl ?_ | refine oLdXA rfl hc29 rfl (by repeat (first | exact SubL.done | apply SubL.take | apply SubL.drop)) ?_ | (refine oLdR1 rfl (by repeat (first | exact Pick.here | apply Pick.there)) (by omega) rfl (fun u30 hu30 => ?_))
        have hon : u30 = onP (withinR g ib) i := on_eq (by rw [getD_at hu25, ← hor i, hu30]; simp)
        refine oPickT rfl rfl ?_
        refine oNil ?_
        refine thn_n ?_
        first | refine wCond rfl (fun h31 => ?_) (fun h31 => ?_) | refine wCondB rfl (fun h31 => ?_) (fun h31 => ?_)
        ·
          refine wRegion' ?_
          refine oMove rfl ?_
          refine oMove rfl ?_
          refine oBuildSlice1 rfl rfl rfl rfl rfl (by first | exact CellsOf.agg | exact CellsOf.one rfl) rfl (fun b34 => ?_)
          refine oApp1 (i : Int) rfl rfl rfl rfl (by repeat (first | exact Pick.here | apply Pick.there)) (by repeat (first | exact Pick.here | apply Pick.there)) rfl (by omega) rfl (fun g35 cp35 => ?_)
          rw [if_pos (by simp [← hon, h21, h31])] at hss
          rw [show (selTo (fun a => memF g ib a && onP (withinR g ib) a) i).length + 1 = (selTo (fun a => memF g ib a && onP (withinR g ib) a) (i + 1)).length by rw [hss, List.length_append]; rfl, ← hss]
          refine oAssign rfl ?_
          refine oNil ?_
          refine blk_n ?_
          refine thn_n ?_
          refine wRegion' ?_
          refine oMove rfl ?_
          refine oSucc rfl rfl (by omega) ?_
          refine oAssign rfl ?_
          refine oNil ?_
          refine thn_n ?_
          exact ⟨rfl, (i + 1, some ⟨g35, 0, none⟩, cp35), by show i + 1 ≤ _; omega, by show g.length - (i + 1) < g.length - i; omega, (by repeat (first | exact trivial | refine And.intro rfl ?_)), (Leads.has (by repeat' (first | exact Has.nil | exact Pick.here | apply Has.cons | apply Pick.there)))⟩
        ·
          refine wSkip ?_
          refine blk_n ?_
          refine thn_n ?_
          refine wRegion' ?_
          refine oMove rfl ?_
          refine oSucc rfl rfl (by omega) ?_
          refine oAssign rfl ?_
          refine oNil ?_
          refine thn_n ?_
          rw [if_neg (by simp [← hon, h31]), List.append_nil] at hss
          exact ⟨rfl, (i + 1, A6, c6), by show i + 1 ≤ _; omega, by show g.length - (i + 1) < g.length - i; omega, by dsimp only; rw [hss]; exact (by repeat (first | exact trivial | refine And.intro rfl ?_)), by dsimp only; rw [hss]; exact (Leads.has (by repeat' (first | exact Has.nil | exact Pick.here | apply Has.cons | apply Pick.there)))⟩
      ·
        refine oSkip rfl rfl rfl rfl ?_
        refine oSkip rfl rfl rfl rfl ?_
        refine oSkip rfl rfl rfl rfl ?_
        refine oSkip rfl rfl rfl rfl ?_
        refine oSkip rfl rfl rfl rfl ?_
        refine oSkip rfl rfl rfl rfl ?_
        refine oSkip rfl rfl rfl rfl ?_
        refine oSkip rfl rfl rfl rfl ?_
        refine oSkip rfl rfl rfl rfl ?_
        refine oPickF rfl rfl ?_
        refine oNil ?_
        refine thn_n ?_
        refine wCondF rfl ?_
        refine wSkip ?_
        refine blk_n ?_
        refine thn_n ?_
        refine wRegion' ?_
        refine oMove rfl ?_
        refine oSucc rfl rfl (by omega) ?_
        refine oAssign rfl ?_
        refine oNil ?_
        refine thn_n ?_
        rw [if_neg (by simp [h21]), List.append_nil] at hss
        exact ⟨rfl, (i + 1, A6, c6), by show i + 1 ≤ _; omega, by show g.length - (i + 1) < g.length - i; omega, by dsimp only; rw [hss]; exact (by repeat (first | exact trivial | refine And.intro rfl ?_)), by dsimp only; rw [hss]; exact (Leads.has (by repeat' (first | exact Has.nil | exact Pick.here | apply Has.cons | apply Pick.there)))⟩
    ·
      obtain rfl : i = g.length := by omega
      refine wExit ?_
      refine thn_x ?_
      refine thn_x ?_
      refine blk_x ?_
      refine thn_n ?_
      refine wSeq ?_
      refine wRegion' ?_
      refine oMove rfl ?_
      refine oAssign rfl ?_
      refine oNil ?_
      refine thn_n ?_
      refine wRet ?_
      refine fin_r ?_
      refine ⟨rfl, _, (ResL.cons (ResR.tmp rfl) ResL.nil), ?_⟩
      exact ⟨(A6, c6), trivial, rfl, (Leads.has (by repeat' (first | exact Has.nil | exact Pick.here | apply Has.cons | apply Pick.there)))⟩
/-- Edges turned: whence edges lead to a place, up to n. -/
def turnTo (g : Graph) (b n : Nat) : List Int := selTo (fun a => decide ((b : Int) ∈ endsOf g a)) n
def turnG (g : Graph) : Graph := (List.range g.length).map fun b => turnTo g b g.length
theorem turnG_len (g : Graph) : (turnG g).length = g.length := by simp [turnG]
theorem turnG_at {g : Graph} {b : Nat} (h : b < g.length) : (turnG g)[b]? = some (turnTo g b g.length) := by simp [turnG, h]
theorem turnG_small {g : Graph} (h : SmallG g) : SmallG (turnG g) := by
  refine ⟨by rw [turnG_len]; exact h.1, fun l hl => ?_⟩
  obtain ⟨a, ha, rfl⟩ := List.mem_map.1 hl
  exact Nat.le_trans (selTo_len _ _) h.1
theorem edge_ends {g : Graph} {a b : Nat} (ha : a < g.length) (hb : b < g.length) : edgeF g (a : Int) (b : Int) = decide ((b : Int) ∈ endsOf g a) := by
  unfold edgeF endsOf
  rw [Int.toNat_natCast, decide_eq_true (show (0 : Int) ≤ a by omega), decide_eq_true (show (a : Int) < g.length by omega), decide_eq_true (show (0 : Int) ≤ b by omega), decide_eq_true (show (b : Int) < g.length by omega)]
  simp only [Bool.true_and]
  congr 1
  rw [List.mem_filter]
  have : inG g (b : Int) = true := inG_iff.2 ⟨by omega, by omega⟩
  simp [this]
set_option maxRecDepth 100000 in
set_option maxHeartbeats 1000000 in
theorem refTurn {B : Base} {w : World} (hS : St B [] w) (g : Graph) (A : Option Addr) (cp : Nat) (hC : kII.C B.e A g) (hsm : SmallG g) (W0 : World) :
    CallsIn Fence.wide 0 Try.prog 60 #[.slice A g.length cp, .bool true] w
      (Ret B (fun z : Option Addr × Nat × List Hdr => z.2.2.length = g.length) (fun z => .slice z.1 g.length z.2.1) (fun z => [row kHdr W0 50 (.slice z.1 g.length z.2.1) z.2.2, bun (rws (Kd.int .i64) W0 3 z.2.2 (turnG g))])) := by
  have hn := hsm.1
  (refine enter Try.func60 rfl rfl hS ?_; simp only [List.zipIdx_cons, List.zipIdx_nil, List.map_cons, List.map_nil, Nat.reduceAdd, Nat.zero_add])
  refine wSeq ?_
  refine wRegion' ?_
  refine oAssign rfl ?_
  refine oNil ?_
  refine thn_n ?_
  refine wSeq ?_
  refine wRegion' ?_
  refine oAssign rfl ?_
  refine oNil ?_
  refine thn_n ?_
  refine wSeq ?_
  refine wSeq ?_
  refine wRegion' ?_
  refine oAssign rfl ?_
  refine oNil ?_
  refine thn_n ?_
  refine wBlock ?_
  refine wLoop (ι := Nat × List Hdr × Option Addr × Nat) (fun z => [(0, .slice A g.length cp), (1, .bool true), (5, .slice z.2.2.1 z.1 z.2.2.2), (6, .int .i64 (z.1 : Int))]) (fun z => [row kHdr W0 50 (.slice z.2.2.1 z.1 z.2.2.2) z.2.1, bun (rws (Kd.int .i64) W0 3 z.2.1 ((turnG g).take z.1))]) (fun z => z.1 ≤ g.length ∧ z.2.1.length = z.1) (fun z => g.length - z.1) (0, [], none, 0) ?_ (by repeat (first | exact trivial | refine And.intro rfl ?_)) (Leads.nilrow.trans (bun_nil.trans (Leads.has (by repeat' (first | exact Has.nil | exact Pick.here | apply Has.cons | apply Pick.there))))) ?_
  ·
    exact ⟨Nat.zero_le _, rfl⟩
  ·
    rintro ⟨a, hs, A5, c5⟩ ⟨ha, hl⟩
    dsimp only at ha hl
    have hxl : ((turnG g).take a).length = a := by rw [List.length_take, turnG_len]; omega
    dsimp only
    refine wSeq ?_
    refine wSeq ?_
    refine wRegion' ?_
    refine oMove rfl ?_
    refine oMove rfl ?_
    refine oLenS rfl rfl ?_
    refine oLss rfl rfl ?_
    refine oNil ?_
    refine thn_n ?_
    first | refine wCond rfl (fun h12 => ?_) (fun h12 => ?_) | refine wCondB rfl (fun h12 => ?_) (fun h12 => ?_)
    ·
      refine wSkip ?_
      refine thn_n ?_
      refine wSeq ?_
      refine wBlock ?_
      refine wSeq ?_
      refine wRegion' ?_
      refine oAssign rfl ?_
      refine oNil ?_
      refine thn_n ?_
      refine wSeq ?_
      refine wSeq ?_
      refine wRegion' ?_
      refine oAssign rfl ?_
      refine oNil ?_
      refine thn_n ?_
      refine wBlock ?_
      refine wLoop (ι := Nat × Option Addr × Nat) (fun z => [(0, .slice A g.length cp), (1, .bool true), (5, .slice A5 a c5), (6, .int .i64 (a : Int)), (7, .slice z.2.1 (turnTo g a z.1).length z.2.2), (8, .int .i64 (z.1 : Int))]) (fun z => [row kHdr W0 50 (.slice A5 a c5) hs, bun (rws (Kd.int .i64) W0 3 hs ((turnG g).take a)), row (Kd.int .i64) W0 3 (.slice z.2.1 (turnTo g a z.1).length z.2.2) (turnTo g a z.1)]) (fun z => z.1 ≤ g.length) (fun z => g.length - z.1) (0, none, 0) ?_ (by repeat (first | exact trivial | refine And.intro rfl ?_)) (Leads.nilrow.trans (Leads.has (by repeat' (first | exact Has.nil | exact Pick.here | apply Has.cons | apply Pick.there)))) ?_
      ·
        exact Nat.zero_le _
      ·
        rintro ⟨i, A7, c7⟩ hi
        dsimp only at hi
        have hss : turnTo g a (i + 1) = turnTo g a i ++ _ := selTo_succ _ i
        have hsl : (turnTo g a i).length ≤ i := selTo_len _ i
        dsimp only
        refine wSeq ?_
        refine wSeq ?_
        refine wRegion' ?_
        refine oMove rfl ?_
        refine oMove rfl ?_
        refine oLenS rfl rfl ?_
        refine oLss rfl rfl ?_
        refine oNil ?_
        refine thn_n ?_
        first | refine wCond rfl (fun h18 => ?_) (fun h18 => ?_) | refine wCondB rfl (fun h18 => ?_) (fun h18 => ?_)
        ·
          refine wSkip ?_
          refine thn_n ?_
          refine wSeq ?_
          refine wBlock ?_
          refine wSeq ?_
          refine wRegion' ?_
          refine oMove rfl ?_
          first | refine oNot rfl ?_ | refine oNotB rfl ?_
          refine oSet (t := 22) (v' := .bool false) rfl (by simp) ?_
          refine oMove rfl ?_
          refine oSkip rfl rfl rfl rfl ?_
          refine oSkip rfl rfl rfl rfl ?_
          refine oSkip rfl rfl rfl rfl ?_
          refine oSkip rfl rfl rfl rfl ?_
          refine oPickF rfl rfl ?_
          refine oMove rfl ?_
          refine oWant rfl rfl ?_
          refine oMove rfl ?_
          refine oWant rfl rfl ?_
          refine oMove rfl ?_
          refine oWant rfl rfl ?_
          refine oMove rfl ?_
          refine oWant rfl rfl ?_
          refine oMove rfl ?_
          refine oWant rfl rfl ?_
          refine oMove rfl ?_
          refine oWant rfl rfl ?_
          (refine oCall rfl (by kernel_rfl) (fun w hS => frame hS (by repeat' (first | exact Split.nil | exact Pick.here | apply Split.cons | apply Pick.there)) (fun B' hB hS' => edge_any hS' A cp g (Kd.C_grow hB hC) (i : Int) (a : Int))) ?_; rintro ⟨⟩ -)
          rw [edge_ends (by omega) (by omega)]
          refine oWant rfl rfl ?_
          refine oPickT rfl rfl ?_
          refine oPickF rfl rfl ?_
          refine oNil ?_
          refine thn_n ?_
          first | refine wCond rfl (fun h37 => ?_) (fun h37 => ?_) | refine wCondB rfl (fun h37 => ?_) (fun h37 => ?_)
          ·
            refine wRegion' ?_
            refine oMove rfl ?_
            refine oMove rfl ?_
            refine oBuildSlice1 rfl rfl rfl rfl rfl (by first | exact CellsOf.agg | exact CellsOf.one rfl) rfl (fun b40 => ?_)
            refine oApp1 (i : Int) rfl rfl rfl rfl (by repeat (first | exact Pick.here | apply Pick.there)) (by repeat (first | exact Pick.here | apply Pick.there)) rfl (by omega) rfl (fun g41 cp41 => ?_)
            rw [if_pos (by simpa using h37)] at hss
            rw [show (turnTo g a i).length + 1 = (turnTo g a (i + 1)).length by rw [hss, List.length_append]; rfl, ← hss]
            refine oAssign rfl ?_
            refine oNil ?_
            refine blk_n ?_
            refine thn_n ?_
            refine wRegion' ?_
            refine oMove rfl ?_
            refine oSucc rfl rfl (by omega) ?_
            refine oAssign rfl ?_
            refine oNil ?_
            refine thn_n ?_
            exact ⟨rfl, (i + 1, some ⟨g41, 0, none⟩, cp41), by show i + 1 ≤ _; omega, by show g.length - (i + 1) < g.length - i; omega, (by repeat (first | exact trivial | refine And.intro rfl ?_)), (Leads.has (by repeat' (first | exact Has.nil | exact Pick.here | apply Has.cons | apply Pick.there)))⟩
          ·
            refine wSkip ?_
            refine blk_n ?_
            refine thn_n ?_
            refine wRegion' ?_
            refine oMove rfl ?_
            refine oSucc rfl rfl (by omega) ?_
            refine oAssign rfl ?_
            refine oNil ?_
            refine thn_n ?_
            rw [if_neg (by simpa using h37), List.append_nil] at hss
            exact ⟨rfl, (i + 1, A7, c7), by show i + 1 ≤ _; omega, by show g.length - (i + 1) < g.length - i; omega, by dsimp only; rw [hss]; exact (by repeat (first | exact trivial | refine And.intro rfl ?_)), by dsimp only; rw [hss]; exact (Leads.has (by repeat' (first | exact Has.nil | exact Pick.here | apply Has.cons | apply Pick.there)))⟩
        ·
          obtain rfl : i = g.length := by omega
          refine wExit ?_
          refine thn_x ?_
          refine thn_x ?_
          refine blk_x ?_
          refine thn_n ?_
          refine wRegion' ?_
          refine oMove rfl ?_
          refine oMove rfl ?_
          refine oBuildSlice1 rfl rfl rfl rfl rfl (by first | exact CellsOf.agg | exact CellsOf.one rfl) rfl (fun b44 => ?_)
          refine oApp1 (kd := kHdr) ((A7, (turnTo g a g.length).length, c7) : Hdr) rfl rfl rfl rfl (by repeat (first | exact Pick.here | apply Pick.there)) (by repeat (first | exact Pick.here | apply Pick.there)) rfl (by omega) rfl (fun g45 cp45 => ?_)
          refine oSnoc (kd := Kd.int .i64) (W := W0) (ei := 3) (u := (A7, (turnTo g a g.length).length, c7)) (l := turnTo g a g.length) (hs := hs) (xss := (turnG g).take a) (by repeat (first | exact Pick.here | apply Pick.there)) (by repeat (first | exact Pick.here | apply Pick.there)) (by omega) ?_
          rw [take_at (turnG_at (by omega)), hl]
          refine oAssign rfl ?_
          refine oNil ?_
          refine blk_n ?_
          refine thn_n ?_
          refine wRegion' ?_
          refine oMove rfl ?_
          refine oSucc rfl rfl (by omega) ?_
          refine oAssign rfl ?_
          refine oNil ?_
          refine thn_n ?_
          exact ⟨rfl, (a + 1, hs ++ [(A7, (turnTo g a g.length).length, c7)], some ⟨g45, 0, none⟩, cp45), ⟨by show a + 1 ≤ _; omega, by show (hs ++ _).length = a + 1; rw [List.length_append, hl]; rfl⟩, by show g.length - (a + 1) < g.length - a; omega, (by repeat (first | exact trivial | refine And.intro rfl ?_)), (Leads.has (by repeat' (first | exact Has.nil | exact Pick.here | apply Has.cons | apply Pick.there)))⟩
    ·
      obtain rfl : a = g.length := by omega
      rw [show (turnG g).take g.length = turnG g by rw [← turnG_len g, List.take_length]]
      refine wExit ?_
      refine thn_x ?_
      refine thn_x ?_
      refine blk_x ?_
      refine thn_n ?_
      refine wSeq ?_
      refine wRegion' ?_
      refine oMove rfl ?_
      refine oAssign rfl ?_
      refine oNil ?_
      refine thn_n ?_
      refine wRet ?_
      refine fin_r ?_
      refine ⟨rfl, _, (ResL.cons (ResR.tmp rfl) ResL.nil), ?_⟩
      exact ⟨(A5, c5, hs), hl, rfl, (Leads.has (by repeat' (first | exact Has.nil | exact Pick.here | apply Has.cons | apply Pick.there)))⟩
end Go.Proofs.YtnidmlngkpkmlaaG
