/-
  Package cycle: drain, order.
-/
import Derived.Test.YtnidmlngkpkmlaaGn
namespace Go.Proofs.YtnidmlngkpkmlaaG
set_option linter.unusedVariables false
set_option linter.unusedSimpArgs false
open Go.RowKit Go.Proofs.YtnidmlngkpkmlaaK Go.Proofs.YtnidmlngkpkmlaaT Go.Proofs.YtnidmlngkpkmlaaL
open Go.Proofs.YtnidmlngkpkmlaaQ (Pile queueR QOk qins qhas hd1 hd2 hd3 queue_New queue_Put queue_Take ptrV)

abbrev takeV (q : Nat) : Value := .func (.func 26) #[ptrV q] #[]
abbrev doV (b14 b2 b6 b11 : Nat) : Value := .func (.func 72) #[] #[.pointer (some ⟨b14, 0, none⟩), .pointer (some ⟨b2, 0, none⟩), .pointer (some ⟨b6, 0, none⟩), .pointer (some ⟨b11, 0, none⟩)]
theorem wtJ_cases (W : Graph) {left : List Bool} (hl : left.length = W.length) : (hd3 (wtJ W left []) = false ∧ nxt (edW W) left = none) ∨ ∃ a, nxt (edW W) left = some a ∧ wtJ W left [] = pr a :: wtJ W (left.set a false) (W.getD a []) := by
  rw [wtJ_nil W hl]
  cases hn : nxt (edW W) left with
  | none =>
    left
    refine ⟨?_, rfl⟩
    have := wt_nxt hl
    rw [hn] at this
    cases hw : wt W.length (fre (edW W) left) with
    | nil => rfl
    | cons x T => rw [hw] at this; cases this
  | some a => exact .inr ⟨a, rfl, wt_take hl hn⟩
theorem ahJ_take {W : Graph} {left : List Bool} (hl : left.length = W.length) {a : Nat} (hn : nxt (edW W) left = some a) : ahJ W left [] = ahJ W (left.set a false) (W.getD a []) := aheadL_congr (fun c => by
  rw [cnt_set hl (nxt_left hn)]
  unfold inT edW
  by_cases hm : (c : Int) ∈ W.getD a [] <;> simp [hm])

set_option maxRecDepth 100000 in
set_option maxHeartbeats 2000000 in
theorem drain_any {B : Base} {w : World} (b14 b2 b6 b11 q p g6 : Nat) (A9 : Option Addr) (c9 : Nat) (out : List Nat) (A : Option Addr) (cp : Nat) (W : Graph) (W0 : World) (s : Pile) (left mem : List Bool)
    (hS : St B (ordR b14 b2 b6 b11 q p g6 A9 c9 out A cp W (ahJ W left []) W0 s) w) (hok : WOk W mem) (hrun : Run (edW W) mem out left) (hq : QOk s (wtJ W left [])) (hC : kII.C B.e A W) :
    CallsIn Fence.wide 0 Try.prog 71 #[takeV q, doV b14 b2 b6 b11] w
      (Ret B (fun z : (Option Addr × Nat) × (List Nat × List Bool) × Pile => Run (edW W) mem z.2.1.1 z.2.1.2 ∧ nxt (edW W) z.2.1.2 = none) (fun _ => .tuple #[]) (fun z => ordR b14 b2 b6 b11 q p g6 z.1.1 z.1.2 z.2.1.1 A cp W (ahJ W z.2.1.2 []) W0 z.2.2)) := by
  have hml := hok.len
  (refine enter Try.func71 rfl rfl hS ?_; simp only [List.zipIdx_cons, List.zipIdx_nil, List.map_cons, List.map_nil, Nat.reduceAdd, Nat.zero_add])
  refine wBlock ?_
  refine wLoop (ι := (Option Addr × Nat) × (List Nat × List Bool) × Pile) (fun z => [(0, takeV q), (1, doV b14 b2 b6 b11)]) (fun z => ordR b14 b2 b6 b11 q p g6 z.1.1 z.1.2 z.2.1.1 A cp W (ahJ W z.2.1.2 []) W0 z.2.2) (fun z => Run (edW W) mem z.2.1.1 z.2.1.2 ∧ QOk z.2.2 (wtJ W z.2.1.2 [])) (fun z => trues z.2.1.2) ((A9, c9), (out, left), s) ?_ (by repeat (first | exact trivial | refine And.intro rfl ?_)) (Leads.has (by repeat' (first | exact Has.nil | exact Pick.here | apply Has.cons | apply Pick.there))) ?_
  ·
    exact ⟨hrun, hq⟩
  ·
    rintro ⟨⟨A1, c1⟩, ⟨out1, left1⟩, s1⟩ ⟨hrun1, hq1⟩
    dsimp only at hrun1 hq1
    have hl1 : left1.length = W.length := by have := hrun1.len; omega
    dsimp only
    refine wBlock ?_
    refine wSeq ?_
    refine wRegion' ?_
    refine oMove rfl ?_
    (refine oCallV rfl rfl rfl (by kernel_rfl) (fun w hS => frame hS (by repeat' (first | exact Split.nil | exact Pick.here | apply Split.cons | apply Pick.there)) (fun B' hB hS' => queue_Take (p := p) (s := s1) hS' hq1)) ?_; rintro s2 hq2)
    refine oMove rfl ?_
    refine oExt rfl (by repeat (first | exact GetAt.here | apply GetAt.there)) ?_
    refine oExt rfl (by repeat (first | exact GetAt.here | apply GetAt.there)) ?_
    refine oExt rfl (by repeat (first | exact GetAt.here | apply GetAt.there)) ?_
    refine oAssign rfl ?_
    refine oAssign rfl ?_
    refine oAssign rfl ?_
    refine oNil ?_
    refine thn_n ?_
    refine wSeq ?_
    refine wSeq ?_
    refine wRegion' ?_
    refine oMove rfl ?_
    first | refine oNot rfl ?_ | refine oNotB rfl ?_
    refine oNil ?_
    refine thn_n ?_
    first | refine wCond rfl (fun h14 => ?_) (fun h14 => ?_) | refine wCondB rfl (fun h14 => ?_) (fun h14 => ?_)
    ·
      have hnx : nxt (edW W) left1 = none := by
        rcases wtJ_cases W hl1 with h | ⟨a, h1, h2⟩
        · exact h.2
        · rw [h2] at h14; cases h14
      refine wRet ?_
      refine thn_r ?_
      refine blk_r ?_
      refine thn_r ?_
      refine blk_r ?_
      refine fin_r ?_
      refine ⟨rfl, _, ResL.nil, ?_⟩
      exact ⟨((A1, c1), (out1, left1), s2), ⟨hrun1, hnx⟩, rfl, (Leads.has (by repeat' (first | exact Has.nil | exact Pick.here | apply Has.cons | apply Pick.there)))⟩
    ·
      obtain ⟨a, hnx, hW⟩ : ∃ a, nxt (edW W) left1 = some a ∧ wtJ W left1 [] = pr a :: wtJ W (left1.set a false) (W.getD a []) := by
        rcases wtJ_cases W hl1 with h | h
        · rw [h.1] at h14; cases h14
        · exact h
      rw [hW] at hq2 ⊢
      rw [ahJ_take hl1 hnx]
      refine wSkip ?_
      refine thn_n ?_
      refine wRegion' ?_
      refine oMove rfl ?_
      refine oMove rfl ?_
      (refine oCallV rfl rfl rfl (by kernel_rfl) (fun w hS => frame hS (by repeat' (first | exact Split.nil | exact Pick.here | apply Split.cons | apply Pick.there)) (fun B' hB hS' => order2 b14 b2 b6 b11 q p g6 A1 c1 out1 A cp W W0 s2 left1 mem a hS' hok hrun1 hnx hq2 (Kd.C_grow hB hC))) ?_; rintro ⟨⟨A2, c2⟩, s3⟩ hq3)
      dsimp only at hq3
      refine oNil ?_
      refine blk_n ?_
      refine thn_n ?_
      exact ⟨rfl, ((A2, c2), (out1 ++ [a], left1.set a false), s3), ⟨.snoc hrun1 hnx, hq3⟩, trues_lt (nxt_left hnx), (by repeat (first | exact trivial | refine And.intro rfl ?_)), (Leads.has (by repeat' (first | exact Has.nil | exact Pick.here | apply Has.cons | apply Pick.there)))⟩
end Go.Proofs.YtnidmlngkpkmlaaG
