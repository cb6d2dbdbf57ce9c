/-
  Texts Gh, Gi, Gj, Gk, Gl, Gm, Gn, Go, Gp, Gq in one.
-/
import Derived.Test.YtcacohoanlljhaaMG
import Derived.Test.YtcacohoanlljhaaMB
import Derived.Test.YtcacohoanlljhaaMQ

/-
  Package cycle: members, On; the reference's On.
-/
namespace Go.Proofs.YtcacohoanlljhaaG
set_option linter.unusedVariables false
set_option linter.unusedSimpArgs false
open Go.RowKit Go.Proofs.YtcacohoanlljhaaK Go.Proofs.YtcacohoanlljhaaT Go.Proofs.YtcacohoanlljhaaL

/-- Places of which something holds, rising. -/
def selTo (p : Nat → Bool) (n : Nat) : List Int := ((List.range n).filter p).map Int.ofNat
theorem selTo_succ (p : Nat → Bool) (n : Nat) : selTo p (n + 1) = selTo p n ++ (if p n then [(n : Int)] else []) := by
  unfold selTo
  rw [List.range_succ, List.filter_append, List.map_append]
  cases h : p n <;> simp [h]
theorem selTo_len (p : Nat → Bool) (n : Nat) : (selTo p n).length ≤ n := by
  unfold selTo
  rw [List.length_map]
  exact Nat.le_trans (List.length_filter_le _ _) (by simp)
theorem selTo_congr {p q : Nat → Bool} {n : Nat} (h : ∀ a, a < n → p a = q a) : selTo p n = selTo q n := by
  unfold selTo
  congr 1
  exact List.filter_congr (fun a ha => h a (List.mem_range.1 ha))
def memb (mem : List Bool) (p : Nat → Bool) (a : Nat) : Bool := mem.getD a false && p a

set_option maxRecDepth 100000 in
set_option maxHeartbeats 1000000 in
theorem members_any {B : Base} {w : World} {R : Res} (hS : St B [R] w) (mem : List Bool) (A : Option Addr) (cp : Nat) (hC : Kd.bool.C B.e A mem) (hm : mem.length ≤ 1000) (gf : Nat) (lb : Array Value) (p : Nat → Bool) (hg : goodF Try.prog gf = true)
    (hh : ∀ B' w (a : Nat), Grow B.e B'.e → a < mem.length → St B' [R] w → CallsIn Fence.wide 0 Try.prog gf (#[] ++ [Value.int .i64 (a : Int)].toArray ++ lb) w (Ret B' (fun _ : Unit => True) (fun _ => .bool (p a)) (fun _ => [R]))) (W0 : World) :
    CallsIn Fence.wide 0 Try.prog 58 #[.slice A mem.length cp, .func (.func gf) #[] lb] w
      (Ret B (fun _ : Option Addr × Nat => True) (fun z => .slice z.1 (selTo (memb mem p) mem.length).length z.2) (fun z => [row (Kd.int .i64) W0 3 (.slice z.1 (selTo (memb mem p) mem.length).length z.2) (selTo (memb mem p) mem.length), R])) := by
  (refine enter Try.func58 rfl rfl hS ?_; simp only [List.zipIdx_cons, List.zipIdx_nil, List.map_cons, List.map_nil, Nat.reduceAdd, Nat.zero_add])
  refine wSeq ?_
  refine wRegion' ?_
  refine oAssign rfl ?_
  refine oNil ?_
  refine thn_n ?_
  refine wSeq ?_
  refine wRegion' ?_
  refine oAssign rfl ?_
  refine oNil ?_
  refine thn_n ?_
  refine wSeq ?_
  refine wSeq ?_
  refine wRegion' ?_
  refine oMove rfl ?_
  refine oLenS rfl rfl ?_
  refine oMove rfl ?_
  refine oNil ?_
  refine thn_n ?_
  refine wBlock ?_
  refine wLoop (ι := Nat × Option Addr × Nat) (fun z => [(1, .func (.func gf) #[] lb), (5, .slice z.2.1 (selTo (memb mem p) z.1).length z.2.2), (8, .slice A mem.length cp), (9, .int .i64 (mem.length : Int)), (10, .int .i64 (z.1 : Int))]) (fun z => [row (Kd.int .i64) W0 3 (.slice z.2.1 (selTo (memb mem p) z.1).length z.2.2) (selTo (memb mem p) z.1), R]) (fun z => z.1 ≤ mem.length) (fun z => mem.length - z.1) (0, none, 0) ?_ (by repeat (first | exact trivial | refine And.intro rfl ?_)) (Leads.nilrow.trans (Leads.has (by repeat' (first | exact Has.nil | exact Pick.here | apply Has.cons | apply Pick.there)))) ?_
  ·
    exact Nat.zero_le _
  ·
    rintro ⟨i, A5, c5⟩ hi
    dsimp only at hi
    have hss := selTo_succ (memb mem p) i
    have hsl := selTo_len (memb mem p) i
    try dsimp only
    refine wSeq ?_
    refine wRegion' ?_
    refine oLss rfl rfl ?_
    refine oNil ?_
    refine thn_n ?_
    refine wSeq ?_
    first | refine wCond rfl (fun h11 => ?_) (fun h11 => ?_) | refine wCondB rfl (fun h11 => ?_) (fun h11 => ?_)
    ·
      refine wSkip ?_
      refine thn_n ?_
      refine wSeq ?_
      refine wBlock ?_
      refine wSeq ?_
      refine wRegion' ?_
      refine oMove rfl ?_
      refine oIdx rfl rfl (hC) rfl (by omega) rfl rfl (fun e13 u13 cs13 hu13 hk13 hc13 => ?_)
      obtain rfl := hk13
      have hmb : memb mem p i = (u13 && p i) := by unfold memb; rw [getD_at hu13]
      first | refine oLdX rfl hc13 rfl rfl ?_ | refine oLdXA rfl hc13 rfl (by repeat (first | exact SubL.done | apply SubL.take | apply SubL.drop)) ?_ | (refine oLdR1 rfl (by repeat (first | exact Pick.here | apply Pick.there)) (by omega) rfl (fun u14 hu14 => ?_))
      refine oAssign rfl ?_
      refine oAssign rfl ?_
      refine oNil ?_
      refine thn_n ?_
      refine wSeq ?_
      refine wRegion' ?_
      refine oMove rfl ?_
      refine oMove rfl ?_
      first | refine oSplit (t := 16) rfl (fun h16 => ?_) (fun h16 => ?_) | refine oSplitB (t := 16) rfl (fun h16 => ?_) (fun h16 => ?_)
      ·
        refine oWant rfl rfl ?_
        refine oMove rfl ?_
        refine oWant rfl rfl ?_
        refine oMove rfl ?_
        refine oWant rfl rfl ?_
        (refine oCallV rfl rfl rfl hg (fun w hS => frame hS (by repeat' (first | exact Split.nil | exact Pick.here | apply Split.cons | apply Pick.there)) (fun B' hB hS' => hh B' w i hB (by omega) hS')) ?_; rintro ⟨⟩ -)
        refine oPickT rfl rfl ?_
        refine oNil ?_
        refine thn_n ?_
        first | refine wCond rfl (fun h20 => ?_) (fun h20 => ?_) | refine wCondB rfl (fun h20 => ?_) (fun h20 => ?_)
        ·
          refine wRegion' ?_
          refine oMove rfl ?_
          refine oMove rfl ?_
          refine oBuildSlice1 rfl rfl rfl rfl rfl (by first | exact CellsOf.agg | exact CellsOf.one rfl) rfl (fun b23 => ?_)
          refine oApp1 (i : Int) rfl rfl rfl rfl (by repeat (first | exact Pick.here | apply Pick.there)) (by repeat (first | exact Pick.here | apply Pick.there)) rfl (by omega) rfl (fun g24 cp24 => ?_)
          rw [if_pos (by simp [hmb, h16, h20])] at hss
          rw [show (selTo (memb mem p) i).length + 1 = (selTo (memb mem p) (i + 1)).length by rw [hss, List.length_append]; rfl, ← hss]
          refine oAssign rfl ?_
          refine oNil ?_
          refine blk_n ?_
          refine thn_n ?_
          refine wRegion' ?_
          refine oSucc rfl rfl (by omega) ?_
          refine oMove rfl ?_
          refine oNil ?_
          refine thn_n ?_
          exact ⟨rfl, (i + 1, some ⟨g24, 0, none⟩, cp24), by show i + 1 ≤ _; omega, by show mem.length - (i + 1) < mem.length - i; omega, (by repeat (first | exact trivial | refine And.intro rfl ?_)), (Leads.has (by repeat' (first | exact Has.nil | exact Pick.here | apply Has.cons | apply Pick.there)))⟩
        ·
          refine wSkip ?_
          refine blk_n ?_
          refine thn_n ?_
          refine wRegion' ?_
          refine oSucc rfl rfl (by omega) ?_
          refine oMove rfl ?_
          refine oNil ?_
          refine thn_n ?_
          rw [if_neg (by simp [hmb, h20]), List.append_nil] at hss
          exact ⟨rfl, (i + 1, A5, c5), by show i + 1 ≤ _; omega, by show mem.length - (i + 1) < mem.length - i; omega, by dsimp only; rw [hss]; exact (by repeat (first | exact trivial | refine And.intro rfl ?_)), by dsimp only; rw [hss]; exact (Leads.has (by repeat' (first | exact Has.nil | exact Pick.here | apply Has.cons | apply Pick.there)))⟩
      ·
        refine oSkip rfl rfl rfl rfl ?_
        refine oSkip rfl rfl rfl rfl ?_
        refine oSkip rfl rfl rfl rfl ?_
        refine oPickF rfl rfl ?_
        refine oNil ?_
        refine thn_n ?_
        refine wCondF rfl ?_
        refine wSkip ?_
        refine blk_n ?_
        refine thn_n ?_
        refine wRegion' ?_
        refine oSucc rfl rfl (by omega) ?_
        refine oMove rfl ?_
        refine oNil ?_
        refine thn_n ?_
        rw [if_neg (by simp [hmb, h16]), List.append_nil] at hss
        exact ⟨rfl, (i + 1, A5, c5), by show i + 1 ≤ _; omega, by show mem.length - (i + 1) < mem.length - i; omega, by dsimp only; rw [hss]; exact (by repeat (first | exact trivial | refine And.intro rfl ?_)), by dsimp only; rw [hss]; exact (Leads.has (by repeat' (first | exact Has.nil | exact Pick.here | apply Has.cons | apply Pick.there)))⟩
    ·
      obtain rfl : i = mem.length := by omega
      refine wExit ?_
      refine thn_x ?_
      refine thn_x ?_
      refine blk_x ?_
      refine thn_n ?_
      refine wSeq ?_
      refine wRegion' ?_
      refine oMove rfl ?_
      refine oAssign rfl ?_
      refine oNil ?_
      refine thn_n ?_
      refine wRet ?_
      refine fin_r ?_
      refine ⟨rfl, _, (ResL.cons (ResR.tmp rfl) ResL.nil), ?_⟩
      exact ⟨(A5, c5), trivial, rfl, (Leads.has (by repeat' (first | exact Has.nil | exact Pick.here | apply Has.cons | apply Pick.there)))⟩
/-- Whether a place leads back to itself. -/
noncomputable def onP (g : Graph) (a : Nat) : Bool := @decide (RP g (g.getD a []) (a : Int)) (Classical.propDecidable _)
theorem onP_iff {g : Graph} {a : Nat} : onP g a = true ↔ RP g (g.getD a []) (a : Int) := by unfold onP; exact @decide_eq_true_iff _ (Classical.propDecidable _)
theorem on_eq {g : Graph} {a : Nat} {u : Bool} (h : u = true ↔ RP g (g.getD a []) (a : Int)) : u = onP g a := by
  cases hu : u with
  | true => exact (onP_iff.2 (h.1 hu)).symm
  | false =>
    cases ho : onP g a with
    | true => have := h.2 (onP_iff.1 ho); rw [hu] at this; cases this
    | false => rfl
theorem RP_congr {g g' : Graph} {f f' : List Int} (hl : g.length = g'.length) (he : ∀ a b, b ∈ endsOf g a → b ∈ endsOf g' a) (hf : ∀ x, inG g x = true → x ∈ f → x ∈ f') {x : Int} (h : RP g f x) : RP g' f' x := by
  induction h with
  | start h1 h2 => exact .start (hf _ h2 h1) (by unfold inG at *; rw [← hl]; exact h2)
  | step h1 h2 ih => exact .step ih (he _ _ h2)
theorem withinP_at {g : Graph} {ib : List Bool} {a : Nat} (ha : a < g.length) : (withinP g ib).getD a [] = wp g ib a := by
  rw [List.getD_eq_getElem?_getD]; simp [withinP, ha]
theorem withinR_getD {g : Graph} {ib : List Bool} {a : Nat} (ha : a < g.length) : (withinR g ib).getD a [] = (g.getD a []).filter (inP g ib a) := by
  rw [List.getD_eq_getElem?_getD]; simp [withinR, ha]
theorem inG_P (g : Graph) (ib : List Bool) (x : Int) : inG (withinP g ib) x = inG g x := by unfold inG; rw [withinP_len]
theorem inG_R (g : Graph) (ib : List Bool) (x : Int) : inG (withinR g ib) x = inG g x := by unfold inG; rw [withinR_len]
theorem P_R {g : Graph} {ib : List Bool} {a : Nat} {x : Int} (hx : inG g x = true) : x ∈ (withinP g ib).getD a [] ↔ x ∈ (withinR g ib).getD a [] := by
  by_cases ha : a < g.length
  · rw [withinP_at ha, withinR_getD ha]
    unfold wp
    rw [List.mem_filter, List.mem_filter, cl_mem]
    unfold endsOf
    rw [List.mem_filter, and_assoc]
    simp [hx]
  · rw [List.getD_eq_getElem?_getD, List.getD_eq_getElem?_getD, List.getElem?_eq_none (by rw [withinP_len]; omega), List.getElem?_eq_none (by rw [withinR_len]; omega)]
theorem ends_PR {g : Graph} {ib : List Bool} {a : Nat} {x : Int} : x ∈ endsOf (withinP g ib) a ↔ x ∈ endsOf (withinR g ib) a := by
  unfold endsOf
  rw [List.mem_filter, List.mem_filter, inG_P, inG_R]
  exact ⟨fun h => ⟨(P_R h.2).1 h.1, h.2⟩, fun h => ⟨(P_R h.2).2 h.1, h.2⟩⟩
theorem onP_PR (g : Graph) (ib : List Bool) (a : Nat) : onP (withinP g ib) a = onP (withinR g ib) a := by
  refine on_eq ?_
  rw [onP_iff]
  constructor
  · exact RP_congr (by rw [withinP_len, withinR_len]) (fun a b h => ends_PR.1 h) (fun x hx h => (P_R (by rw [inG_P] at hx; exact hx)).1 h)
  · exact RP_congr (by rw [withinP_len, withinR_len]) (fun a b h => ends_PR.2 h) (fun x hx h => (P_R (by rw [inG_R] at hx; exact hx)).2 h)
/-- Who is on a circle. -/
noncomputable def onL (g : Graph) (ib : List Bool) : List Int := selTo (fun a => memF g ib a && onP (withinR g ib) a) g.length
theorem withinP_small {g : Graph} {ib : List Bool} (h : SmallG g) : SmallG (withinP g ib) := by
  refine ⟨by rw [withinP_len]; exact h.1, fun l hl => ?_⟩
  obtain ⟨a, ha, rfl⟩ := List.mem_map.1 hl
  exact Nat.le_trans (List.length_filter_le _ _) (cl_len h a)
theorem memL_getD {g : Graph} {ib : List Bool} {a : Nat} (ha : a < g.length) : (memL g ib).getD a false = memF g ib (a : Int) := by
  have h := List.getElem?_eq_getElem (show a < (memL g ib).length by rw [memL_len]; exact ha)
  rw [getD_at h]
  exact memL_at h
end Go.Proofs.YtcacohoanlljhaaG


/-
  The reference's On; graphs turned: Turn, and the reference's Clean.
-/
namespace Go.Proofs.YtcacohoanlljhaaG
set_option linter.unusedVariables false
set_option linter.unusedSimpArgs false
open Go.RowKit Go.Proofs.YtcacohoanlljhaaK Go.Proofs.YtcacohoanlljhaaT Go.Proofs.YtcacohoanlljhaaL

set_option maxRecDepth 100000 in
set_option maxHeartbeats 1000000 in
theorem refOn {B : Base} {w : World} (hS : St B [] w) (g : Graph) (A : Option Addr) (cp : Nat) (hC : kII.C B.e A g) (hsm : SmallG g) (ib : List Bool) (A1 : Option Addr) (cp1 : Nat) (hC1 : Kd.bool.C B.e A1 ib) (W0 : World) :
    CallsIn Fence.wide 0 Try.prog 28 #[.slice A g.length cp, .slice A1 ib.length cp1] w
      (Ret B (fun _ : Option Addr × Nat => True) (fun z => .slice z.1 (onL g ib).length z.2) (fun z => [row (Kd.int .i64) W0 3 (.slice z.1 (onL g ib).length z.2) (onL g ib)])) := by
  have hn := hsm.1
  have hsr := withinR_small (ib := ib) hsm
  have hrl := withinR_len g ib
  (refine enter Try.func28 rfl rfl hS ?_; simp only [List.zipIdx_cons, List.zipIdx_nil, List.map_cons, List.map_nil, Nat.reduceAdd, Nat.zero_add])
  refine wSeq ?_
  refine wRegion' ?_
  refine oAssign rfl ?_
  refine oNil ?_
  refine thn_n ?_
  refine wSeq ?_
  refine wRegion' ?_
  refine oMove rfl ?_
  refine oMove rfl ?_
  (refine oCall rfl (by kernel_rfl) (fun w hS => frame hS (by repeat' (first | exact Split.nil | exact Pick.here | apply Split.cons | apply Pick.there)) (fun B' hB hS' => refWithin hS' g A cp (Kd.C_grow hB hC) hsm ib A1 cp1 (Kd.C_grow hB hC1) B.e)) ?_; rintro ⟨A10, c10, hs10⟩ hl10)
  dsimp only at hl10
  refine oSet (t := 10) (v' := .slice A10 (withinR g ib).length c10) rfl (by rw [hrl]) ?_
  refine oAssign rfl ?_
  refine oNil ?_
  refine thn_n ?_
  refine wFreeze [row kHdr B.e 24 (.slice A10 g.length c10) hs10, bun (rws (Kd.int .i64) B.e 3 hs10 (withinR g ib))] (by repeat' (first | exact Split.nil | exact Pick.here | apply Split.cons | apply Pick.there)) (fun B1 hB1 hq1 => ?_)
  have hCw := grid_C (hq1 _ _ (by repeat (first | exact Pick.here | apply Pick.there))) (hq1 _ _ (by repeat (first | exact Pick.here | apply Pick.there))) (by rw [hrl]; exact hl10) hB1
  have hC := Kd.C_grow hB1 hC
  have hC1 := Kd.C_grow hB1 hC1
  refine wSeq ?_
  refine wRegion' ?_
  refine oAssign rfl ?_
  refine oNil ?_
  refine thn_n ?_
  refine wSeq ?_
  refine wSeq ?_
  refine wRegion' ?_
  refine oAssign rfl ?_
  refine oNil ?_
  refine thn_n ?_
  refine wBlock ?_
  refine wLoop (ι := Nat × Option Addr × Nat) (fun z => [(0, .slice A g.length cp), (1, .slice A1 ib.length cp1), (5, .slice A10 (withinR g ib).length c10), (6, .slice z.2.1 (selTo (fun a => memF g ib a && onP (withinR g ib) a) z.1).length z.2.2), (7, .int .i64 (z.1 : Int))]) (fun z => [row (Kd.int .i64) W0 3 (.slice z.2.1 (selTo (fun a => memF g ib a && onP (withinR g ib) a) z.1).length z.2.2) (selTo (fun a => memF g ib a && onP (withinR g ib) a) z.1)]) (fun z => z.1 ≤ g.length) (fun z => g.length - z.1) (0, none, 0) ?_ (by repeat (first | exact trivial | refine And.intro rfl ?_)) (Leads.nilrow.trans (Leads.has (by repeat' (first | exact Has.nil | exact Pick.here | apply Has.cons | apply Pick.there)))) ?_
  ·
    exact Nat.zero_le _
  ·
    rintro ⟨i, A6, c6⟩ hi
    dsimp only at hi
    have hss := selTo_succ (fun a => memF g ib a && onP (withinR g ib) a) i
    have hsl := selTo_len (fun a => memF g ib a && onP (withinR g ib) a) i
    try dsimp only
    refine wSeq ?_
    refine wSeq ?_
    refine wRegion' ?_
    refine oMove rfl ?_
    refine oMove rfl ?_
    refine oLenS rfl rfl ?_
    refine oLss rfl rfl ?_
    refine oNil ?_
    refine thn_n ?_
    first | refine wCond rfl (fun h14 => ?_) (fun h14 => ?_) | refine wCondB rfl (fun h14 => ?_) (fun h14 => ?_)
    ·
      refine wSkip ?_
      refine thn_n ?_
      refine wSeq ?_
      refine wBlock ?_
      refine wSeq ?_
      refine wRegion' ?_
      refine oMove rfl ?_
      refine oMove rfl ?_
      refine oMove rfl ?_
      (refine oCall rfl (by kernel_rfl) (fun w hS => frame hS (by repeat' (first | exact Split.nil | exact Pick.here | apply Split.cons | apply Pick.there)) (fun B' hB hS' => member_any hS' A cp g A1 cp1 ib (Kd.C_grow hB hC1) (i : Int))) ?_; rintro ⟨⟩ -)
      refine oMove rfl ?_
      first | refine oSplit (t := 21) rfl (fun h21 => ?_) (fun h21 => ?_) | refine oSplitB (t := 21) rfl (fun h21 => ?_) (fun h21 => ?_)
      ·
        refine oWant rfl rfl ?_
        refine oMove rfl ?_
        refine oWant rfl rfl ?_
        refine oMove rfl ?_
        refine oWant rfl rfl ?_
        refine oMove rfl ?_
        refine oWant rfl rfl ?_
        refine oIdx rfl rfl (hCw) rfl (by omega) rfl rfl (fun e25 u25 cs25 hu25 hk25 hc25 => ?_)
        obtain ⟨A0, c0, rfl, hle25, g0⟩ := hk25
        refine oWant rfl rfl ?_
        first | refine oLdX rfl hc25 rfl rfl ?_ | refine oLdXA rfl hc25 rfl (by repeat (first | exact SubL.done | apply SubL.take | apply SubL.drop)) ?_ | (refine oLdR1 rfl (by repeat (first | exact Pick.here | apply Pick.there)) (by omega) rfl (fun u26 hu26 => ?_))
        refine oWant rfl rfl ?_
        (refine oCall rfl (by kernel_rfl) (fun w hS => frame hS (by repeat' (first | exact Split.nil | exact Pick.here | apply Split.cons | apply Pick.there)) (fun B' hB hS' => refReach hS' (withinR g ib) A10 c10 (Kd.C_grow hB hCw) hsr u25 A0 c0 (Kd.C_grow hB g0) B.e)) ?_; rintro ⟨A27, c27, out⟩ ⟨hol, hor⟩)
        dsimp only at hol hor ⊢
        refine oWant rfl rfl ?_
        refine oMove rfl ?_
        refine oWant rfl rfl ?_
        refine oIdxR rfl rfl (by repeat (first | exact Pick.here | apply Pick.there)) (by omega) rfl rfl (fun g29 hg29 => ?_)
        first | subst hg29 | (injection hg29 with hg29; injection hg29 with hg29; subst hg29)
        refine oWant rfl rfl ?_
        first | refine oLdX rfl hc29 rfl rfl ?_ | refine oLdXA rfl hc29 rfl (by repeat (first | exact SubL.done | apply SubL.take | apply SubL.drop)) ?_ | (refine oLdR1 rfl (by repeat (first | exact Pick.here | apply Pick.there)) (by omega) rfl (fun u30 hu30 => ?_))
        have hon : u30 = onP (withinR g ib) i := on_eq (by rw [getD_at hu25, ← hor i, hu30]; simp)
        refine oPickT rfl rfl ?_
        refine oNil ?_
        refine thn_n ?_
        first | refine wCond rfl (fun h31 => ?_) (fun h31 => ?_) | refine wCondB rfl (fun h31 => ?_) (fun h31 => ?_)
        ·
          refine wRegion' ?_
          refine oMove rfl ?_
          refine oMove rfl ?_
          refine oBuildSlice1 rfl rfl rfl rfl rfl (by first | exact CellsOf.agg | exact CellsOf.one rfl) rfl (fun b34 => ?_)
          refine oApp1 (i : Int) rfl rfl rfl rfl (by repeat (first | exact Pick.here | apply Pick.there)) (by repeat (first | exact Pick.here | apply Pick.there)) rfl (by omega) rfl (fun g35 cp35 => ?_)
          rw [if_pos (by simp [← hon, h21, h31])] at hss
          rw [show (selTo (fun a => memF g ib a && onP (withinR g ib) a) i).length + 1 = (selTo (fun a => memF g ib a && onP (withinR g ib) a) (i + 1)).length by rw [hss, List.length_append]; rfl, ← hss]
          refine oAssign rfl ?_
          refine oNil ?_
          refine blk_n ?_
          refine thn_n ?_
          refine wRegion' ?_
          refine oMove rfl ?_
          refine oSucc rfl rfl (by omega) ?_
          refine oAssign rfl ?_
          refine oNil ?_
          refine thn_n ?_
          exact ⟨rfl, (i + 1, some ⟨g35, 0, none⟩, cp35), by show i + 1 ≤ _; omega, by show g.length - (i + 1) < g.length - i; omega, (by repeat (first | exact trivial | refine And.intro rfl ?_)), (Leads.has (by repeat' (first | exact Has.nil | exact Pick.here | apply Has.cons | apply Pick.there)))⟩
        ·
          refine wSkip ?_
          refine blk_n ?_
          refine thn_n ?_
          refine wRegion' ?_
          refine oMove rfl ?_
          refine oSucc rfl rfl (by omega) ?_
          refine oAssign rfl ?_
          refine oNil ?_
          refine thn_n ?_
          rw [if_neg (by simp [← hon, h31]), List.append_nil] at hss
          exact ⟨rfl, (i + 1, A6, c6), by show i + 1 ≤ _; omega, by show g.length - (i + 1) < g.length - i; omega, by dsimp only; rw [hss]; exact (by repeat (first | exact trivial | refine And.intro rfl ?_)), by dsimp only; rw [hss]; exact (Leads.has (by repeat' (first | exact Has.nil | exact Pick.here | apply Has.cons | apply Pick.there)))⟩
      ·
        refine oSkip rfl rfl rfl rfl ?_
        refine oSkip rfl rfl rfl rfl ?_
        refine oSkip rfl rfl rfl rfl ?_
        refine oSkip rfl rfl rfl rfl ?_
        refine oSkip rfl rfl rfl rfl ?_
        refine oSkip rfl rfl rfl rfl ?_
        refine oSkip rfl rfl rfl rfl ?_
        refine oSkip rfl rfl rfl rfl ?_
        refine oSkip rfl rfl rfl rfl ?_
        refine oPickF rfl rfl ?_
        refine oNil ?_
        refine thn_n ?_
        refine wCondF rfl ?_
        refine wSkip ?_
        refine blk_n ?_
        refine thn_n ?_
        refine wRegion' ?_
        refine oMove rfl ?_
        refine oSucc rfl rfl (by omega) ?_
        refine oAssign rfl ?_
        refine oNil ?_
        refine thn_n ?_
        rw [if_neg (by simp [h21]), List.append_nil] at hss
        exact ⟨rfl, (i + 1, A6, c6), by show i + 1 ≤ _; omega, by show g.length - (i + 1) < g.length - i; omega, by dsimp only; rw [hss]; exact (by repeat (first | exact trivial | refine And.intro rfl ?_)), by dsimp only; rw [hss]; exact (Leads.has (by repeat' (first | exact Has.nil | exact Pick.here | apply Has.cons | apply Pick.there)))⟩
    ·
      obtain rfl : i = g.length := by omega
      refine wExit ?_
      refine thn_x ?_
      refine thn_x ?_
      refine blk_x ?_
      refine thn_n ?_
      refine wSeq ?_
      refine wRegion' ?_
      refine oMove rfl ?_
      refine oAssign rfl ?_
      refine oNil ?_
      refine thn_n ?_
      refine wRet ?_
      refine fin_r ?_
      refine ⟨rfl, _, (ResL.cons (ResR.tmp rfl) ResL.nil), ?_⟩
      exact ⟨(A6, c6), trivial, rfl, (Leads.has (by repeat' (first | exact Has.nil | exact Pick.here | apply Has.cons | apply Pick.there)))⟩
/-- Edges turned: whence edges lead to a place, up to n. -/
def turnTo (g : Graph) (b n : Nat) : List Int := selTo (fun a => decide ((b : Int) ∈ endsOf g a)) n
def turnG (g : Graph) : Graph := (List.range g.length).map fun b => turnTo g b g.length
theorem turnG_len (g : Graph) : (turnG g).length = g.length := by simp [turnG]
theorem turnG_at {g : Graph} {b : Nat} (h : b < g.length) : (turnG g)[b]? = some (turnTo g b g.length) := by simp [turnG, h]
theorem turnG_small {g : Graph} (h : SmallG g) : SmallG (turnG g) := by
  refine ⟨by rw [turnG_len]; exact h.1, fun l hl => ?_⟩
  obtain ⟨a, ha, rfl⟩ := List.mem_map.1 hl
  exact Nat.le_trans (selTo_len _ _) h.1
theorem edge_ends {g : Graph} {a b : Nat} (ha : a < g.length) (hb : b < g.length) : edgeF g (a : Int) (b : Int) = decide ((b : Int) ∈ endsOf g a) := by
  unfold edgeF endsOf
  rw [Int.toNat_natCast, decide_eq_true (show (0 : Int) ≤ a by omega), decide_eq_true (show (a : Int) < g.length by omega), decide_eq_true (show (0 : Int) ≤ b by omega), decide_eq_true (show (b : Int) < g.length by omega)]
  simp only [Bool.true_and]
  congr 1
  rw [List.mem_filter]
  have : inG g (b : Int) = true := inG_iff.2 ⟨by omega, by omega⟩
  simp [this]
end Go.Proofs.YtcacohoanlljhaaG


/-
  Package digraph: Turn.
-/
namespace Go.Proofs.YtcacohoanlljhaaG
set_option linter.unusedVariables false
set_option linter.unusedSimpArgs false
open Go.RowKit Go.Proofs.YtcacohoanlljhaaK Go.Proofs.YtcacohoanlljhaaT Go.Proofs.YtcacohoanlljhaaL

theorem bun_same {α : Type} {kd : Kd α} {W : World} {ei : TypeId} {hs : List Hdr} {xss : List (List α)} {B : Base} {Φ Φ' Φ'' : List Res} {i : Nat} {u : Hdr} {xs : List α} (h1 : Pick Φ (row kd W ei (hV u) xs) Φ') (h2 : Pick Φ' (bun ((rws kd W ei hs xss).eraseIdx i)) Φ'') (hu : hs[i]? = some u) (hx : xss[i]? = some xs) :
    Leads B Φ (bun (rws kd W ei hs xss) :: Φ'') := fun w hS => by
  have hr := rws_at (kd := kd) (W := W) (ei := ei) hu hx
  obtain ⟨hi, he⟩ := List.getElem?_eq_some_iff.1 hr
  have h3 := bun_back (B := B) (Φ := Φ'') (r' := row kd W ei (hV u) xs) hi w (hS.perm (h1.perm.trans (h2.perm.cons _)))
  rw [← he, List.set_getElem_self] at h3
  exact h3
def midB (g : Graph) (a : Nat) (L : List Int) (b : Nat) : List Int := turnTo g b a ++ if (b : Int) ∈ L then [(a : Int)] else []
def midG (g : Graph) (a : Nat) (L : List Int) : Graph := (List.range g.length).map (midB g a L)
theorem midG_len (g : Graph) (a : Nat) (L : List Int) : (midG g a L).length = g.length := by simp [midG]
theorem midG_at {g : Graph} {a : Nat} {L : List Int} {b : Nat} (h : b < g.length) : (midG g a L)[b]? = some (midB g a L b) := by simp [midG, h]
theorem midG_zero (g : Graph) : midG g 0 [] = List.replicate g.length [] := by
  apply List.ext_getElem?
  intro i
  unfold midG
  rw [List.getElem?_map, List.getElem?_replicate]
  by_cases h : i < g.length
  · simp [h, midB, turnTo, selTo]
  · simp [h]
theorem midG_end (g : Graph) (a : Nat) : midG g a (endsOf g a) = midG g (a + 1) [] := by
  apply List.map_congr_left
  intro b hb
  unfold midB turnTo
  rw [selTo_succ]
  by_cases h : (b : Int) ∈ endsOf g a <;> simp [h]
theorem midG_all (g : Graph) : midG g g.length [] = turnG g := by
  apply List.map_congr_left
  intro b hb
  unfold midB
  simp
theorem midG_old {g : Graph} {a : Nat} {L : List Int} {b : Nat} (h : (b : Int) ∈ L) : midG g a (L ++ [(b : Int)]) = midG g a L := by
  apply List.map_congr_left
  intro c hc
  unfold midB
  by_cases e : c = b
  · subst e; simp [h]
  · have : ¬ (c : Int) = (b : Int) := by omega
    simp [this]
theorem midG_new {g : Graph} {a : Nat} {L : List Int} {b : Nat} (h : ¬ (b : Int) ∈ L) (hb : b < g.length) : midG g a (L ++ [(b : Int)]) = (midG g a L).set b (midB g a L b ++ [(a : Int)]) := by
  apply List.ext_getElem?
  intro c
  rw [List.getElem?_set]
  by_cases hc : c < g.length
  · rw [midG_at hc]
    by_cases e : b = c
    · subst e
      rw [if_pos rfl, if_pos (by rw [midG_len]; exact hb)]
      unfold midB
      simp [h]
    · rw [if_neg e, midG_at hc]
      have : ¬ (c : Int) = (b : Int) := by omega
      unfold midB
      simp [this]
  · rw [if_neg (by omega), List.getElem?_eq_none (by rw [midG_len]; omega), List.getElem?_eq_none (by rw [midG_len]; omega)]
theorem turnTo_lt {g : Graph} {a b : Nat} {x : Int} (h : x ∈ turnTo g b a) : x < (a : Int) := by
  obtain ⟨i, hi, rfl⟩ := List.mem_map.1 h
  have := List.mem_range.1 (List.mem_filter.1 hi).1
  show (i : Int) < a
  omega
theorem midB_last {g : Graph} {a : Nat} {L : List Int} {b : Nat} (h : (b : Int) ∈ L) : (midB g a L b)[(midB g a L b).length - 1]? = some (a : Int) ∧ 0 < (midB g a L b).length := by
  unfold midB
  rw [if_pos h]
  simp
theorem midB_not {g : Graph} {a : Nat} {L : List Int} {b : Nat} {x : Int} {i : Nat} (h : ¬ (b : Int) ∈ L) (hx : (midB g a L b)[i]? = some x) : x ≠ (a : Int) := by
  unfold midB at hx
  rw [if_neg h, List.append_nil] at hx
  have := turnTo_lt (List.mem_of_getElem? hx)
  omega
theorem midB_len (g : Graph) (a : Nat) (L : List Int) (b : Nat) : (midB g a L b).length ≤ a + 1 := by
  unfold midB
  rw [List.length_append]
  have : (turnTo g b a).length ≤ a := selTo_len _ _
  split <;> simp <;> omega

end Go.Proofs.YtcacohoanlljhaaG


/-
  Orders, plainly: the least that is free, time and again.
-/
namespace Go.Proofs.YtcacohoanlljhaaG
set_option linter.unusedVariables false
set_option linter.unusedSimpArgs false
open Go.RowKit Go.Proofs.YtcacohoanlljhaaK Go.Proofs.YtcacohoanlljhaaT Go.Proofs.YtcacohoanlljhaaL

def fre (ed : Nat → Nat → Bool) (left : List Bool) (a : Nat) : Bool := left.getD a false && (List.range left.length).all fun b => !(left.getD b false) || !(ed b a)
def nxt (ed : Nat → Nat → Bool) (left : List Bool) : Option Nat := (List.range left.length).find? (fre ed left)
def trues (left : List Bool) : Nat := (left.filter id).length
def gr (ed : Nat → Nat → Bool) : Nat → List Bool → List Nat
  | 0, _ => []
  | f + 1, left => match nxt ed left with
    | none => []
    | some a => a :: gr ed f (left.set a false)
theorem trues_set {left : List Bool} {a : Nat} (h : left[a]? = some true) : trues (left.set a false) + 1 = trues left := by
  unfold trues
  induction left generalizing a with
  | nil => simp at h
  | cons b left ih =>
    cases a with
    | zero => simp at h; subst h; simp
    | succ a =>
      have := ih (a := a) (by simpa using h)
      cases b <;> simp_all
theorem trues_le (left : List Bool) : trues left ≤ left.length := List.length_filter_le _ _
theorem getD_true {left : List Bool} {a : Nat} (h : left.getD a false = true) : left[a]? = some true := by
  rw [List.getD_eq_getElem?_getD] at h
  cases hv : left[a]? with
  | none => rw [hv] at h; cases h
  | some v => rw [hv] at h; simp at h; rw [h]
theorem fre_left {ed : Nat → Nat → Bool} {left : List Bool} {a : Nat} (h : fre ed left a = true) : left[a]? = some true := by
  unfold fre at h
  simp only [Bool.and_eq_true] at h
  exact getD_true h.1
theorem fre_iff {ed : Nat → Nat → Bool} {left : List Bool} {a : Nat} : fre ed left a = true ↔ left[a]? = some true ∧ ∀ b, left[b]? = some true → ed b a = false := by
  unfold fre
  simp only [Bool.and_eq_true, List.all_eq_true, List.mem_range, Bool.or_eq_true, Bool.not_eq_true']
  constructor
  · rintro ⟨h1, h2⟩
    refine ⟨getD_true h1, fun b hb => ?_⟩
    rcases h2 b (List.getElem?_eq_some_iff.1 hb).1 with h | h
    · rw [getD_at hb] at h; cases h
    · exact h
  · rintro ⟨h1, h2⟩
    refine ⟨by rw [getD_at h1], fun b hb => ?_⟩
    cases hv : left[b]? with
    | none => rw [List.getElem?_eq_none_iff] at hv; omega
    | some v =>
      rw [getD_at hv]
      cases v with
      | false => exact .inl rfl
      | true => exact .inr (h2 b hv)
theorem nxt_some {ed : Nat → Nat → Bool} {left : List Bool} {a : Nat} (h : fre ed left a = true) (hm : ∀ b, b < a → fre ed left b = false) : nxt ed left = some a := by
  have ha := (List.getElem?_eq_some_iff.1 (fre_left h)).1
  unfold nxt
  rw [List.find?_range_eq_some]
  exact ⟨h, by simpa using ha, fun j hj => by simpa using hm j hj⟩
theorem nxt_none {ed : Nat → Nat → Bool} {left : List Bool} (h : ∀ a, a < left.length → fre ed left a = false) : nxt ed left = none := by
  unfold nxt
  rw [List.find?_eq_none]
  intro a ha
  rw [h a (List.mem_range.1 ha)]; simp
/-- Taken one after the other: from left0. -/
inductive Run (ed : Nat → Nat → Bool) (left0 : List Bool) : List Nat → List Bool → Prop
  | nil : Run ed left0 [] left0
  | snoc {out : List Nat} {left : List Bool} {a : Nat} : Run ed left0 out left → nxt ed left = some a → Run ed left0 (out ++ [a]) (left.set a false)
theorem nxt_left {ed : Nat → Nat → Bool} {left : List Bool} {a : Nat} (h : nxt ed left = some a) : left[a]? = some true := fre_left (List.find?_some h)
theorem gr_none {ed : Nat → Nat → Bool} {left : List Bool} (h : nxt ed left = none) : ∀ f, gr ed f left = []
  | 0 => rfl
  | f + 1 => by unfold gr; rw [h]
theorem Run.len {ed : Nat → Nat → Bool} {left0 left : List Bool} {out : List Nat} (h : Run ed left0 out left) : left.length = left0.length ∧ out.length + trues left = trues left0 := by
  induction h with
  | nil => simp
  | snoc h hn ih => rw [List.length_set, List.length_append]; have := trues_set (nxt_left hn); simp; omega
theorem Run.gr {ed : Nat → Nat → Bool} {left0 left : List Bool} {out : List Nat} (h : Run ed left0 out left) : gr ed (trues left0) left0 = out ++ gr ed (trues left) left := by
  induction h with
  | nil => rfl
  | @snoc out left a h hn ih =>
    have h1 := trues_set (nxt_left hn)
    rw [ih, List.append_assoc, ← h1]
    congr 1
    simp only [Go.Proofs.YtcacohoanlljhaaG.gr, hn]
    rfl
theorem Run.done {ed : Nat → Nat → Bool} {left0 left : List Bool} {out : List Nat} (h : Run ed left0 out left) (hn : nxt ed left = none) : out = Go.Proofs.YtcacohoanlljhaaG.gr ed (trues left0) left0 := by
  rw [h.gr, gr_none hn, List.append_nil]
/-- Edges between members. -/
def edR (g : Graph) (ib : List Bool) (b a : Nat) : Bool := edgeF (withinR g ib) (b : Int) (a : Int)
def seqN (g : Graph) (ib : List Bool) : List Nat := gr (edR g ib) (trues (memL g ib)) (memL g ib)
def okO (g : Graph) (ib : List Bool) : Bool := decide ((seqN g ib).length = trues (memL g ib))
def ordL (g : Graph) (ib : List Bool) : List Int := if okO g ib then (seqN g ib).map Int.ofNat else []
theorem edR_iff {g : Graph} {ib : List Bool} {a b : Nat} (ha : a < g.length) (hb : b < g.length) : edR g ib b a = true ↔ (a : Int) ∈ wp g ib b := by
  have hin : inG g (a : Int) = true := inG_iff.2 ⟨by omega, by omega⟩
  unfold edR
  rw [edge_ends (by rw [withinR_len]; exact hb) (by rw [withinR_len]; exact ha), decide_eq_true_eq, ← ends_PR]
  unfold endsOf
  rw [List.mem_filter, inG_P, hin, withinP_at hb]
  simp
theorem wp_mem {g : Graph} {ib : List Bool} {b : Nat} {x : Int} (h : x ∈ wp g ib b) : memF g ib (b : Int) = true ∧ memF g ib x = true ∧ inG g x = true := by
  obtain ⟨h1, h2⟩ := List.mem_filter.1 h
  unfold inP at h2
  simp only [Bool.and_eq_true] at h2
  exact ⟨h2.1, h2.2, ends_in (cl_mem.1 h1)⟩
theorem wp_nodup (g : Graph) (ib : List Bool) (b : Nat) : (wp g ib b).Pairwise (· < ·) := by
  unfold wp
  exact ((sorted_spec (endsOf g b)).1).sublist List.filter_sublist
end Go.Proofs.YtcacohoanlljhaaG


/-
  The reference's Order and Back.
-/
namespace Go.Proofs.YtcacohoanlljhaaG
set_option linter.unusedVariables false
set_option linter.unusedSimpArgs false
open Go.RowKit Go.Proofs.YtcacohoanlljhaaK Go.Proofs.YtcacohoanlljhaaT Go.Proofs.YtcacohoanlljhaaL

def memTo (g : Graph) (ib : List Bool) (i : Nat) : List Bool := (List.range g.length).map fun a => if a < i then memF g ib (a : Int) else false
theorem memTo_len (g : Graph) (ib : List Bool) (i : Nat) : (memTo g ib i).length = g.length := by simp [memTo]
theorem memTo_zero (g : Graph) (ib : List Bool) : memTo g ib 0 = List.replicate g.length false := by
  apply List.ext_getElem?
  intro i
  unfold memTo
  rw [List.getElem?_map, List.getElem?_replicate]
  by_cases h : i < g.length <;> simp [h]
theorem memTo_succ {g : Graph} {ib : List Bool} {a : Nat} (h : a < g.length) : (memTo g ib a).set a (memF g ib (a : Int)) = memTo g ib (a + 1) := by
  apply List.ext_getElem?
  intro i
  rw [List.getElem?_set]
  by_cases e : a = i
  · subst e; simp [memTo, h]
  · rw [if_neg e]
    unfold memTo
    rw [List.getElem?_map, List.getElem?_map]
    cases hr : (List.range g.length)[i]? with
    | none => rfl
    | some j =>
      obtain ⟨hi, rfl⟩ := List.getElem?_eq_some_iff.1 hr
      simp only [List.getElem_range, Option.map_some, Option.some.injEq]
      by_cases h1 : i < a
      · rw [if_pos h1, if_pos (by omega)]
      · rw [if_neg h1, if_neg (by omega)]
theorem memTo_all (g : Graph) (ib : List Bool) : memTo g ib g.length = memL g ib := by
  apply List.ext_getElem?
  intro i
  by_cases hi : i < g.length
  · have h1 := List.getElem?_eq_getElem (show i < (memL g ib).length by rw [memL_len]; exact hi)
    rw [h1, memL_at h1]
    simp [memTo, hi]
  · rw [List.getElem?_eq_none (by rw [memTo_len]; omega), List.getElem?_eq_none (by rw [memL_len]; omega)]
theorem trues_mem {g : Graph} {ib : List Bool} {a : Nat} (h : a < g.length) : trues (memTo g ib (a + 1)) = trues (memTo g ib a) + if memF g ib (a : Int) then 1 else 0 := by
  rw [← memTo_succ h]
  have h0 : (memTo g ib a)[a]? = some false := by simp [memTo, h]
  cases hm : memF g ib (a : Int) with
  | false =>
    have : (memTo g ib a).set a false = memTo g ib a := by
      obtain ⟨hj, he⟩ := List.getElem?_eq_some_iff.1 h0
      rw [← he]; exact List.set_getElem_self hj
    rw [this]; simp
  | true =>
    have h1 := trues_set (left := (memTo g ib a).set a true) (a := a) (by simp [memTo_len, h])
    rw [List.set_set] at h1
    have : (memTo g ib a).set a false = memTo g ib a := by
      obtain ⟨hj, he⟩ := List.getElem?_eq_some_iff.1 h0
      rw [← he]; exact List.set_getElem_self hj
    rw [this] at h1
    simp; omega
theorem trues_zero (g : Graph) (ib : List Bool) : trues (memTo g ib 0) = 0 := by
  rw [memTo_zero]
  unfold trues
  rw [List.filter_eq_nil_iff.2 (by intro a ha; rw [(List.mem_replicate.1 ha).2]; simp)]
  rfl
theorem trues_lt {left : List Bool} {a : Nat} (h : left[a]? = some true) : trues (left.set a false) < trues left := by have := trues_set h; omega
theorem trues_pos {left : List Bool} (h : 0 < trues left) : ∃ a : Nat, left[a]? = some true := by
  unfold trues at h
  obtain ⟨x, hx⟩ := List.exists_mem_of_length_pos h
  obtain ⟨h1, h2⟩ := List.mem_filter.1 hx
  simp at h2; subst h2
  exact List.mem_iff_getElem?.1 h1
theorem nxt_trues {ed : Nat → Nat → Bool} {left : List Bool} (h : trues left = 0) : nxt ed left = none := by
  apply nxt_none
  intro a ha
  cases hf : fre ed left a with
  | false => rfl
  | true => have := trues_set (fre_left hf); omega
/-- The least free one below a. -/
def nxTo (ed : Nat → Nat → Bool) (left : List Bool) (a : Nat) : Option Nat := (List.range a).find? (fre ed left)
theorem nxTo_succ (ed : Nat → Nat → Bool) (left : List Bool) (a : Nat) : nxTo ed left (a + 1) = (nxTo ed left a).or (if fre ed left a then some a else none) := by
  unfold nxTo
  rw [List.range_succ, List.find?_append]
  cases h : fre ed left a <;> simp [h]
theorem nxTo_all {ed : Nat → Nat → Bool} {left : List Bool} {n : Nat} (h : left.length = n) : nxTo ed left n = nxt ed left := by subst h; rfl
def nxV (o : Option Nat) : Int := match o with | some a => (a : Int) | none => -1
/-- Whether nobody below b is ahead of a. -/
def freTo (ed : Nat → Nat → Bool) (left : List Bool) (a b : Nat) : Bool := (List.range b).all fun b => !(left.getD b false) || !(ed b a)
theorem freTo_succ (ed : Nat → Nat → Bool) (left : List Bool) (a b : Nat) : freTo ed left a (b + 1) = (freTo ed left a b && (!(left.getD b false) || !(ed b a))) := by
  unfold freTo
  rw [List.range_succ, List.all_append]; simp
theorem freTo_mono {ed : Nat → Nat → Bool} {left : List Bool} {a b b' : Nat} (h : freTo ed left a b = false) (hb : b ≤ b') : freTo ed left a b' = false := by
  unfold freTo at *
  rw [List.all_eq_false] at *
  obtain ⟨x, hx, hp⟩ := h
  exact ⟨x, List.mem_range.2 (by have := List.mem_range.1 hx; omega), hp⟩
def frTo (ed : Nat → Nat → Bool) (left : List Bool) (a b : Nat) : Bool := (left.getD a false && (nxTo ed left a).isNone) && freTo ed left a b
theorem frTo_zero (ed : Nat → Nat → Bool) (left : List Bool) (a : Nat) : frTo ed left a 0 = (left.getD a false && (nxTo ed left a).isNone) := by simp [frTo, freTo]
theorem frTo_succ {ed : Nat → Nat → Bool} {left : List Bool} {a b : Nat} (h : frTo ed left a b = true) : frTo ed left a (b + 1) = (!(left.getD b false) || !(ed b a)) := by
  unfold frTo at *
  rw [Bool.and_eq_true] at h
  rw [freTo_succ, h.1, h.2]; simp
theorem frTo_mono {ed : Nat → Nat → Bool} {left : List Bool} {a b b' : Nat} (h : frTo ed left a b = false) (hb : b ≤ b') : frTo ed left a b' = false := by
  unfold frTo at *
  rw [Bool.and_eq_false_iff] at *
  rcases h with h | h
  · exact .inl h
  · exact .inr (freTo_mono h hb)
theorem frTo_all {ed : Nat → Nat → Bool} {left : List Bool} {a n : Nat} (h : left.length = n) : frTo ed left a n = ((nxTo ed left a).isNone && fre ed left a) := by
  subst h
  show ((left.getD a false && (nxTo ed left a).isNone) && _) = ((nxTo ed left a).isNone && (left.getD a false && _))
  unfold freTo
  cases left.getD a false <;> cases (nxTo ed left a).isNone <;> simp
theorem nxTo_T {ed : Nat → Nat → Bool} {left : List Bool} {a n : Nat} (hl : left.length = n) (h : frTo ed left a n = true) : nxTo ed left (a + 1) = some a := by
  rw [frTo_all hl, Bool.and_eq_true] at h
  rw [nxTo_succ, if_pos h.2, Option.isNone_iff_eq_none.1 h.1]; rfl
theorem nxTo_F {ed : Nat → Nat → Bool} {left : List Bool} {a n : Nat} (hl : left.length = n) (h : frTo ed left a n = false) : nxTo ed left (a + 1) = nxTo ed left a := by
  rw [frTo_all hl] at h
  rw [nxTo_succ]
  cases hn : nxTo ed left a with
  | some x => rfl
  | none => rw [hn] at h; simp at h; rw [if_neg (by rw [h]; simp)]; rfl
theorem nxV_neg {o : Option Nat} : decide (nxV o < 0) = o.isNone := by
  cases o with
  | none => rfl
  | some a => show decide ((a : Int) < 0) = false; rw [decide_eq_false_iff_not]; omega
theorem ord_bad {g : Graph} {ib : List Bool} {out : List Nat} {left : List Bool} (h : Run (edR g ib) (memL g ib) out left) (hn : nxt (edR g ib) left = none) (hl : out.length < trues (memL g ib)) : okO g ib = false ∧ ordL g ib = [] := by
  have h1 := h.done hn
  have h2 : okO g ib = false := by unfold okO seqN; rw [← h1]; exact decide_eq_false (by omega)
  exact ⟨h2, by unfold ordL; rw [h2]; rfl⟩
theorem ord_done {g : Graph} {ib : List Bool} {out : List Nat} {left : List Bool} (h : Run (edR g ib) (memL g ib) out left) (hl : ¬ out.length < trues (memL g ib)) : okO g ib = true ∧ ordL g ib = out.map Int.ofNat := by
  have h0 := h.len
  have h1 := h.done (nxt_trues (by omega))
  have h2 : okO g ib = true := by unfold okO seqN; rw [← h1]; exact decide_eq_true (by omega)
  exact ⟨h2, by unfold ordL; rw [h2, if_pos rfl]; unfold seqN; rw [← h1]⟩

end Go.Proofs.YtcacohoanlljhaaG


/-
  Kahn's order, plainly: how many are ahead of each; who waits.
-/
namespace Go.Proofs.YtcacohoanlljhaaG
set_option linter.unusedVariables false
set_option linter.unusedSimpArgs false
open Go.RowKit Go.Proofs.YtcacohoanlljhaaK Go.Proofs.YtcacohoanlljhaaT Go.Proofs.YtcacohoanlljhaaL
open Go.Proofs.YtcacohoanlljhaaQ (lt2 qins qhas qins_perm qins_sorted)

def edW (w : Graph) (b a : Nat) : Bool := decide ((a : Int) ∈ w.getD b [])
structure WOk (w : Graph) (mem : List Bool) : Prop where
  len : w.length = mem.length
  small : w.length ≤ 1000
  row : ∀ b, (w.getD b []).Pairwise (· < ·)
  mem1 : ∀ b x, x ∈ w.getD b [] → mem.getD b false = true
  mem2 : ∀ b x, x ∈ w.getD b [] → ∃ c : Nat, x = (c : Int) ∧ mem.getD c false = true
theorem getD_lt {l : List Bool} {a : Nat} (h : l.getD a false = true) : a < l.length := by
  rw [List.getD_eq_getElem?_getD] at h
  cases hv : l[a]? with
  | none => rw [hv] at h; cases h
  | some v => exact (List.getElem?_eq_some_iff.1 hv).1
def cnt (w : Graph) (left : List Bool) (c : Nat) : Nat := ((List.range w.length).filter fun b => left.getD b false && edW w b c).length
theorem cnt_zero {w : Graph} {left : List Bool} (hl : left.length = w.length) {c : Nat} : cnt w left c = 0 ↔ ∀ b : Nat, left[b]? = some true → edW w b c = false := by
  unfold cnt
  rw [List.length_eq_zero_iff, List.filter_eq_nil_iff]
  constructor
  · intro h b hb
    have := h b (List.mem_range.2 (by have := (List.getElem?_eq_some_iff.1 hb).1; omega))
    rw [getD_at hb] at this
    simpa using this
  · intro h b hb hp
    rw [Bool.and_eq_true] at hp
    rw [h b (getD_true hp.1)] at hp
    cases hp.2
theorem fre_cnt {w : Graph} {left : List Bool} (hl : left.length = w.length) (c : Nat) : fre (edW w) left c = (left.getD c false && decide (cnt w left c = 0)) := by
  rw [Bool.eq_iff_iff, fre_iff, Bool.and_eq_true, decide_eq_true_eq, cnt_zero hl]
  exact ⟨fun h => ⟨by rw [getD_at h.1], h.2⟩, fun h => ⟨getD_true h.1, h.2⟩⟩
theorem filt_upd {p : Nat → Bool} {a : Nat} : ∀ {n : Nat}, a < n → ((List.range n).filter p).length = ((List.range n).filter fun b => p b && b != a).length + if p a then 1 else 0
  | 0, h => by omega
  | n + 1, h => by
    rw [List.range_succ, List.filter_append, List.filter_append, List.length_append, List.length_append]
    by_cases e : a = n
    · subst e
      have : (List.range a).filter (fun b => p b && b != a) = (List.range a).filter p := List.filter_congr (fun b hb => by have := List.mem_range.1 hb; simp; intro _; omega)
      rw [this]
      cases hp : p a <;> simp [hp]
    · rw [filt_upd (p := p) (a := a) (n := n) (by omega)]
      have : (fun b => p b && b != a) n = p n := by
        show (p n && n != a) = p n
        rw [show (n != a) = true by simp; omega, Bool.and_true]
      have e2 : [n].filter (fun b => p b && b != a) = [n].filter p := by
        rw [List.filter_cons, List.filter_cons]
        rw [show (p n && n != a) = p n from this]; rfl
      rw [e2]; omega
theorem set_getD {left : List Bool} {a b : Nat} : (left.set a false).getD b false = (left.getD b false && b != a) := by
  rw [List.getD_eq_getElem?_getD, List.getD_eq_getElem?_getD, List.getElem?_set]
  by_cases e : a = b
  · subst e; rw [if_pos rfl]; split <;> simp
  · rw [if_neg e, show (b != a) = true by simp; omega, Bool.and_true]
theorem cnt_set {w : Graph} {left : List Bool} (hl : left.length = w.length) {a : Nat} (h : left[a]? = some true) (c : Nat) : cnt w left c = cnt w (left.set a false) c + if edW w a c then 1 else 0 := by
  have ha := (List.getElem?_eq_some_iff.1 h).1
  unfold cnt
  rw [filt_upd (a := a) (by omega)]
  rw [getD_at h, Bool.true_and]
  congr 2
  exact List.filter_congr (fun b hb => by rw [set_getD]; cases left.getD b false <;> cases edW w b c <;> simp)
/-! ### ahead -/
def aheadL (n : Nat) (f : Nat → Nat) : List Int := (List.range n).map fun c => ((f c : Nat) : Int)
theorem aheadL_len (n : Nat) (f : Nat → Nat) : (aheadL n f).length = n := by simp [aheadL]
theorem aheadL_at {n : Nat} {f : Nat → Nat} {c : Nat} (h : c < n) : (aheadL n f)[c]? = some (f c : Int) := by simp [aheadL, h]
theorem aheadL_set {n : Nat} {f f' : Nat → Nat} {b : Nat} {v : Int} (hv : v = (f' b : Int)) (hf : ∀ c, c ≠ b → f c = f' c) : (aheadL n f).set b v = aheadL n f' := by
  apply List.ext_getElem?
  intro c
  rw [List.getElem?_set]
  by_cases e : b = c
  · subst e
    rw [if_pos rfl, aheadL_len]
    by_cases h : b < n
    · rw [if_pos h, aheadL_at h, hv]
    · rw [if_neg h, List.getElem?_eq_none (by rw [aheadL_len]; omega)]
  · rw [if_neg e]
    by_cases h : c < n
    · rw [aheadL_at h, aheadL_at h, hf c (fun x => e x.symm)]
    · rw [List.getElem?_eq_none (by rw [aheadL_len]; omega), List.getElem?_eq_none (by rw [aheadL_len]; omega)]
theorem aheadL_congr {n : Nat} {f f' : Nat → Nat} (h : ∀ c, f c = f' c) : aheadL n f = aheadL n f' := by rw [show f = f' from funext h]
theorem aheadL_zero (n : Nat) : aheadL n (fun _ => 0) = List.replicate n 0 := by
  apply List.ext_getElem?
  intro i
  unfold aheadL
  rw [List.getElem?_map, List.getElem?_replicate]
  by_cases h : i < n <;> simp [h]
def inT (l : List Int) (c : Nat) : Nat := if (c : Int) ∈ l then 1 else 0
def bld (w : Graph) (i j c : Nat) : Nat := ((List.range i).filter fun b => edW w b c).length + inT ((w.getD i []).take j) c
theorem bld_zero (w : Graph) (c : Nat) : bld w 0 0 c = 0 := by simp [bld, inT]
theorem bld_next (w : Graph) (i c : Nat) : bld w i (w.getD i []).length c = bld w (i + 1) 0 c := by
  unfold bld
  rw [List.take_length, List.take_zero, List.range_succ, List.filter_append, List.length_append]
  unfold inT
  rw [if_neg (show ¬ (c : Int) ∈ ([] : List Int) by simp), Nat.add_zero]
  congr 1
  by_cases h : (c : Int) ∈ w.getD i []
  · rw [if_pos h, List.filter_cons_of_pos (by unfold edW; exact decide_eq_true h)]; rfl
  · rw [if_neg h, List.filter_cons_of_neg (by unfold edW; rw [decide_eq_false h]; simp)]; rfl
theorem bld_all {w : Graph} {mem : List Bool} (h : WOk w mem) (c : Nat) : bld w w.length 0 c = cnt w mem c := by
  unfold bld cnt inT
  rw [List.take_zero, if_neg (show ¬ (c : Int) ∈ ([] : List Int) by simp), Nat.add_zero]
  congr 1
  exact List.filter_congr (fun b hb => by
    cases he : edW w b c with
    | false => simp
    | true => rw [h.mem1 b c (of_decide_eq_true he)]; rfl)
theorem bld_le (w : Graph) (i j c : Nat) : bld w i j c ≤ i + 1 := by
  unfold bld inT
  have := List.length_filter_le (fun b => edW w b c) (List.range i)
  rw [List.length_range] at this
  split <;> omega
theorem cnt_le (w : Graph) (left : List Bool) (c : Nat) : cnt w left c ≤ w.length := by
  unfold cnt
  have := List.length_filter_le (fun b => left.getD b false && edW w b c) (List.range w.length)
  rw [List.length_range] at this
  omega
theorem not_before {l : List Int} (h : l.Pairwise (· < ·)) {j : Nat} {x : Int} (hx : l[j]? = some x) : ¬ x ∈ l.take j ∧ ¬ x ∈ l.drop (j + 1) := by
  obtain ⟨hj, rfl⟩ := List.getElem?_eq_some_iff.1 hx
  have h1 := List.pairwise_iff_getElem.1 h
  constructor
  · intro hm
    obtain ⟨k, hk, he⟩ := List.mem_take_iff_getElem.1 hm
    have := h1 k j (by omega) hj (by omega)
    omega
  · intro hm
    obtain ⟨k, hk, he⟩ := List.mem_drop_iff_getElem.1 hm
    have := h1 j (j + 1 + k) hj (by omega) (by omega)
    omega
theorem inT_take {l : List Int} (h : l.Pairwise (· < ·)) {j b : Nat} (hx : l[j]? = some (b : Int)) : inT (l.take j) b = 0 ∧ inT (l.take (j + 1)) b = 1 ∧ ∀ c, c ≠ b → inT (l.take j) c = inT (l.take (j + 1)) c := by
  have hj := (List.getElem?_eq_some_iff.1 hx).1
  have ht : l.take (j + 1) = l.take j ++ [(b : Int)] := by rw [List.take_add_one, hx]; rfl
  refine ⟨by unfold inT; rw [if_neg (not_before h hx).1], by unfold inT; rw [ht, if_pos (by simp)], fun c hc => ?_⟩
  unfold inT
  rw [ht]
  have : ¬ (c : Int) = (b : Int) := by omega
  simp [this]
theorem inT_drop {l : List Int} (h : l.Pairwise (· < ·)) {j b : Nat} (hx : l[j]? = some (b : Int)) : inT (l.drop j) b = 1 ∧ inT (l.drop (j + 1)) b = 0 ∧ ∀ c, c ≠ b → inT (l.drop j) c = inT (l.drop (j + 1)) c := by
  have hj := (List.getElem?_eq_some_iff.1 hx).1
  have ht : l.drop j = (b : Int) :: l.drop (j + 1) := by
    obtain ⟨_, he⟩ := List.getElem?_eq_some_iff.1 hx
    rw [← he]; exact List.drop_eq_getElem_cons hj
  refine ⟨by unfold inT; rw [ht, if_pos (by simp)], by unfold inT; rw [if_neg (not_before h hx).2], fun c hc => ?_⟩
  unfold inT
  rw [ht]
  have : ¬ (c : Int) = (b : Int) := by omega
  simp [this]
/-! ### who waits -/
def pr (c : Nat) : Int × Int := ((c : Int), (c : Int))
def wt (n : Nat) (p : Nat → Bool) : List (Int × Int) := ((List.range n).filter p).map pr
theorem wt_sorted (n : Nat) (p : Nat → Bool) : (wt n p).Pairwise lt2 := by
  unfold wt
  rw [List.pairwise_map]
  refine (List.pairwise_lt_range.sublist List.filter_sublist).imp ?_
  intro a b h
  left
  show (a : Int) < (b : Int)
  omega
theorem wt_mem {n : Nat} {p : Nat → Bool} {x : Int × Int} : x ∈ wt n p ↔ ∃ c, c < n ∧ p c = true ∧ x = pr c := by
  unfold wt
  simp only [List.mem_map, List.mem_filter, List.mem_range]
  exact ⟨fun ⟨c, ⟨h1, h2⟩, h3⟩ => ⟨c, h1, h2, h3.symm⟩, fun ⟨c, h1, h2, h3⟩ => ⟨c, ⟨h1, h2⟩, h3.symm⟩⟩
theorem lt2_irr {a b : Int × Int} (h : lt2 a b) (k : lt2 b a) : a = b := by unfold lt2 at *; omega
theorem lt2_nd {l : List (Int × Int)} (h : l.Pairwise lt2) : l.Nodup := h.imp (fun {a b} h e => by subst e; unfold lt2 at h; omega)
theorem wt_has {n : Nat} {p : Nat → Bool} {b : Nat} (hb : b < n) : qhas (wt n p) (b : Int) = p b := by
  rw [Bool.eq_iff_iff, qhas, List.any_eq_true]
  constructor
  · rintro ⟨x, hx, e⟩
    obtain ⟨c, hc, hp, rfl⟩ := wt_mem.1 hx
    have : (c : Int) = (b : Int) := by simpa [pr] using e
    rw [← show c = b by omega]; exact hp
  · intro h
    exact ⟨pr b, wt_mem.2 ⟨b, hb, h, rfl⟩, by simp [pr]⟩
theorem wt_ins {n : Nat} {p p' : Nat → Bool} {b : Nat} (hb : b < n) (h0 : p b = false) (h1 : p' b = true) (h : ∀ c, c ≠ b → p c = p' c) : qins ((b : Int), (b : Int)) (wt n p) = wt n p' := by
  have hs : (qins ((b : Int), (b : Int)) (wt n p)).Pairwise lt2 := qins_sorted (wt_sorted n p) (fun y hy => by
    obtain ⟨c, hc, hp, rfl⟩ := wt_mem.1 hy
    show (c : Int) ≠ (b : Int)
    intro e
    rw [show c = b by omega, h0] at hp; cases hp)
  refine List.Perm.eq_of_pairwise (le := lt2) (fun a b _ _ h1 h2 => lt2_irr h1 h2) hs (wt_sorted n p') ?_
  refine (qins_perm _ _).trans ?_
  rw [List.perm_ext_iff_of_nodup (((qins_perm _ _).nodup_iff).1 (lt2_nd hs)) (lt2_nd (wt_sorted n p'))]
  intro x
  rw [List.mem_cons, wt_mem, wt_mem]
  constructor
  · rintro (rfl | ⟨c, hc, hp, rfl⟩)
    · exact ⟨b, hb, h1, rfl⟩
    · refine ⟨c, hc, ?_, rfl⟩
      rw [← h c (by rintro rfl; rw [h0] at hp; cases hp)]; exact hp
  · rintro ⟨c, hc, hp, rfl⟩
    by_cases e : c = b
    · subst e; exact .inl rfl
    · exact .inr ⟨c, hc, by rw [h c e]; exact hp, rfl⟩
theorem wt_congr {n : Nat} {p p' : Nat → Bool} (h : ∀ c, c < n → p c = p' c) : wt n p = wt n p' := by
  unfold wt
  rw [List.filter_congr (fun c hc => h c (List.mem_range.1 hc))]
theorem wt_len (n : Nat) (p : Nat → Bool) : (wt n p).length ≤ n := by
  unfold wt
  rw [List.length_map]
  exact Nat.le_trans (List.length_filter_le _ _) (by simp)
/-- Who waits behind a taken one, ahead of its ends from j on. -/
def wtJ (w : Graph) (left : List Bool) (l : List Int) : List (Int × Int) := wt w.length fun c => left.getD c false && decide (cnt w left c + inT l c = 0)
def ahJ (w : Graph) (left : List Bool) (l : List Int) : List Int := aheadL w.length fun c => cnt w left c + inT l c
theorem wtJ_nil (w : Graph) {left : List Bool} (hl : left.length = w.length) : wtJ w left [] = wt w.length (fre (edW w) left) := wt_congr (fun c _ => by rw [fre_cnt hl]; simp [inT])
theorem wt_nxt {w : Graph} {left : List Bool} (hl : left.length = w.length) : (wt w.length (fre (edW w) left)).head? = (nxt (edW w) left).map pr := by
  unfold wt nxt
  rw [List.head?_map, List.head?_filter, hl]
theorem wt_take {w : Graph} {left : List Bool} (hl : left.length = w.length) {a : Nat} (hn : nxt (edW w) left = some a) : wt w.length (fre (edW w) left) = pr a :: wtJ w (left.set a false) (w.getD a []) := by
  have ha := nxt_left hn
  have hfa : fre (edW w) left a = true := List.find?_some hn
  have hal := (List.getElem?_eq_some_iff.1 ha).1
  have hh := wt_nxt hl
  rw [hn] at hh
  have hins := wt_ins (n := w.length) (p := fun c => (left.set a false).getD c false && decide (cnt w (left.set a false) c + inT (w.getD a []) c = 0)) (p' := fre (edW w) left) (b := a) (by omega) (by rw [set_getD]; simp) hfa (fun c hc => by
    rw [fre_cnt hl, set_getD, cnt_set hl ha, show (c != a) = true by simp [hc], Bool.and_true]
    congr 3
    unfold inT edW
    by_cases hm : (c : Int) ∈ w.getD a [] <;> simp [hm])
  rw [← hins] at hh ⊢
  show _ = pr a :: wt _ _
  have hp := qins_perm (pr a) (wt w.length fun c => (left.set a false).getD c false && decide (cnt w (left.set a false) c + inT (w.getD a []) c = 0))
  cases hq : qins (pr a) (wt w.length fun c => (left.set a false).getD c false && decide (cnt w (left.set a false) c + inT (w.getD a []) c = 0)) with
  | nil => rw [show qins ((a : Int), (a : Int)) _ = _ from hq] at hh; cases hh
  | cons y T =>
    rw [show qins ((a : Int), (a : Int)) _ = _ from hq] at hh
    obtain rfl : y = pr a := by simpa using hh
    show qins (pr a) _ = _
    rw [hq] at hp ⊢
    congr 1
    have hs : (pr a :: T).Pairwise lt2 := by rw [← hq]; show (qins ((a : Int), (a : Int)) _).Pairwise lt2; rw [hins]; exact wt_sorted _ _
    exact List.Perm.eq_of_pairwise (le := lt2) (fun a b _ _ h1 h2 => lt2_irr h1 h2) (List.pairwise_cons.1 hs).2 (wt_sorted _ _) hp.cons_inv
/-- A taken one has nobody left ahead of it. -/
theorem Run.clear {ed : Nat → Nat → Bool} {left0 left : List Bool} {out : List Nat} (h : Run ed left0 out left) : ∀ c : Nat, left0[c]? = some true → left[c]? = some true ∨ ∀ b : Nat, left[b]? = some true → ed b c = false := by
  induction h with
  | nil => exact fun c hc => .inl hc
  | @snoc out left a h hn ih =>
    have hfa := fre_iff.1 (List.find?_some hn)
    have hsub : ∀ b : Nat, (left.set a false)[b]? = some true → left[b]? = some true := by
      intro b hb
      rw [List.getElem?_set] at hb
      split at hb
      · split at hb <;> cases hb
      · exact hb
    intro c hc
    by_cases e : c = a
    · subst e; exact .inr (fun b hb => hfa.2 b (hsub b hb))
    · rcases ih c hc with h1 | h1
      · left; rw [List.getElem?_set, if_neg (fun x => e x.symm)]; exact h1
      · exact .inr (fun b hb => h1 b (hsub b hb))
theorem trues_sel : ∀ (mem : List Bool), ((List.range mem.length).filter fun a => mem.getD a false).length = trues mem := by
  intro mem
  unfold trues
  have h : mem = (List.range mem.length).map fun a => mem.getD a false := by
    apply List.ext_getElem?
    intro i
    rw [List.getElem?_map]
    by_cases hi : i < mem.length
    · rw [List.getElem?_range hi, List.getElem?_eq_getElem hi]; simp [List.getD_eq_getElem?_getD, hi]
    · rw [List.getElem?_eq_none (by omega), List.getElem?_eq_none (by simp; omega)]; rfl
  conv => rhs; rw [h]
  rw [List.filter_map, List.length_map]
  rfl
end Go.Proofs.YtcacohoanlljhaaG


/-
  Package cycle: order's closures, drain.
-/
namespace Go.Proofs.YtcacohoanlljhaaG
set_option linter.unusedVariables false
set_option linter.unusedSimpArgs false
open Go.RowKit Go.Proofs.YtcacohoanlljhaaK Go.Proofs.YtcacohoanlljhaaT Go.Proofs.YtcacohoanlljhaaL
open Go.Proofs.YtcacohoanlljhaaQ (Pile queueR QOk qins qhas hd1 hd2 hd3 queue_New queue_Put queue_Take ptrV)

theorem pack2 {B : Base} {Φ Φ' Φ'' : List Res} {r1 r2 : Res} (h1 : Pick Φ r1 Φ') (h2 : Pick Φ' r2 Φ'') : Leads B Φ (bun [r1, r2] :: Φ'') := fun w h => St.pack (Ψ := [r1, r2]) (h.perm (h1.perm.trans (h2.perm.cons _)))
theorem unpack2 {B : Base} {Φ Φ' : List Res} {r1 r2 : Res} (h1 : Pick Φ (bun [r1, r2]) Φ') : Leads B Φ (r1 :: r2 :: Φ') := fun w h => St.unpack (Ψ := [r1, r2]) (h.perm h1.perm)
theorem ahJ_at {w : Graph} {left : List Bool} {l : List Int} {b : Nat} {u : Int} (hb : b < w.length) (hu : (ahJ w left l)[b]? = some u) : u = ((cnt w left b + inT l b : Nat) : Int) := by
  unfold ahJ at hu
  rw [aheadL_at hb] at hu
  exact (Option.some.inj hu).symm
theorem ahJ_step (w : Graph) (left : List Bool) {l : List Int} (hl : l.Pairwise (· < ·)) {j b : Nat} (hx : l[j]? = some (b : Int)) {v : Int} (hv : v = (cnt w left b : Int)) : (ahJ w left (l.drop j)).set b v = ahJ w left (l.drop (j + 1)) := by
  obtain ⟨h1, h2, h3⟩ := inT_drop hl hx
  exact aheadL_set (by rw [hv, h2]; rfl) (fun c hc => by rw [h3 c hc])
theorem wtJ_put (w : Graph) {left : List Bool} {l : List Int} (hl : l.Pairwise (· < ·)) {j b : Nat} (hx : l[j]? = some (b : Int)) (hb : b < w.length) (h0 : cnt w left b = 0) (hlb : left.getD b false = true) : qhas (wtJ w left (l.drop j)) (b : Int) = false ∧ qins ((b : Int), (b : Int)) (wtJ w left (l.drop j)) = wtJ w left (l.drop (j + 1)) := by
  obtain ⟨h1, h2, h3⟩ := inT_drop hl hx
  constructor
  · unfold wtJ
    rw [wt_has hb, h1, decide_eq_false (by omega), Bool.and_false]
  · exact wt_ins hb (by rw [h1, decide_eq_false (by omega), Bool.and_false]) (by rw [h2, hlb, decide_eq_true (by omega)]; rfl) (fun c hc => by rw [h3 c hc])
theorem wtJ_skip (w : Graph) {left : List Bool} {l : List Int} (hl : l.Pairwise (· < ·)) {j b : Nat} (hx : l[j]? = some (b : Int)) (h0 : cnt w left b ≠ 0) : wtJ w left (l.drop j) = wtJ w left (l.drop (j + 1)) := by
  obtain ⟨h1, h2, h3⟩ := inT_drop hl hx
  refine wt_congr (fun c _ => ?_)
  by_cases e : c = b
  · subst e; rw [decide_eq_false (by omega), decide_eq_false (by omega)]
  · rw [h3 c e]
theorem step_left {w : Graph} {mem left : List Bool} {out : List Nat} (hok : WOk w mem) (hrun : Run (edW w) mem out left) {a b : Nat} (hn : nxt (edW w) left = some a) (hx : (b : Int) ∈ w.getD a []) : (left.set a false).getD b false = true := by
  obtain ⟨c, hc, hmb⟩ := hok.mem2 a b hx
  obtain rfl : b = c := by omega
  have ha := nxt_left hn
  have he : edW w a b = true := decide_eq_true hx
  have hfa := fre_iff.1 (List.find?_some hn)
  have hne : b ≠ a := by rintro rfl; have := hfa.2 b ha; rw [he] at this; cases this
  rw [set_getD]
  rcases hrun.clear b (getD_true hmb) with h | h
  · rw [getD_at h]; simp [hne]
  · have := h a ha; rw [he] at this; cases this

set_option maxRecDepth 100000 in
set_option maxHeartbeats 1000000 in
theorem order1 {B : Base} {w : World} (b6 g6 : Nat) (ah : List Int) (W0 : World) (c : Nat) {v : Int} (hv : ah[c]? = some v) (hl : ah.length ≤ 1000)
    (hS : St B [blk b6 24 [.slice (some ⟨g6, 0, none⟩) ah.length ah.length], row (Kd.int .i64) W0 3 (.slice (some ⟨g6, 0, none⟩) ah.length ah.length) ah] w) :
    CallsIn Fence.wide 0 Try.prog 59 #[.int .i64 (c : Int), .pointer (some ⟨b6, 0, none⟩)] w
      (Ret B (fun _ : Unit => True) (fun _ => .bool (decide (v = 0))) (fun _ => [blk b6 24 [.slice (some ⟨g6, 0, none⟩) ah.length ah.length], row (Kd.int .i64) W0 3 (.slice (some ⟨g6, 0, none⟩) ah.length ah.length) ah])) := by
  have hcl := (List.getElem?_eq_some_iff.1 hv).1
  (refine enter Try.func59 rfl rfl hS ?_; simp only [List.zipIdx_cons, List.zipIdx_nil, List.map_cons, List.map_nil, Nat.reduceAdd, Nat.zero_add])
  refine wSeq ?_
  refine wRegion' ?_
  refine oAssign rfl ?_
  refine oNil ?_
  refine thn_n ?_
  refine wSeq ?_
  refine wRegion' ?_
  refine oLd rfl (by repeat (first | exact Pick.here | apply Pick.there)) rfl rfl ?_
  refine oMove rfl ?_
  refine oIdxR rfl rfl (by repeat (first | exact Pick.here | apply Pick.there)) (by omega) rfl rfl (fun g6 hg6 => ?_)
  first | subst hg6 | (injection hg6 with hg6; injection hg6 with hg6; subst hg6)
  first | refine oLdX rfl hc6 rfl rfl ?_ | refine oLdXA rfl hc6 rfl (by repeat (first | exact SubL.done | apply SubL.take | apply SubL.drop)) ?_ | (refine oLdR1 rfl (by repeat (first | exact Pick.here | apply Pick.there)) (by omega) rfl (fun u7 hu7 => ?_))
  refine oEql rfl rfl ?_
  refine oAssign rfl ?_
  refine oNil ?_
  refine thn_n ?_
  refine wRet ?_
  refine fin_r ?_
  refine ⟨rfl, _, (ResL.cons (ResR.tmp rfl) ResL.nil), ?_⟩
  exact ⟨(), trivial, by rw [Option.some.inj (hv.symm.trans hu7)]; rfl, (Leads.has (by repeat' (first | exact Has.nil | exact Pick.here | apply Has.cons | apply Pick.there)))⟩
set_option maxRecDepth 100000 in
theorem order3 {B : Base} {w : World} (a : Int) {H : List Res} (hS : St B H w) :
    CallsIn Fence.wide 0 Try.prog 64 #[.int .i64 a] w (Ret B (fun _ : Unit => True) (fun _ => .bool true) (fun _ => H)) := by
  (refine enter Try.func64 rfl rfl hS ?_; simp only [List.zipIdx_cons, List.zipIdx_nil, List.map_cons, List.map_nil, Nat.reduceAdd, Nat.zero_add])
  refine wSeq ?_
  refine wRegion' ?_
  refine oAssign rfl ?_
  refine oNil ?_
  refine thn_n ?_
  refine wSeq ?_
  refine wRegion' ?_
  refine oAssign rfl ?_
  refine oNil ?_
  refine thn_n ?_
  refine wRet ?_
  refine fin_r ?_
  refine ⟨rfl, _, (ResL.cons (ResR.tmp rfl) ResL.nil), ?_⟩
  exact ⟨(), trivial, rfl, fun _ h => h⟩
/-- What order's closures share. -/
abbrev ordR (b14 b2 b6 b11 q p g6 : Nat) (A9 : Option Addr) (c9 : Nat) (out : List Nat) (A : Option Addr) (cp : Nat) (W : Graph) (ah : List Int) (W0 : World) (s : Pile) : List Res :=
  [blk b14 24 [.slice A9 out.length c9], row (Kd.int .i64) W0 3 (.slice A9 out.length c9) (out.map Int.ofNat), blk b2 22 [.slice A W.length cp], blk b6 24 [.slice (some ⟨g6, 0, none⟩) W.length W.length], row (Kd.int .i64) W0 3 (.slice (some ⟨g6, 0, none⟩) W.length W.length) ah, blk b11 90 [ptrV q]] ++ queueR q p s

set_option maxRecDepth 100000 in
set_option maxHeartbeats 2000000 in
theorem order2 {B : Base} {w : World} (b14 b2 b6 b11 q p g6 : Nat) (A9 : Option Addr) (c9 : Nat) (out : List Nat) (A : Option Addr) (cp : Nat) (W : Graph) (W0 : World) (s : Pile) (left mem : List Bool) (a : Nat)
    (hS : St B (ordR b14 b2 b6 b11 q p g6 A9 c9 out A cp W (ahJ W (left.set a false) (W.getD a [])) W0 s) w) (hok : WOk W mem) (hrun : Run (edW W) mem out left) (hn : nxt (edW W) left = some a) (hq : QOk s (wtJ W (left.set a false) (W.getD a []))) (hC : kII.C B.e A W) :
    CallsIn Fence.wide 0 Try.prog 63 #[.int .i64 (a : Int), .pointer (some ⟨b14, 0, none⟩), .pointer (some ⟨b2, 0, none⟩), .pointer (some ⟨b6, 0, none⟩), .pointer (some ⟨b11, 0, none⟩)] w
      (Ret B (fun z : (Option Addr × Nat) × Pile => QOk z.2 (wtJ W (left.set a false) [])) (fun _ => .tuple #[]) (fun z => ordR b14 b2 b6 b11 q p g6 z.1.1 z.1.2 (out ++ [a]) A cp W (ahJ W (left.set a false) []) W0 z.2)) := by
  have hnn := hok.small
  have hln := hrun.len
  have hml := hok.len
  have htl := trues_le mem
  have hal := (List.getElem?_eq_some_iff.1 (nxt_left hn)).1
  have hrow := hok.row a
  have hahl : ∀ l, (ahJ W (left.set a false) l).length = W.length := fun l => aheadL_len _ _
  have hmo : (out ++ [a]).map Int.ofNat = out.map Int.ofNat ++ [(a : Int)] := by simp
  have hol : (out.map Int.ofNat).length = out.length := by simp
  have hml1 : (out ++ [a]).length = out.length + 1 := by simp
  (refine enter Try.func63 rfl rfl hS ?_; simp only [List.zipIdx_cons, List.zipIdx_nil, List.map_cons, List.map_nil, Nat.reduceAdd, Nat.zero_add])
  refine wSeq ?_
  refine wRegion' ?_
  refine oLd rfl (by repeat (first | exact Pick.here | apply Pick.there)) rfl rfl ?_
  refine oMove rfl ?_
  refine oBuildSlice1 rfl rfl rfl rfl rfl (by first | exact CellsOf.agg | exact CellsOf.one rfl) rfl (fun b10 => ?_)
  refine oApp1 _ rfl rfl rfl rfl (by repeat (first | exact Pick.here | apply Pick.there)) (by repeat (first | exact Pick.here | apply Pick.there)) rfl (by omega) rfl (fun g11 cp11 => ?_)
  refine oSt rfl rfl rfl rfl rfl (by repeat (first | exact Pick.here | apply Pick.there)) (by repeat (first | exact SetAt.here | apply SetAt.there)) ?_
  refine oNil ?_
  refine thn_n ?_
  refine wSeq ?_
  refine wRegion' ?_
  refine oLd rfl (by repeat (first | exact Pick.here | apply Pick.there)) rfl rfl ?_
  refine oMove rfl ?_
  refine oIdx rfl rfl (hC) rfl (by omega) rfl rfl (fun e14 u14 cs14 hu14 hk14 hc14 => ?_)
  obtain ⟨A0, c0, rfl, hle14, g0⟩ := hk14
  obtain rfl : u14 = W.getD a [] := (getD_at hu14).symm
  have m14 := g0.1
  first | refine oLdX rfl hc14 rfl rfl ?_ | refine oLdXA rfl hc14 rfl (by repeat (first | exact SubL.done | apply SubL.take | apply SubL.drop)) ?_ | (refine oLdR1 rfl (by repeat (first | exact Pick.here | apply Pick.there)) (by omega) rfl (fun u15 hu15 => ?_))
  refine oLenS rfl rfl ?_
  refine oMove rfl ?_
  refine oNil ?_
  refine thn_n ?_
  refine wBlock ?_
  refine wLoop (ι := Nat × Pile) (fun z => [(0, .int .i64 (a : Int)), (1, .pointer (some ⟨b14, 0, none⟩)), (2, .pointer (some ⟨b2, 0, none⟩)), (3, .pointer (some ⟨b6, 0, none⟩)), (4, .pointer (some ⟨b11, 0, none⟩)), (15, .slice A0 (W.getD a []).length c0), (16, .int .i64 ((W.getD a []).length : Int)), (17, .int .i64 (z.1 : Int))]) (fun z => ordR b14 b2 b6 b11 q p g6 (some ⟨g11, 0, none⟩) cp11 (out ++ [a]) A cp W (ahJ W (left.set a false) ((W.getD a []).drop z.1)) W0 z.2) (fun z => z.1 ≤ (W.getD a []).length ∧ QOk z.2 (wtJ W (left.set a false) ((W.getD a []).drop z.1))) (fun z => (W.getD a []).length - z.1) (0, s) ?_ (by repeat (first | exact trivial | refine And.intro rfl ?_)) (by dsimp only [ordR]; rw [hmo, hml1, List.drop_zero, ← hol]; exact (Leads.has (by repeat' (first | exact Has.nil | exact Pick.here | apply Has.cons | apply Pick.there)))) ?_
  ·
    exact ⟨Nat.zero_le _, by rw [List.drop_zero]; exact hq⟩
  ·
    rintro ⟨j, s1⟩ ⟨hj, hq1⟩
    dsimp only at hj hq1
    try dsimp only
    refine wSeq ?_
    refine wRegion' ?_
    refine oLss rfl rfl ?_
    refine oNil ?_
    refine thn_n ?_
    refine wSeq ?_
    first | refine wCond rfl (fun h18 => ?_) (fun h18 => ?_) | refine wCondB rfl (fun h18 => ?_) (fun h18 => ?_)
    ·
      refine wSkip ?_
      refine thn_n ?_
      refine wSeq ?_
      refine wBlock ?_
      refine wSeq ?_
      refine wRegion' ?_
      refine oIdx rfl rfl (g0) rfl (by omega) rfl rfl (fun e19 u19 cs19 hu19 hk19 hc19 => ?_)
      obtain rfl := hk19
      obtain ⟨b, rfl, hmb⟩ := hok.mem2 a u19 (List.mem_of_getElem? hu19)
      have hbl := getD_lt hmb
      have hid := inT_drop hrow hu19
      have hah1 := hahl ((W.getD a []).drop j)
      have hah2 := hahl ((W.getD a []).drop (j + 1))
      first | refine oLdX rfl hc19 rfl rfl ?_ | refine oLdXA rfl hc19 rfl (by repeat (first | exact SubL.done | apply SubL.take | apply SubL.drop)) ?_ | (refine oLdR1 rfl (by repeat (first | exact Pick.here | apply Pick.there)) (by omega) rfl (fun u20 hu20 => ?_))
      refine oAssign rfl ?_
      refine oNil ?_
      refine thn_n ?_
      refine wSeq ?_
      refine wRegion' ?_
      refine oLd rfl (by repeat (first | exact Pick.here | apply Pick.there)) rfl rfl ?_
      refine oMove rfl ?_
      refine oIdxR rfl rfl (by repeat (first | exact Pick.here | apply Pick.there)) (by omega) rfl rfl (fun g23 hg23 => ?_)
      first | subst hg23 | (injection hg23 with hg23; injection hg23 with hg23; subst hg23)
      first | refine oLdX rfl hc23 rfl rfl ?_ | refine oLdXA rfl hc23 rfl (by repeat (first | exact SubL.done | apply SubL.take | apply SubL.drop)) ?_ | (refine oLdR1 rfl (by repeat (first | exact Pick.here | apply Pick.there)) (by omega) rfl (fun u24 hu24 => ?_))
      have hu24' := ahJ_at (by omega) hu24
      rw [hid.1] at hu24'
      subst hu24'
      refine oSub rfl rfl (by have := cnt_le W (left.set a false) b; omega) ?_
      refine oIdxR rfl rfl (by repeat (first | exact Pick.here | apply Pick.there)) (by omega) rfl rfl (fun g26 hg26 => ?_)
      first | subst hg26 | (injection hg26 with hg26; injection hg26 with hg26; subst hg26)
      refine oStR _ rfl rfl rfl rfl (by repeat (first | exact Pick.here | apply Pick.there)) (by first | omega | (simp only [List.length_set]; omega)) ?_
      refine oNil ?_
      refine thn_n ?_
      refine wSeq ?_
      refine wRegion' ?_
      refine oLd rfl (by repeat (first | exact Pick.here | apply Pick.there)) rfl rfl ?_
      rw [ahJ_step W (left.set a false) hrow hu19 (by omega)]
      refine oMove rfl ?_
      refine oIdxR rfl rfl (by repeat (first | exact Pick.here | apply Pick.there)) (by omega) rfl rfl (fun g29 hg29 => ?_)
      first | subst hg29 | (injection hg29 with hg29; injection hg29 with hg29; subst hg29)
      first | refine oLdX rfl hc29 rfl rfl ?_ | refine oLdXA rfl hc29 rfl (by repeat (first | exact SubL.done | apply SubL.take | apply SubL.drop)) ?_ | (refine oLdR1 rfl (by repeat (first | exact Pick.here | apply Pick.there)) (by omega) rfl (fun u30 hu30 => ?_))
      have hu30' := ahJ_at (by omega) hu30
      rw [hid.2.1, Nat.add_zero] at hu30'
      subst hu30'
      refine oEql rfl rfl ?_
      refine oNil ?_
      refine thn_n ?_
      first | refine wCond rfl (fun h31 => ?_) (fun h31 => ?_) | refine wCondB rfl (fun h31 => ?_) (fun h31 => ?_)
      ·
        have hput := wtJ_put W hrow hu19 (by omega) (by omega) (step_left hok hrun hn (List.mem_of_getElem? hu19))
        have hwl : (wtJ W (left.set a false) ((W.getD a []).drop j)).length ≤ W.length := wt_len _ _
        refine wRegion' ?_
        refine oLd rfl (by repeat (first | exact Pick.here | apply Pick.there)) rfl rfl ?_
        refine oMove rfl ?_
        refine oMove rfl ?_
        (refine oCall rfl (by kernel_rfl) (fun w hS => frame hS (by repeat' (first | exact Split.nil | exact Pick.here | apply Split.cons | apply Pick.there)) (fun B' hB hS' => queue_Put (p := p) (s := s1) hS' hq1 _ _ (by omega))) ?_; rintro s2 hq2)
        rw [hput.1, if_neg (by simp), hput.2] at hq2
        refine oNil ?_
        refine blk_n ?_
        refine thn_n ?_
        refine wRegion' ?_
        refine oSucc rfl rfl (by omega) ?_
        refine oMove rfl ?_
        refine oNil ?_
        refine thn_n ?_
        exact ⟨rfl, (j + 1, s2), ⟨by show j + 1 ≤ _; omega, hq2⟩, by show (W.getD a []).length - (j + 1) < (W.getD a []).length - j; omega, (by repeat (first | exact trivial | refine And.intro rfl ?_)), (Leads.has (by repeat' (first | exact Has.nil | exact Pick.here | apply Has.cons | apply Pick.there)))⟩
      ·
        have hsk := wtJ_skip W (left := left.set a false) hrow hu19 (by omega)
        rw [hsk] at hq1
        refine wSkip ?_
        refine blk_n ?_
        refine thn_n ?_
        refine wRegion' ?_
        refine oSucc rfl rfl (by omega) ?_
        refine oMove rfl ?_
        refine oNil ?_
        refine thn_n ?_
        exact ⟨rfl, (j + 1, s1), ⟨by show j + 1 ≤ _; omega, hq1⟩, by show (W.getD a []).length - (j + 1) < (W.getD a []).length - j; omega, (by repeat (first | exact trivial | refine And.intro rfl ?_)), (Leads.has (by repeat' (first | exact Has.nil | exact Pick.here | apply Has.cons | apply Pick.there)))⟩
    ·
      refine wExit ?_
      refine thn_x ?_
      refine thn_x ?_
      refine blk_x ?_
      refine fin_n ?_
      refine ⟨rfl, _, ResL.nil, ?_⟩
      obtain rfl : j = (W.getD a []).length := by omega
      rw [List.drop_length] at hq1 ⊢
      exact ⟨((some ⟨g11, 0, none⟩, cp11), s1), hq1, rfl, (Leads.has (by repeat' (first | exact Has.nil | exact Pick.here | apply Has.cons | apply Pick.there)))⟩
end Go.Proofs.YtcacohoanlljhaaG


/-
  Package cycle: drain, order.
-/
namespace Go.Proofs.YtcacohoanlljhaaG
set_option linter.unusedVariables false
set_option linter.unusedSimpArgs false
open Go.RowKit Go.Proofs.YtcacohoanlljhaaK Go.Proofs.YtcacohoanlljhaaT Go.Proofs.YtcacohoanlljhaaL
open Go.Proofs.YtcacohoanlljhaaQ (Pile queueR QOk qins qhas hd1 hd2 hd3 queue_New queue_Put queue_Take ptrV)

abbrev takeV (q : Nat) : Value := .func (.func 62) #[ptrV q] #[]
abbrev doV (b14 b2 b6 b11 : Nat) : Value := .func (.func 63) #[] #[.pointer (some ⟨b14, 0, none⟩), .pointer (some ⟨b2, 0, none⟩), .pointer (some ⟨b6, 0, none⟩), .pointer (some ⟨b11, 0, none⟩)]
theorem wtJ_cases (W : Graph) {left : List Bool} (hl : left.length = W.length) : (hd3 (wtJ W left []) = false ∧ nxt (edW W) left = none) ∨ ∃ a, nxt (edW W) left = some a ∧ wtJ W left [] = pr a :: wtJ W (left.set a false) (W.getD a []) := by
  rw [wtJ_nil W hl]
  cases hn : nxt (edW W) left with
  | none =>
    left
    refine ⟨?_, rfl⟩
    have := wt_nxt hl
    rw [hn] at this
    cases hw : wt W.length (fre (edW W) left) with
    | nil => rfl
    | cons x T => rw [hw] at this; cases this
  | some a => exact .inr ⟨a, rfl, wt_take hl hn⟩
theorem ahJ_take {W : Graph} {left : List Bool} (hl : left.length = W.length) {a : Nat} (hn : nxt (edW W) left = some a) : ahJ W left [] = ahJ W (left.set a false) (W.getD a []) := aheadL_congr (fun c => by
  rw [cnt_set hl (nxt_left hn)]
  unfold inT edW
  by_cases hm : (c : Int) ∈ W.getD a [] <;> simp [hm])

set_option maxRecDepth 100000 in
set_option maxHeartbeats 2000000 in
theorem drain_any {B : Base} {w : World} (b14 b2 b6 b11 q p g6 : Nat) (A9 : Option Addr) (c9 : Nat) (out : List Nat) (A : Option Addr) (cp : Nat) (W : Graph) (W0 : World) (s : Pile) (left mem : List Bool)
    (hS : St B (ordR b14 b2 b6 b11 q p g6 A9 c9 out A cp W (ahJ W left []) W0 s) w) (hok : WOk W mem) (hrun : Run (edW W) mem out left) (hq : QOk s (wtJ W left [])) (hC : kII.C B.e A W) :
    CallsIn Fence.wide 0 Try.prog 61 #[takeV q, doV b14 b2 b6 b11] w
      (Ret B (fun z : (Option Addr × Nat) × (List Nat × List Bool) × Pile => Run (edW W) mem z.2.1.1 z.2.1.2 ∧ nxt (edW W) z.2.1.2 = none) (fun _ => .tuple #[]) (fun z => ordR b14 b2 b6 b11 q p g6 z.1.1 z.1.2 z.2.1.1 A cp W (ahJ W z.2.1.2 []) W0 z.2.2)) := by
  have hml := hok.len
  (refine enter Try.func61 rfl rfl hS ?_; simp only [List.zipIdx_cons, List.zipIdx_nil, List.map_cons, List.map_nil, Nat.reduceAdd, Nat.zero_add])
  refine wBlock ?_
  refine wLoop (ι := (Option Addr × Nat) × (List Nat × List Bool) × Pile) (fun z => [(0, takeV q), (1, doV b14 b2 b6 b11)]) (fun z => ordR b14 b2 b6 b11 q p g6 z.1.1 z.1.2 z.2.1.1 A cp W (ahJ W z.2.1.2 []) W0 z.2.2) (fun z => Run (edW W) mem z.2.1.1 z.2.1.2 ∧ QOk z.2.2 (wtJ W z.2.1.2 [])) (fun z => trues z.2.1.2) ((A9, c9), (out, left), s) ?_ (by repeat (first | exact trivial | refine And.intro rfl ?_)) (Leads.has (by repeat' (first | exact Has.nil | exact Pick.here | apply Has.cons | apply Pick.there))) ?_
  ·
    exact ⟨hrun, hq⟩
  ·
    rintro ⟨⟨A1, c1⟩, ⟨out1, left1⟩, s1⟩ ⟨hrun1, hq1⟩
    dsimp only at hrun1 hq1
    have hl1 : left1.length = W.length := by have := hrun1.len; omega
    try dsimp only
    refine wBlock ?_
    refine wSeq ?_
    refine wRegion' ?_
    refine oMove rfl ?_
    (refine oCallV rfl rfl rfl (by kernel_rfl) (fun w hS => frame hS (by repeat' (first | exact Split.nil | exact Pick.here | apply Split.cons | apply Pick.there)) (fun B' hB hS' => queue_Take (p := p) (s := s1) hS' hq1)) ?_; rintro s2 hq2)
    refine oMove rfl ?_
    refine oExt rfl (by repeat (first | exact GetAt.here | apply GetAt.there)) ?_
    refine oExt rfl (by repeat (first | exact GetAt.here | apply GetAt.there)) ?_
    refine oExt rfl (by repeat (first | exact GetAt.here | apply GetAt.there)) ?_
    refine oAssign rfl ?_
    refine oAssign rfl ?_
    refine oAssign rfl ?_
    refine oNil ?_
    refine thn_n ?_
    refine wSeq ?_
    refine wSeq ?_
    refine wRegion' ?_
    refine oMove rfl ?_
    first | refine oNot rfl ?_ | refine oNotB rfl ?_
    refine oNil ?_
    refine thn_n ?_
    first | refine wCond rfl (fun h14 => ?_) (fun h14 => ?_) | refine wCondB rfl (fun h14 => ?_) (fun h14 => ?_)
    ·
      have hnx : nxt (edW W) left1 = none := by
        rcases wtJ_cases W hl1 with h | ⟨a, h1, h2⟩
        · exact h.2
        · rw [h2] at h14; cases h14
      refine wRet ?_
      refine thn_r ?_
      refine blk_r ?_
      refine thn_r ?_
      refine blk_r ?_
      refine fin_r ?_
      refine ⟨rfl, _, ResL.nil, ?_⟩
      exact ⟨((A1, c1), (out1, left1), s2), ⟨hrun1, hnx⟩, rfl, (Leads.has (by repeat' (first | exact Has.nil | exact Pick.here | apply Has.cons | apply Pick.there)))⟩
    ·
      obtain ⟨a, hnx, hW⟩ : ∃ a, nxt (edW W) left1 = some a ∧ wtJ W left1 [] = pr a :: wtJ W (left1.set a false) (W.getD a []) := by
        rcases wtJ_cases W hl1 with h | h
        · rw [h.1] at h14; cases h14
        · exact h
      rw [hW] at hq2 ⊢
      rw [ahJ_take hl1 hnx]
      refine wSkip ?_
      refine thn_n ?_
      refine wRegion' ?_
      refine oMove rfl ?_
      refine oMove rfl ?_
      (refine oCallV rfl rfl rfl (by kernel_rfl) (fun w hS => frame hS (by repeat' (first | exact Split.nil | exact Pick.here | apply Split.cons | apply Pick.there)) (fun B' hB hS' => order2 b14 b2 b6 b11 q p g6 A1 c1 out1 A cp W W0 s2 left1 mem a hS' hok hrun1 hnx hq2 (Kd.C_grow hB hC))) ?_; rintro ⟨⟨A2, c2⟩, s3⟩ hq3)
      dsimp only at hq3
      refine oNil ?_
      refine blk_n ?_
      refine thn_n ?_
      exact ⟨rfl, ((A2, c2), (out1 ++ [a], left1.set a false), s3), ⟨.snoc hrun1 hnx, hq3⟩, trues_lt (nxt_left hnx), (by repeat (first | exact trivial | refine And.intro rfl ?_)), (Leads.has (by repeat' (first | exact Has.nil | exact Pick.here | apply Has.cons | apply Pick.there)))⟩
end Go.Proofs.YtcacohoanlljhaaG


/-
  Package cycle: order.
-/
namespace Go.Proofs.YtcacohoanlljhaaG
set_option linter.unusedVariables false
set_option linter.unusedSimpArgs false
open Go.RowKit Go.Proofs.YtcacohoanlljhaaK Go.Proofs.YtcacohoanlljhaaT Go.Proofs.YtcacohoanlljhaaL
open Go.Proofs.YtcacohoanlljhaaQ (Pile queueR QOk qins qhas hd1 hd2 hd3 queue_New queue_Put queue_Take ptrV lt2)

def kahn (W : Graph) (mem : List Bool) : List Nat := gr (edW W) (trues mem) mem
def kok (W : Graph) (mem : List Bool) : Bool := decide ((kahn W mem).length = trues mem)
def kL (W : Graph) (mem : List Bool) : List Int := if kok W mem then (kahn W mem).map Int.ofNat else []
theorem bld_at {W : Graph} {i j b : Nat} {u : Int} (hb : b < W.length) (hu : (aheadL W.length (bld W i j))[b]? = some u) : u = (bld W i j b : Int) := by
  rw [aheadL_at hb] at hu
  exact (Option.some.inj hu).symm
theorem bld_step {W : Graph} {i j b : Nat} (hl : (W.getD i []).Pairwise (· < ·)) (hx : (W.getD i [])[j]? = some (b : Int)) : (aheadL W.length (bld W i j)).set b ((bld W i j b : Int) + 1) = aheadL W.length (bld W i (j + 1)) := by
  obtain ⟨h1, h2, h3⟩ := inT_take hl hx
  exact aheadL_set (by unfold bld; rw [h1, h2]; omega) (fun c hc => by unfold bld; rw [h3 c hc])
def freL (W : Graph) (mem : List Bool) : List Nat := (List.range W.length).filter (fre (edW W) mem)
theorem freL_sel {W : Graph} {mem : List Bool} (h : WOk W mem) : selTo (memb mem fun a => decide (cnt W mem a = 0)) mem.length = (freL W mem).map Int.ofNat := by
  unfold selTo freL
  rw [h.len]
  congr 1
  exact List.filter_congr (fun c _ => by rw [fre_cnt h.len.symm]; rfl)
theorem nat_at {l : List Nat} {k : Nat} {u : Int} (h : (l.map Int.ofNat)[k]? = some u) : ∃ x : Nat, l[k]? = some x ∧ u = (x : Int) := by
  rw [List.getElem?_map] at h
  cases hx : l[k]? with
  | none => rw [hx] at h; cases h
  | some x => rw [hx] at h; exact ⟨x, rfl, (Option.some.inj h).symm⟩
theorem qins_last {x : Int × Int} {L : List (Int × Int)} (h : ∀ y ∈ L, lt2 y x) : qins x L = L ++ [x] := by
  induction L with
  | nil => rfl
  | cons y L ih =>
    simp only [qins]
    rw [if_neg (by have := h y List.mem_cons_self; unfold lt2 at *; omega), ih (fun z hz => h z (List.mem_cons_of_mem _ hz))]; rfl
theorem freL_take {W : Graph} {mem : List Bool} {k x : Nat} (hx : (freL W mem)[k]? = some x) : qhas (((freL W mem).take k).map pr) (x : Int) = false ∧ qins ((x : Int), (x : Int)) (((freL W mem).take k).map pr) = ((freL W mem).take (k + 1)).map pr := by
  have hp : (freL W mem).Pairwise (· < ·) := List.pairwise_lt_range.sublist List.filter_sublist
  obtain ⟨hk, rfl⟩ := List.getElem?_eq_some_iff.1 hx
  have hlt : ∀ y ∈ (freL W mem).take k, y < (freL W mem)[k] := by
    intro y hy
    obtain ⟨i, hi, rfl⟩ := List.mem_take_iff_getElem.1 hy
    exact List.pairwise_iff_getElem.1 hp i k (by omega) hk (by omega)
  constructor
  · unfold qhas
    rw [List.any_eq_false]
    intro y hy
    obtain ⟨c, hc, rfl⟩ := List.mem_map.1 hy
    have := hlt c hc
    show ¬ ((c : Int) == _) = true
    rw [beq_iff_eq]; omega
  · rw [List.take_add_one, List.getElem?_eq_getElem hk, List.map_append]
    exact qins_last (fun y hy => by
      obtain ⟨c, hc, rfl⟩ := List.mem_map.1 hy
      have := hlt c hc
      left
      show (c : Int) < _
      omega)
theorem freL_len (W : Graph) (mem : List Bool) : (freL W mem).length ≤ W.length := Nat.le_trans (List.length_filter_le _ _) (by simp)
theorem sel_all (mem : List Bool) : (selTo (memb mem fun _ => true) mem.length).length = trues mem := by
  unfold selTo
  rw [List.length_map, ← trues_sel]
  congr 1
  exact List.filter_congr (fun c _ => by unfold memb; rw [Bool.and_true])
theorem kahn_end {W : Graph} {mem left : List Bool} {out : List Nat} (hrun : Run (edW W) mem out left) (hn : nxt (edW W) left = none) : kahn W mem = out := (hrun.done hn).symm
theorem kahn_bad {W : Graph} {mem left : List Bool} {out : List Nat} (hrun : Run (edW W) mem out left) (hn : nxt (edW W) left = none) (h : out.length < trues mem) : kok W mem = false ∧ kL W mem = [] := by
  have h1 : kok W mem = false := by unfold kok; rw [kahn_end hrun hn]; exact decide_eq_false (by omega)
  exact ⟨h1, by unfold kL; rw [h1]; rfl⟩
theorem kahn_good {W : Graph} {mem left : List Bool} {out : List Nat} (hrun : Run (edW W) mem out left) (hn : nxt (edW W) left = none) (h : ¬ out.length < trues mem) : kok W mem = true ∧ kL W mem = out.map Int.ofNat := by
  have h0 := hrun.len
  have h1 : kok W mem = true := by unfold kok; rw [kahn_end hrun hn]; exact decide_eq_true (by omega)
  exact ⟨h1, by unfold kL; rw [h1, if_pos rfl, kahn_end hrun hn]⟩
theorem o1 {B : Base} {w : World} (W : Graph) (mem : List Bool) (b6 g6 : Nat) (W0 : World) (a : Nat) (hn : W.length ≤ 1000) (ha : a < W.length)
    (hS : St B [bun [blk b6 24 [.slice (some ⟨g6, 0, none⟩) W.length W.length], row (Kd.int .i64) W0 3 (.slice (some ⟨g6, 0, none⟩) W.length W.length) (aheadL W.length (cnt W mem))]] w) :
    CallsIn Fence.wide 0 Try.prog 59 (#[] ++ [Value.int .i64 (a : Int)].toArray ++ #[.pointer (some ⟨b6, 0, none⟩)]) w (Ret B (fun _ : Unit => True) (fun _ => .bool (decide (cnt W mem a = 0))) (fun _ => [bun [blk b6 24 [.slice (some ⟨g6, 0, none⟩) W.length W.length], row (Kd.int .i64) W0 3 (.slice (some ⟨g6, 0, none⟩) W.length W.length) (aheadL W.length (cnt W mem))]])) := by
  have hl := aheadL_len W.length (cnt W mem)
  have h1 := order1 (B := B) (w := w) b6 g6 (aheadL W.length (cnt W mem)) W0 a (aheadL_at ha) (by omega) (by rw [hl]; exact hS.unpack)
  rw [hl] at h1
  refine h1.mono ?_
  rintro e w' ⟨i, hi, he, hw⟩
  refine ⟨i, hi, ?_, St.pack hw⟩
  rw [show decide (cnt W mem a = 0) = decide ((cnt W mem a : Int) = 0) from decide_eq_decide.2 (by omega)]
  exact he

set_option maxRecDepth 100000 in
set_option maxHeartbeats 2000000 in
theorem order_any {B : Base} {w : World} (hS : St B [] w) (W : Graph) (mem : List Bool) (hok : WOk W mem) (A : Option Addr) (cp : Nat) (hC : kII.C B.e A W) (A1 : Option Addr) (cp1 : Nat) (hC1 : Kd.bool.C B.e A1 mem) (W0 : World) :
    CallsIn Fence.wide 0 Try.prog 38 #[.slice A W.length cp, .slice A1 mem.length cp1] w
      (Ret B (fun _ : Option Addr × Nat => True) (fun z => .tuple #[.slice z.1 (kL W mem).length z.2, .bool (kok W mem)]) (fun z => [row (Kd.int .i64) W0 3 (.slice z.1 (kL W mem).length z.2) (kL W mem)])) := by
  have hn := hok.small
  have hml := hok.len
  have htl := trues_le mem
  have hfl := freL_len W mem
  (refine enter Try.func38 rfl rfl hS ?_; simp only [List.zipIdx_cons, List.zipIdx_nil, List.map_cons, List.map_nil, Nat.reduceAdd, Nat.zero_add])
  refine wSeq ?_
  refine wRegion' ?_
  refine oBox rfl (by first | exact CellsOf.agg | exact CellsOf.one rfl) (fun b2 => ?_)
  refine oAssign rfl ?_
  refine oAssign rfl ?_
  refine oNil ?_
  refine thn_n ?_
  refine wSeq ?_
  refine wRegion' ?_
  refine oLd rfl (by repeat (first | exact Pick.here | apply Pick.there)) rfl rfl ?_
  refine oLenS rfl rfl ?_
  refine oMake (kd := Kd.int .i64) (W := W0) (0 : Int) rfl rfl rfl rfl rfl rfl (by omega) rfl (fun g6 => ?_)
  rw [show List.replicate W.length (0 : Int) = aheadL W.length (bld W 0 0) by rw [← aheadL_zero]; exact aheadL_congr (fun c => (bld_zero W c).symm)]
  refine oAlloc rfl (by first | exact CellsOf.agg | exact CellsOf.one rfl) (fun b6 => ?_)
  refine oSt rfl rfl rfl rfl rfl (by repeat (first | exact Pick.here | apply Pick.there)) (by repeat (first | exact SetAt.here | apply SetAt.there)) ?_
  refine oNil ?_
  refine thn_n ?_
  refine wSeq ?_
  refine wSeq ?_
  refine wRegion' ?_
  refine oLd rfl (by repeat (first | exact Pick.here | apply Pick.there)) rfl rfl ?_
  refine oLenS rfl rfl ?_
  refine oMove rfl ?_
  refine oNil ?_
  refine thn_n ?_
  refine wBlock ?_
  refine wLoop (ι := Nat) (fun i => [(1, .slice A1 mem.length cp1), (2, .pointer (some ⟨b2, 0, none⟩)), (6, .pointer (some ⟨b6, 0, none⟩)), (18, .slice A W.length cp), (19, .int .i64 (W.length : Int)), (20, .int .i64 (i : Int))]) (fun i => [blk b2 22 [.slice A W.length cp], blk b6 24 [.slice (some ⟨g6, 0, none⟩) W.length W.length], row (Kd.int .i64) W0 3 (.slice (some ⟨g6, 0, none⟩) W.length W.length) (aheadL W.length (bld W i 0))]) (fun i => i ≤ W.length) (fun i => W.length - i) 0 ?_ (by repeat (first | exact trivial | refine And.intro rfl ?_)) (Leads.has (by repeat' (first | exact Has.nil | exact Pick.here | apply Has.cons | apply Pick.there))) ?_
  ·
    exact Nat.zero_le _
  ·
    rintro i hi
    try dsimp only
    refine wSeq ?_
    refine wRegion' ?_
    refine oLss rfl rfl ?_
    refine oNil ?_
    refine thn_n ?_
    refine wSeq ?_
    first | refine wCond rfl (fun h21 => ?_) (fun h21 => ?_) | refine wCondB rfl (fun h21 => ?_) (fun h21 => ?_)
    ·
      refine wSkip ?_
      refine thn_n ?_
      refine wSeq ?_
      refine wBlock ?_
      refine wSeq ?_
      refine wRegion' ?_
      refine oIdx rfl rfl (hC) rfl (by omega) rfl rfl (fun e22 u22 cs22 hu22 hk22 hc22 => ?_)
      obtain ⟨A0, c0, rfl, hle22, g0⟩ := hk22
      obtain rfl : u22 = W.getD i [] := (getD_at hu22).symm
      have m0 := g0.1
      have hrow := hok.row i
      first | refine oLdX rfl hc22 rfl rfl ?_ | refine oLdXA rfl hc22 rfl (by repeat (first | exact SubL.done | apply SubL.take | apply SubL.drop)) ?_ | (refine oLdR1 rfl (by repeat (first | exact Pick.here | apply Pick.there)) (by omega) rfl (fun u23 hu23 => ?_))
      refine oAssign rfl ?_
      refine oNil ?_
      refine thn_n ?_
      refine wSeq ?_
      refine wRegion' ?_
      refine oMove rfl ?_
      refine oLenS rfl rfl ?_
      refine oMove rfl ?_
      refine oNil ?_
      refine thn_n ?_
      refine wBlock ?_
      refine wLoop (ι := Nat) (fun j => [(1, .slice A1 mem.length cp1), (2, .pointer (some ⟨b2, 0, none⟩)), (6, .pointer (some ⟨b6, 0, none⟩)), (18, .slice A W.length cp), (19, .int .i64 (W.length : Int)), (20, .int .i64 (i : Int)), (24, .slice A0 (W.getD i []).length c0), (25, .int .i64 ((W.getD i []).length : Int)), (26, .int .i64 (j : Int))]) (fun j => [blk b2 22 [.slice A W.length cp], blk b6 24 [.slice (some ⟨g6, 0, none⟩) W.length W.length], row (Kd.int .i64) W0 3 (.slice (some ⟨g6, 0, none⟩) W.length W.length) (aheadL W.length (bld W i j))]) (fun j => j ≤ (W.getD i []).length) (fun j => (W.getD i []).length - j) 0 ?_ (by repeat (first | exact trivial | refine And.intro rfl ?_)) (Leads.has (by repeat' (first | exact Has.nil | exact Pick.here | apply Has.cons | apply Pick.there))) ?_
      ·
        exact Nat.zero_le _
      ·
        rintro j hj
        try dsimp only
        refine wSeq ?_
        refine wRegion' ?_
        refine oLss rfl rfl ?_
        refine oNil ?_
        refine thn_n ?_
        refine wSeq ?_
        first | refine wCond rfl (fun h27 => ?_) (fun h27 => ?_) | refine wCondB rfl (fun h27 => ?_) (fun h27 => ?_)
        ·
          refine wSkip ?_
          refine thn_n ?_
          refine wSeq ?_
          refine wBlock ?_
          refine wSeq ?_
          refine wRegion' ?_
          refine oIdx rfl rfl (g0) rfl (by omega) rfl rfl (fun e28 u28 cs28 hu28 hk28 hc28 => ?_)
          obtain rfl := hk28
          obtain ⟨b, rfl, hmb⟩ := hok.mem2 i u28 (List.mem_of_getElem? hu28)
          have hbl := getD_lt hmb
          have hal := aheadL_len W.length (bld W i j)
          have hbb := bld_le W i j b
          first | refine oLdX rfl hc28 rfl rfl ?_ | refine oLdXA rfl hc28 rfl (by repeat (first | exact SubL.done | apply SubL.take | apply SubL.drop)) ?_ | (refine oLdR1 rfl (by repeat (first | exact Pick.here | apply Pick.there)) (by omega) rfl (fun u29 hu29 => ?_))
          refine oAssign rfl ?_
          refine oNil ?_
          refine thn_n ?_
          refine wRegion' ?_
          refine oLd rfl (by repeat (first | exact Pick.here | apply Pick.there)) rfl rfl ?_
          refine oMove rfl ?_
          refine oIdxR rfl rfl (by repeat (first | exact Pick.here | apply Pick.there)) (by omega) rfl rfl (fun g32 hg32 => ?_)
          first | subst hg32 | (injection hg32 with hg32; injection hg32 with hg32; subst hg32)
          first | refine oLdX rfl hc32 rfl rfl ?_ | refine oLdXA rfl hc32 rfl (by repeat (first | exact SubL.done | apply SubL.take | apply SubL.drop)) ?_ | (refine oLdR1 rfl (by repeat (first | exact Pick.here | apply Pick.there)) (by omega) rfl (fun u33 hu33 => ?_))
          obtain rfl := bld_at (by omega) hu33
          refine oAdd rfl rfl (by omega) ?_
          refine oIdxR rfl rfl (by repeat (first | exact Pick.here | apply Pick.there)) (by omega) rfl rfl (fun g35 hg35 => ?_)
          first | subst hg35 | (injection hg35 with hg35; injection hg35 with hg35; subst hg35)
          refine oStR _ rfl rfl rfl rfl (by repeat (first | exact Pick.here | apply Pick.there)) (by first | omega | (simp only [List.length_set]; omega)) ?_
          refine oNil ?_
          refine blk_n ?_
          refine thn_n ?_
          refine wRegion' ?_
          rw [bld_step hrow hu28]
          refine oSucc rfl rfl (by omega) ?_
          refine oMove rfl ?_
          refine oNil ?_
          refine thn_n ?_
          exact ⟨rfl, j + 1, by omega, by omega, (by repeat (first | exact trivial | refine And.intro rfl ?_)), (Leads.has (by repeat' (first | exact Has.nil | exact Pick.here | apply Has.cons | apply Pick.there)))⟩
        ·
          obtain rfl : j = (W.getD i []).length := by omega
          rw [aheadL_congr (bld_next W i)]
          refine wExit ?_
          refine thn_x ?_
          refine thn_x ?_
          refine blk_x ?_
          refine blk_n ?_
          refine thn_n ?_
          refine wRegion' ?_
          refine oSucc rfl rfl (by omega) ?_
          refine oMove rfl ?_
          refine oNil ?_
          refine thn_n ?_
          exact ⟨rfl, i + 1, by omega, by omega, (by repeat (first | exact trivial | refine And.intro rfl ?_)), (Leads.has (by repeat' (first | exact Has.nil | exact Pick.here | apply Has.cons | apply Pick.there)))⟩
    ·
      obtain rfl : i = W.length := by omega
      rw [aheadL_congr (bld_all hok)]
      refine wExit ?_
      refine thn_x ?_
      refine thn_x ?_
      refine blk_x ?_
      refine thn_n ?_
      refine wSeq ?_
      refine wRegion' ?_
      (refine oCall rfl (by kernel_rfl) (fun w hS => frame hS (by repeat' (first | exact Split.nil | exact Pick.here | apply Split.cons | apply Pick.there)) (fun B' hB hS' => queue_New hS')) ?_; rintro ⟨q, p, s0⟩ hq0)
      dsimp only at hq0 ⊢
      refine oAlloc rfl (by first | exact CellsOf.agg | exact CellsOf.one rfl) (fun b11 => ?_)
      refine oSt rfl rfl rfl rfl rfl (by repeat (first | exact Pick.here | apply Pick.there)) (by repeat (first | exact SetAt.here | apply SetAt.there)) ?_
      refine oNil ?_
      refine thn_n ?_
      refine wSeq ?_
      refine wSeq ?_
      refine wRegion' ?_
      refine oMove rfl ?_
      refine oMakeFunc rfl ?_
      refine oConv (pack2 (r1 := blk b6 24 [.slice (some ⟨g6, 0, none⟩) W.length W.length]) (r2 := row (Kd.int .i64) W0 3 (.slice (some ⟨g6, 0, none⟩) W.length W.length) (aheadL W.length (cnt W mem))) (by repeat (first | exact Pick.here | apply Pick.there)) (by repeat (first | exact Pick.here | apply Pick.there))) ?_
      (refine oCall rfl (by kernel_rfl) (fun w hS => frame hS (by repeat' (first | exact Split.nil | exact Pick.here | apply Split.cons | apply Pick.there)) (fun B' hB hS' => members_any (R := bun [blk b6 24 [.slice (some ⟨g6, 0, none⟩) W.length W.length], row (Kd.int .i64) W0 3 (.slice (some ⟨g6, 0, none⟩) W.length W.length) (aheadL W.length (cnt W mem))]) hS' mem A1 cp1 (Kd.C_grow hB hC1) (by omega) 59 #[.pointer (some ⟨b6, 0, none⟩)] (fun a => decide (cnt W mem a = 0)) (by kernel_rfl) (fun B'' w a hB2 ha hS2 => o1 W mem b6 g6 W0 a hn (by omega) hS2) W0)) ?_; rintro ⟨A41, c41⟩ -)
      refine oConv (unpack2 (by repeat (first | exact Pick.here | apply Pick.there))) ?_
      rw [freL_sel hok]
      refine oLenS rfl rfl ?_
      refine oMove rfl ?_
      refine oNil ?_
      refine thn_n ?_
      refine wBlock ?_
      refine wLoop (ι := Nat × Pile) (fun z => [(1, .slice A1 mem.length cp1), (2, .pointer (some ⟨b2, 0, none⟩)), (6, .pointer (some ⟨b6, 0, none⟩)), (11, .pointer (some ⟨b11, 0, none⟩)), (41, .slice A41 ((freL W mem).map Int.ofNat).length c41), (42, .int .i64 (((freL W mem).map Int.ofNat).length : Int)), (43, .int .i64 (z.1 : Int))]) (fun z => [blk b2 22 [.slice A W.length cp], blk b6 24 [.slice (some ⟨g6, 0, none⟩) W.length W.length], row (Kd.int .i64) W0 3 (.slice (some ⟨g6, 0, none⟩) W.length W.length) (aheadL W.length (cnt W mem)), blk b11 90 [ptrV q], row (Kd.int .i64) W0 3 (.slice A41 ((freL W mem).map Int.ofNat).length c41) ((freL W mem).map Int.ofNat)] ++ queueR q p z.2) (fun z => z.1 ≤ ((freL W mem).map Int.ofNat).length ∧ QOk z.2 (((freL W mem).take z.1).map pr)) (fun z => ((freL W mem).map Int.ofNat).length - z.1) (0, s0) ?_ (by repeat (first | exact trivial | refine And.intro rfl ?_)) (Leads.has (by repeat' (first | exact Has.nil | exact Pick.here | apply Has.cons | apply Pick.there))) ?_
      ·
        exact ⟨Nat.zero_le _, hq0⟩
      ·
        rintro ⟨k, s1⟩ ⟨hk, hq1⟩
        dsimp only at hk hq1
        have hfm : ((freL W mem).map Int.ofNat).length = (freL W mem).length := List.length_map _
        try dsimp only
        refine wSeq ?_
        refine wRegion' ?_
        refine oLss rfl rfl ?_
        refine oNil ?_
        refine thn_n ?_
        refine wSeq ?_
        first | refine wCond rfl (fun h44 => ?_) (fun h44 => ?_) | refine wCondB rfl (fun h44 => ?_) (fun h44 => ?_)
        ·
          refine wSkip ?_
          refine thn_n ?_
          refine wSeq ?_
          refine wBlock ?_
          refine wSeq ?_
          refine wRegion' ?_
          refine oIdxR rfl rfl (by repeat (first | exact Pick.here | apply Pick.there)) (by omega) rfl rfl (fun g45 hg45 => ?_)
          first | subst hg45 | (injection hg45 with hg45; injection hg45 with hg45; subst hg45)
          first | refine oLdX rfl hc45 rfl rfl ?_ | refine oLdXA rfl hc45 rfl (by repeat (first | exact SubL.done | apply SubL.take | apply SubL.drop)) ?_ | (refine oLdR1 rfl (by repeat (first | exact Pick.here | apply Pick.there)) (by omega) rfl (fun u46 hu46 => ?_))
          obtain ⟨x, hx, rfl⟩ := nat_at hu46
          have hft := freL_take hx
          refine oAssign rfl ?_
          refine oNil ?_
          refine thn_n ?_
          refine wRegion' ?_
          refine oLd rfl (by repeat (first | exact Pick.here | apply Pick.there)) rfl rfl ?_
          refine oMove rfl ?_
          refine oMove rfl ?_
          (refine oCall rfl (by kernel_rfl) (fun w hS => frame hS (by repeat' (first | exact Split.nil | exact Pick.here | apply Split.cons | apply Pick.there)) (fun B' hB hS' => queue_Put (p := p) (s := s1) hS' hq1 _ _ (by rw [List.length_map, List.length_take]; omega))) ?_; rintro s2 hq2)
          rw [hft.1, if_neg (by simp), hft.2] at hq2
          refine oNil ?_
          refine blk_n ?_
          refine thn_n ?_
          refine wRegion' ?_
          refine oSucc rfl rfl (by omega) ?_
          refine oMove rfl ?_
          refine oNil ?_
          refine thn_n ?_
          exact ⟨rfl, (k + 1, s2), ⟨by show k + 1 ≤ _; omega, hq2⟩, by show _ - (k + 1) < _ - k; omega, (by repeat (first | exact trivial | refine And.intro rfl ?_)), (Leads.has (by repeat' (first | exact Has.nil | exact Pick.here | apply Has.cons | apply Pick.there)))⟩
        ·
          obtain rfl : k = ((freL W mem).map Int.ofNat).length := by omega
          rw [List.length_map, List.take_length] at hq1
          rw [show aheadL W.length (cnt W mem) = ahJ W mem [] from aheadL_congr (fun c => by simp [inT])]
          have hq2 : QOk s1 (wtJ W mem []) := by rw [wtJ_nil W hml.symm]; exact hq1
          refine wExit ?_
          refine thn_x ?_
          refine thn_x ?_
          refine blk_x ?_
          refine thn_n ?_
          refine wSeq ?_
          refine wRegion' ?_
          refine oAlloc rfl (by first | exact CellsOf.agg | exact CellsOf.one rfl) (fun b14 => ?_)
          refine oNil ?_
          refine thn_n ?_
          refine wSeq ?_
          refine wRegion' ?_
          refine oLd rfl (by repeat (first | exact Pick.here | apply Pick.there)) rfl rfl ?_
          refine oMakeFuncB rfl rfl ?_
          refine oMakeFunc rfl ?_
          refine oConv (show Leads _ _ (ordR b14 b2 b6 b11 q p g6 none 0 [] A cp W (ahJ W mem []) W0 s1 ++ [row (Kd.int .i64) W0 3 (.slice A41 ((freL W mem).map Int.ofNat).length c41) ((freL W mem).map Int.ofNat)]) from (Leads.nilrow (kd := Kd.int .i64) (W := W0) (e := 3)).trans (Leads.has (by repeat' (first | exact Has.nil | exact Pick.here | apply Has.cons | apply Pick.there)))) ?_
          (refine oCall rfl (by kernel_rfl) (fun w hS => frame hS (by repeat' (first | exact Split.nil | exact Pick.here | apply Split.cons | apply Pick.there)) (fun B' hB hS' => drain_any b14 b2 b6 b11 q p g6 none 0 [] A cp W W0 s1 mem mem hS' hok .nil hq2 (Kd.C_grow hB hC))) ?_; rintro ⟨⟨A9, c9⟩, ⟨out, left⟩, s3⟩ ⟨hrun, hnx⟩)
          dsimp only at hrun hnx ⊢
          refine oNil ?_
          refine thn_n ?_
          refine wSeq ?_
          refine wSeq ?_
          refine wDrawC rfl [0, 1, 2] [(3, [0, 1]), (4, [0, 1])] [5] 6 (by kernel_rfl) rfl rfl (fun w0 => ?_)
          refine oLd rfl (by repeat (first | exact Pick.here | apply Pick.there)) rfl rfl ?_
          refine oLenS rfl rfl ?_
          refine oMove rfl ?_
          refine oLkSegC ?_
          refine oSegC rfl ?_
          refine oConv bun_nil ?_
          (refine oCall rfl (by kernel_rfl) (fun w hS => frame hS (by repeat' (first | exact Split.nil | exact Pick.here | apply Split.cons | apply Pick.there)) (fun B' hB hS' => members_any (R := bun []) hS' mem A1 cp1 (Kd.C_grow hB hC1) (by omega) 64 #[] (fun a => true) (by kernel_rfl) (fun B'' w a hB2 ha hS2 => order3 (a : Int) hS2) W0)) ?_; rintro ⟨A59, c59⟩ -)
          have hsa := sel_all mem
          refine oAgainC ?_ ?_
          ·
            refine Again.cons rfl rfl rfl rfl (fun w0 => ?_) ?_
            ·
              refine oLd rfl (by repeat (first | exact Pick.here | apply Pick.there)) rfl rfl ?_
              exact oLkHas rfl
            ·
              refine Again.cons rfl rfl rfl rfl (fun w0 => ?_) ?_
              ·
                refine oLenS rfl rfl ?_
                exact oLkHas rfl
              ·
                exact Again.nil
          ·
            refine oSegC rfl ?_
            refine oLenS rfl rfl ?_
            refine oAgainC ?_ ?_
            ·
              refine Again.cons rfl rfl rfl rfl (fun w0 => ?_) ?_
              ·
                refine oLd rfl (by repeat (first | exact Pick.here | apply Pick.there)) rfl rfl ?_
                exact oLkHas rfl
              ·
                refine Again.cons rfl rfl rfl rfl (fun w0 => ?_) ?_
                ·
                  refine oLenS rfl rfl ?_
                  exact oLkHas rfl
                ·
                  exact Again.nil
            ·
              refine oTailC ?_
              refine oLss rfl rfl ?_
              refine oNil ?_
              refine thn_n ?_
              first | refine wCond rfl (fun h61 => ?_) (fun h61 => ?_) | refine wCondB rfl (fun h61 => ?_) (fun h61 => ?_)
              ·
                have hb := kahn_bad hrun hnx (by omega)
                refine wSeq ?_
                refine wRegion' ?_
                refine oAssign rfl ?_
                refine oAssign rfl ?_
                refine oNil ?_
                refine thn_n ?_
                refine wRet ?_
                refine thn_r ?_
                refine fin_r ?_
                refine ⟨rfl, _, (ResL.cons (ResR.tmp rfl) (ResL.cons (ResR.tmp rfl) ResL.nil)), ?_⟩
                exact ⟨(none, 0), trivial, by rw [hb.1, hb.2]; rfl, by rw [hb.2]; exact Leads.nilrow.trans (Leads.has (by repeat' (first | exact Has.nil | exact Pick.here | apply Has.cons | apply Pick.there)))⟩
              ·
                have hb := kahn_good hrun hnx (by omega)
                have ho2 : (out.map Int.ofNat).length = out.length := List.length_map _
                refine wSkip ?_
                refine thn_n ?_
                refine wSeq ?_
                refine wRegion' ?_
                refine oLd rfl (by repeat (first | exact Pick.here | apply Pick.there)) rfl rfl ?_
                refine oAssign rfl ?_
                refine oAssign rfl ?_
                refine oNil ?_
                refine thn_n ?_
                refine wRet ?_
                refine fin_r ?_
                refine ⟨rfl, _, (ResL.cons (ResR.tmp rfl) (ResL.cons (ResR.tmp rfl) ResL.nil)), ?_⟩
                exact ⟨(A9, c9), trivial, by rw [hb.1, hb.2, ho2]; rfl, by rw [hb.2, ho2]; exact (Leads.has (by repeat' (first | exact Has.nil | exact Pick.here | apply Has.cons | apply Pick.there)))⟩
end Go.Proofs.YtcacohoanlljhaaG


/-
  Package cycle: Order, Back; the reference's Back.
-/
namespace Go.Proofs.YtcacohoanlljhaaG
set_option linter.unusedVariables false
set_option linter.unusedSimpArgs false
open Go.RowKit Go.Proofs.YtcacohoanlljhaaK Go.Proofs.YtcacohoanlljhaaT Go.Proofs.YtcacohoanlljhaaL

theorem withinP_out {g : Graph} {ib : List Bool} {b : Nat} (h : ¬ b < g.length) : (withinP g ib).getD b [] = [] := by
  rw [List.getD_eq_getElem?_getD, List.getElem?_eq_none (by rw [withinP_len]; omega)]; rfl
theorem memF_getD {g : Graph} {ib : List Bool} {x : Int} (h : memF g ib x = true) : ∃ c : Nat, x = (c : Int) ∧ (memL g ib).getD c false = true := by
  have h0 := h
  unfold memF at h
  simp only [Bool.and_eq_true, decide_eq_true_eq] at h
  obtain ⟨c, rfl⟩ := Int.eq_ofNat_of_zero_le h.1.1.1
  exact ⟨c, rfl, by rw [memL_getD (by omega)]; exact h0⟩
theorem wok {g : Graph} (hsm : SmallG g) (ib : List Bool) : WOk (withinP g ib) (memL g ib) := by
  refine ⟨by rw [withinP_len, memL_len], by rw [withinP_len]; exact hsm.1, fun b => ?_, fun b x hx => ?_, fun b x hx => ?_⟩
  · by_cases h : b < g.length
    · rw [withinP_at h]; exact wp_nodup g ib b
    · rw [withinP_out h]; exact List.Pairwise.nil
  · by_cases h : b < g.length
    · rw [withinP_at h] at hx
      rw [memL_getD h]; exact (wp_mem hx).1
    · rw [withinP_out h] at hx; cases hx
  · by_cases h : b < g.length
    · rw [withinP_at h] at hx
      exact memF_getD (wp_mem hx).2.1
    · rw [withinP_out h] at hx; cases hx
theorem fre_congr {ed ed' : Nat → Nat → Bool} {left : List Bool} {c : Nat} (hc : c < left.length) (h : ∀ b a, b < left.length → a < left.length → ed b a = ed' b a) : fre ed left c = fre ed' left c := by
  unfold fre
  congr 1
  rw [Bool.eq_iff_iff, List.all_eq_true, List.all_eq_true]
  constructor
  · intro hh b hb; rw [← h b c (List.mem_range.1 hb) hc]; exact hh b hb
  · intro hh b hb; rw [h b c (List.mem_range.1 hb) hc]; exact hh b hb
theorem find_congr {α : Type} {p q : α → Bool} : ∀ {l : List α}, (∀ a ∈ l, p a = q a) → l.find? p = l.find? q
  | [], _ => rfl
  | x :: l, h => by
    rw [List.find?_cons, List.find?_cons, h x List.mem_cons_self, find_congr (fun a ha => h a (List.mem_cons_of_mem _ ha))]
theorem gr_congr {ed ed' : Nat → Nat → Bool} {n : Nat} (h : ∀ b a, b < n → a < n → ed b a = ed' b a) : ∀ (f : Nat) (left : List Bool), left.length = n → gr ed f left = gr ed' f left
  | 0, _, _ => rfl
  | f + 1, left, hl => by
    have hn : nxt ed left = nxt ed' left := find_congr (fun a ha => fre_congr (List.mem_range.1 ha) (fun b a hb ha => h b a (hl ▸ hb) (hl ▸ ha)))
    unfold gr
    rw [hn]
    cases nxt ed' left with
    | none => rfl
    | some a => simp only; rw [gr_congr h f (left.set a false) (by rw [List.length_set]; exact hl)]
theorem kahn_seq (g : Graph) (ib : List Bool) : kahn (withinP g ib) (memL g ib) = seqN g ib := gr_congr (n := g.length) (fun b a hb ha => by
  rw [Bool.eq_iff_iff, edR_iff ha hb]
  unfold edW
  rw [decide_eq_true_eq, withinP_at hb]) _ _ (memL_len g ib)
theorem kok_ok (g : Graph) (ib : List Bool) : kok (withinP g ib) (memL g ib) = okO g ib := by unfold kok okO; rw [kahn_seq]
theorem kL_ord (g : Graph) (ib : List Bool) : kL (withinP g ib) (memL g ib) = ordL g ib := by unfold kL ordL; rw [kok_ok, kahn_seq]

set_option maxRecDepth 100000 in
set_option maxHeartbeats 1000000 in
theorem orderP {B : Base} {w : World} (hS : St B [] w) (g : Graph) (A : Option Addr) (cp : Nat) (hC : kII.C B.e A g) (hsm : SmallG g) (ib : List Bool) (A1 : Option Addr) (cp1 : Nat) (hC1 : Kd.bool.C B.e A1 ib) (hib : ib.length ≤ 1000) (W0 : World) :
    CallsIn Fence.wide 0 Try.prog 24 #[.slice A g.length cp, .slice A1 ib.length cp1] w
      (Ret B (fun _ : Option Addr × Nat => True) (fun z => .tuple #[.slice z.1 (ordL g ib).length z.2, .bool (okO g ib)]) (fun z => [row (Kd.int .i64) W0 3 (.slice z.1 (ordL g ib).length z.2) (ordL g ib)])) := by
  have hn := hsm.1
  (refine enter Try.func24 rfl rfl hS ?_; simp only [List.zipIdx_cons, List.zipIdx_nil, List.map_cons, List.map_nil, Nat.reduceAdd, Nat.zero_add])
  refine wSeq ?_
  refine wRegion' ?_
  refine oAssign rfl ?_
  refine oAssign rfl ?_
  refine oNil ?_
  refine thn_n ?_
  refine wSeq ?_
  refine wRegion' ?_
  refine oMove rfl ?_
  refine oMove rfl ?_
  (refine oCall rfl (by kernel_rfl) (fun w hS => frame hS (by repeat' (first | exact Split.nil | exact Pick.here | apply Split.cons | apply Pick.there)) (fun B' hB hS' => within_any hS' g A cp (Kd.C_grow hB hC) hsm ib A1 cp1 (Kd.C_grow hB hC1) hib B.e)) ?_; rintro ⟨⟨A8, c8, hs8⟩, A6, c6⟩ hl8)
  dsimp only at hl8 ⊢
  refine oExt rfl (by repeat (first | exact GetAt.here | apply GetAt.there)) ?_
  refine oSet (t := 9) (v' := .slice A8 (withinP g ib).length c8) rfl (by rw [withinP_len]) ?_
  refine oExt rfl (by repeat (first | exact GetAt.here | apply GetAt.there)) ?_
  refine oSet (t := 10) (v' := .slice A6 (memL g ib).length c6) rfl (by rw [memL_len]) ?_
  (refine oCall rfl (by kernel_rfl) (fun w hS => frame' hS .nil (fun B' hB hR hS' => order_any hS' (withinP g ib) (memL g ib) (wok hsm ib) A8 c8 (grid_C (hR _ _ (by repeat (first | exact Pick.here | apply Pick.there))) (hR _ _ (by repeat (first | exact Pick.here | apply Pick.there))) (by rw [withinP_len]; exact hl8) hB) A6 c6 (row_C (kd := Kd.bool) (W := B.e) (e := 4) (A := A6) (n := g.length) (cp := c6) (xs := memL g ib) (hR _ _ (by repeat (first | exact Pick.here | apply Pick.there))) hB).2.2.1 W0)) ?_; rintro ⟨A11, c11⟩ -)
  rw [kL_ord, kok_ok]
  dsimp only
  refine oExt rfl (by repeat (first | exact GetAt.here | apply GetAt.there)) ?_
  refine oExt rfl (by repeat (first | exact GetAt.here | apply GetAt.there)) ?_
  refine oAssign rfl ?_
  refine oAssign rfl ?_
  refine oNil ?_
  refine thn_n ?_
  refine wRet ?_
  refine fin_r ?_
  refine ⟨rfl, _, (ResL.cons (ResR.tmp rfl) (ResL.cons (ResR.tmp rfl) ResL.nil)), ?_⟩
  exact ⟨(A11, c11), trivial, rfl, (Leads.has (by repeat' (first | exact Has.nil | exact Pick.here | apply Has.cons | apply Pick.there)))⟩
end Go.Proofs.YtcacohoanlljhaaG
