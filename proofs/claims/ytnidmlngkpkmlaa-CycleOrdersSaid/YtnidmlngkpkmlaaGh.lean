/-
  Package cycle: members, On; the reference's On.
-/
import Derived.Test.YtnidmlngkpkmlaaGg
import Derived.Test.YtnidmlngkpkmlaaKw
namespace Go.Proofs.YtnidmlngkpkmlaaG
set_option linter.unusedVariables false
set_option linter.unusedSimpArgs false
open Go.RowKit Go.Proofs.YtnidmlngkpkmlaaK Go.Proofs.YtnidmlngkpkmlaaT Go.Proofs.YtnidmlngkpkmlaaL

/-- Places of which something holds, rising. -/
def selTo (p : Nat → Bool) (n : Nat) : List Int := ((List.range n).filter p).map Int.ofNat
theorem selTo_succ (p : Nat → Bool) (n : Nat) : selTo p (n + 1) = selTo p n ++ (if p n then [(n : Int)] else []) := by
  unfold selTo
  rw [List.range_succ, List.filter_append, List.map_append]
  cases h : p n <;> simp [h]
theorem selTo_len (p : Nat → Bool) (n : Nat) : (selTo p n).length ≤ n := by
  unfold selTo
  rw [List.length_map]
  exact Nat.le_trans (List.length_filter_le _ _) (by simp)
theorem selTo_congr {p q : Nat → Bool} {n : Nat} (h : ∀ a, a < n → p a = q a) : selTo p n = selTo q n := by
  unfold selTo
  congr 1
  exact List.filter_congr (fun a ha => h a (List.mem_range.1 ha))
def memb (mem : List Bool) (p : Nat → Bool) (a : Nat) : Bool := mem.getD a false && p a

set_option maxRecDepth 100000 in
set_option maxHeartbeats 1000000 in
theorem members_any {B : Base} {w : World} {R : Res} (hS : St B [R] w) (mem : List Bool) (A : Option Addr) (cp : Nat) (hC : Kd.bool.C B.e A mem) (hm : mem.length ≤ 1000) (gf : Nat) (lb : Array Value) (p : Nat → Bool) (hg : goodF Try.prog gf = true)
    (hh : ∀ B' w (a : Nat), Grow B.e B'.e → a < mem.length → St B' [R] w → CallsIn Fence.wide 0 Try.prog gf (#[] ++ [Value.int .i64 (a : Int)].toArray ++ lb) w (Ret B' (fun _ : Unit => True) (fun _ => .bool (p a)) (fun _ => [R]))) (W0 : World) :
    CallsIn Fence.wide 0 Try.prog 61 #[.slice A mem.length cp, .func (.func gf) #[] lb] w
      (Ret B (fun _ : Option Addr × Nat => True) (fun z => .slice z.1 (selTo (memb mem p) mem.length).length z.2) (fun z => [row (Kd.int .i64) W0 3 (.slice z.1 (selTo (memb mem p) mem.length).length z.2) (selTo (memb mem p) mem.length), R])) := by
  (refine enter Try.func61 rfl rfl hS ?_; simp only [List.zipIdx_cons, List.zipIdx_nil, List.map_cons, List.map_nil, Nat.reduceAdd, Nat.zero_add])
  refine wSeq ?_
  refine wRegion' ?_
  refine oAssign rfl ?_
  refine oNil ?_
  refine thn_n ?_
  refine wSeq ?_
  refine wRegion' ?_
  refine oAssign rfl ?_
  refine oNil ?_
  refine thn_n ?_
  refine wSeq ?_
  refine wSeq ?_
  refine wRegion' ?_
  refine oMove rfl ?_
  refine oLenS rfl rfl ?_
  refine oMove rfl ?_
  refine oNil ?_
  refine thn_n ?_
  refine wBlock ?_
  refine wLoop (ι := Nat × Option Addr × Nat) (fun z => [(1, .func (.func gf) #[] lb), (5, .slice z.2.1 (selTo (memb mem p) z.1).length z.2.2), (8, .slice A mem.length cp), (9, .int .i64 (mem.length : Int)), (10, .int .i64 (z.1 : Int))]) (fun z => [row (Kd.int .i64) W0 3 (.slice z.2.1 (selTo (memb mem p) z.1).length z.2.2) (selTo (memb mem p) z.1), R]) (fun z => z.1 ≤ mem.length) (fun z => mem.length - z.1) (0, none, 0) ?_ (by repeat (first | exact trivial | refine And.intro rfl ?_)) (Leads.nilrow.trans (Leads.has (by repeat' (first | exact Has.nil | exact Pick.here | apply Has.cons | apply Pick.there)))) ?_
  ·
    exact Nat.zero_le _
  ·
    rintro ⟨i, A5, c5⟩ hi
    dsimp only at hi
    have hss := selTo_succ (memb mem p) i
    have hsl := selTo_len (memb mem p) i
    dsimp only
    refine wSeq ?_
    refine wRegion' ?_
    refine oLss rfl rfl ?_
    refine oNil ?_
    refine thn_n ?_
    refine wSeq ?_
    first | refine wCond rfl (fun h11 => ?_) (fun h11 => ?_) | refine wCondB rfl (fun h11 => ?_) (fun h11 => ?_)
    ·
      refine wSkip ?_
      refine thn_n ?_
      refine wSeq ?_
      refine wBlock ?_
      refine wSeq ?_
      refine wRegion' ?_
      refine oMove rfl ?_
      refine oIdx rfl rfl (hC) rfl (by omega) rfl rfl (fun e13 u13 cs13 hu13 hk13 hc13 => ?_)
      obtain rfl := hk13
      have hmb : memb mem p i = (u13 && p i) := by unfold memb; rw [getD_at hu13]
      first | refine oLdX rfl hc13 rfl rfl ?_ | refine oLdXA rfl hc13 rfl (by repeat (first | exact SubL.done | apply SubL.take | apply SubL.drop)) ?_ | (refine oLdR1 rfl (by repeat (first | exact Pick.here | apply Pick.there)) (by omega) rfl (fun u14 hu14 => ?_))
      refine oAssign rfl ?_
      refine oAssign rfl ?_
      refine oNil ?_
      refine thn_n ?_
      refine wSeq ?_
      refine wRegion' ?_
      refine oMove rfl ?_
      refine oMove rfl ?_
      first | refine oSplit (t := 16) rfl (fun h16 => ?_) (fun h16 => ?_) | refine oSplitB (t := 16) rfl (fun h16 => ?_) (fun h16 => ?_)
      ·
        refine oWant rfl rfl ?_
        refine oMove rfl ?_
        refine oWant rfl rfl ?_
        refine oMove rfl ?_
        refine oWant rfl rfl ?_
        (refine oCallV rfl rfl rfl hg (fun w hS => frame hS (by repeat' (first | exact Split.nil | exact Pick.here | apply Split.cons | apply Pick.there)) (fun B' hB hS' => hh B' w i hB (by omega) hS')) ?_; rintro ⟨⟩ -)
        refine oPickT rfl rfl ?_
        refine oNil ?_
        refine thn_n ?_
        first | refine wCond rfl (fun h20 => ?_) (fun h20 => ?_) | refine wCondB rfl (fun h20 => ?_) (fun h20 => ?_)
        ·
          refine wRegion' ?_
          refine oMove rfl ?_
          refine oMove rfl ?_
          refine oBuildSlice1 rfl rfl rfl rfl rfl (by first | exact CellsOf.agg | exact CellsOf.one rfl) rfl (fun b23 => ?_)
          refine oApp1 (i : Int) rfl rfl rfl rfl (by repeat (first | exact Pick.here | apply Pick.there)) (by repeat (first | exact Pick.here | apply Pick.there)) rfl (by omega) rfl (fun g24 cp24 => ?_)
          rw [if_pos (by simp [hmb, h16, h20])] at hss
          rw [show (selTo (memb mem p) i).length + 1 = (selTo (memb mem p) (i + 1)).length by rw [hss, List.length_append]; rfl, ← hss]
          refine oAssign rfl ?_
          refine oNil ?_
          refine blk_n ?_
          refine thn_n ?_
          refine wRegion' ?_
          refine oSucc rfl rfl (by omega) ?_
          refine oMove rfl ?_
          refine oNil ?_
          refine thn_n ?_
          exact ⟨rfl, (i + 1, some ⟨g24, 0, none⟩, cp24), by show i + 1 ≤ _; omega, by show mem.length - (i + 1) < mem.length - i; omega, (by repeat (first | exact trivial | refine And.intro rfl ?_)), (Leads.has (by repeat' (first | exact Has.nil | exact Pick.here | apply Has.cons | apply Pick.there)))⟩
        ·
          refine wSkip ?_
          refine blk_n ?_
          refine thn_n ?_
          refine wRegion' ?_
          refine oSucc rfl rfl (by omega) ?_
          refine oMove rfl ?_
          refine oNil ?_
          refine thn_n ?_
          rw [if_neg (by simp [hmb, h20]), List.append_nil] at hss
          exact ⟨rfl, (i + 1, A5, c5), by show i + 1 ≤ _; omega, by show mem.length - (i + 1) < mem.length - i; omega, by dsimp only; rw [hss]; exact (by repeat (first | exact trivial | refine And.intro rfl ?_)), by dsimp only; rw [hss]; exact (Leads.has (by repeat' (first | exact Has.nil | exact Pick.here | apply Has.cons | apply Pick.there)))⟩
      ·
        refine oSkip rfl rfl rfl rfl ?_
        refine oSkip rfl rfl rfl rfl ?_
        refine oSkip rfl rfl rfl rfl ?_
        refine oPickF rfl rfl ?_
        refine oNil ?_
        refine thn_n ?_
        refine wCondF rfl ?_
        refine wSkip ?_
        refine blk_n ?_
        refine thn_n ?_
        refine wRegion' ?_
        refine oSucc rfl rfl (by omega) ?_
        refine oMove rfl ?_
        refine oNil ?_
        refine thn_n ?_
        rw [if_neg (by simp [hmb, h16]), List.append_nil] at hss
        exact ⟨rfl, (i + 1, A5, c5), by show i + 1 ≤ _; omega, by show mem.length - (i + 1) < mem.length - i; omega, by dsimp only; rw [hss]; exact (by repeat (first | exact trivial | refine And.intro rfl ?_)), by dsimp only; rw [hss]; exact (Leads.has (by repeat' (first | exact Has.nil | exact Pick.here | apply Has.cons | apply Pick.there)))⟩
    ·
      obtain rfl : i = mem.length := by omega
      refine wExit ?_
      refine thn_x ?_
      refine thn_x ?_
      refine blk_x ?_
      refine thn_n ?_
      refine wSeq ?_
      refine wRegion' ?_
      refine oMove rfl ?_
      refine oAssign rfl ?_
      refine oNil ?_
      refine thn_n ?_
      refine wRet ?_
      refine fin_r ?_
      refine ⟨rfl, _, (ResL.cons (ResR.tmp rfl) ResL.nil), ?_⟩
      exact ⟨(A5, c5), trivial, rfl, (Leads.has (by repeat' (first | exact Has.nil | exact Pick.here | apply Has.cons | apply Pick.there)))⟩
/-- Whether a place leads back to itself. -/
noncomputable def onP (g : Graph) (a : Nat) : Bool := @decide (RP g (g.getD a []) (a : Int)) (Classical.propDecidable _)
theorem onP_iff {g : Graph} {a : Nat} : onP g a = true ↔ RP g (g.getD a []) (a : Int) := by unfold onP; exact @decide_eq_true_iff _ (Classical.propDecidable _)
theorem on_eq {g : Graph} {a : Nat} {u : Bool} (h : u = true ↔ RP g (g.getD a []) (a : Int)) : u = onP g a := by
  cases hu : u with
  | true => exact (onP_iff.2 (h.1 hu)).symm
  | false =>
    cases ho : onP g a with
    | true => have := h.2 (onP_iff.1 ho); rw [hu] at this; cases this
    | false => rfl
set_option maxRecDepth 100000 in
set_option maxHeartbeats 1000000 in
theorem on1 {B : Base} {w : World} (g : Graph) (A : Option Addr) (cp b5 a : Nat) (hS : St B [blk b5 68 [.slice A g.length cp]] w) (hC : kII.C B.e A g) (hsm : SmallG g) (ha : a < g.length) :
    CallsIn Fence.wide 0 Try.prog 62 #[.int .i64 (a : Int), .pointer (some ⟨b5, 0, none⟩)] w (Ret B (fun _ : Unit => True) (fun _ => .bool (onP g a)) (fun _ => [blk b5 68 [.slice A g.length cp]])) := by
  have hn := hsm.1
  (refine enter Try.func62 rfl rfl hS ?_; simp only [List.zipIdx_cons, List.zipIdx_nil, List.map_cons, List.map_nil, Nat.reduceAdd, Nat.zero_add])
  refine wSeq ?_
  refine wRegion' ?_
  refine oAssign rfl ?_
  refine oNil ?_
  refine thn_n ?_
  refine wSeq ?_
  refine wDrawV rfl [2, 6] [0, 1, 3, 4] 5 [7, 8, 9] (by kernel_rfl) rfl rfl rfl (fun w0 => ?_)
  refine oLd rfl (by repeat (first | exact Pick.here | apply Pick.there)) rfl rfl ?_
  refine oLd rfl (by repeat (first | exact Pick.here | apply Pick.there)) rfl rfl ?_
  refine oIdx rfl rfl (hC) rfl (by omega) rfl rfl (fun e7 u7 cs7 hu7 hk7 hc7 => ?_)
  obtain ⟨A0, c0, rfl, hle7, g0⟩ := hk7
  first | refine oLdX rfl hc7 rfl rfl ?_ | refine oLdXA rfl hc7 rfl (by repeat (first | exact SubL.done | apply SubL.take | apply SubL.drop)) ?_ | (refine oLdR1 rfl (by repeat (first | exact Pick.here | apply Pick.there)) (by omega) rfl (fun u8 hu8 => ?_))
  refine oHeadV ?_
  (refine oCall rfl (by kernel_rfl) (fun w hS => frame hS (by repeat' (first | exact Split.nil | exact Pick.here | apply Split.cons | apply Pick.there)) (fun B' hB hS' => reach_any hS' g A cp (Kd.C_grow hB hC) hsm u7 A0 c0 (Kd.C_grow hB g0) (hsm.2 _ (List.mem_of_getElem? hu7)) B.e)) ?_; rintro ⟨A9, c9, out⟩ ⟨hol, hor⟩)
  dsimp only at hol hor ⊢
  refine oIdxR rfl rfl (by repeat (first | exact Pick.here | apply Pick.there)) (by omega) rfl rfl (fun g11 hg11 => ?_)
  first | subst hg11 | (injection hg11 with hg11; injection hg11 with hg11; subst hg11)
  first | refine oLdX rfl hc11 rfl rfl ?_ | refine oLdXA rfl hc11 rfl (by repeat (first | exact SubL.done | apply SubL.take | apply SubL.drop)) ?_ | (refine oLdR1 rfl (by repeat (first | exact Pick.here | apply Pick.there)) (by omega) rfl (fun u12 hu12 => ?_))
  refine oAssign rfl ?_
  refine oNil ?_
  refine thn_n ?_
  refine wRet ?_
  refine fin_r ?_
  refine ⟨rfl, _, (ResL.cons (ResR.tmp rfl) ResL.nil), ?_⟩
  exact ⟨(), trivial, by rw [show u12 = onP g a from on_eq (by rw [getD_at hu7, ← hor a, hu12]; simp)]; rfl, (Leads.has (by repeat' (first | exact Has.nil | exact Pick.here | apply Has.cons | apply Pick.there)))⟩
theorem RP_congr {g g' : Graph} {f f' : List Int} (hl : g.length = g'.length) (he : ∀ a b, b ∈ endsOf g a → b ∈ endsOf g' a) (hf : ∀ x, inG g x = true → x ∈ f → x ∈ f') {x : Int} (h : RP g f x) : RP g' f' x := by
  induction h with
  | start h1 h2 => exact .start (hf _ h2 h1) (by unfold inG at *; rw [← hl]; exact h2)
  | step h1 h2 ih => exact .step ih (he _ _ h2)
theorem withinP_at {g : Graph} {ib : List Bool} {a : Nat} (ha : a < g.length) : (withinP g ib).getD a [] = wp g ib a := by
  rw [List.getD_eq_getElem?_getD]; simp [withinP, ha]
theorem withinR_getD {g : Graph} {ib : List Bool} {a : Nat} (ha : a < g.length) : (withinR g ib).getD a [] = (g.getD a []).filter (inP g ib a) := by
  rw [List.getD_eq_getElem?_getD]; simp [withinR, ha]
theorem inG_P (g : Graph) (ib : List Bool) (x : Int) : inG (withinP g ib) x = inG g x := by unfold inG; rw [withinP_len]
theorem inG_R (g : Graph) (ib : List Bool) (x : Int) : inG (withinR g ib) x = inG g x := by unfold inG; rw [withinR_len]
theorem P_R {g : Graph} {ib : List Bool} {a : Nat} {x : Int} (hx : inG g x = true) : x ∈ (withinP g ib).getD a [] ↔ x ∈ (withinR g ib).getD a [] := by
  by_cases ha : a < g.length
  · rw [withinP_at ha, withinR_getD ha]
    unfold wp
    rw [List.mem_filter, List.mem_filter, cl_mem]
    unfold endsOf
    rw [List.mem_filter, and_assoc]
    simp [hx]
  · rw [List.getD_eq_getElem?_getD, List.getD_eq_getElem?_getD, List.getElem?_eq_none (by rw [withinP_len]; omega), List.getElem?_eq_none (by rw [withinR_len]; omega)]
theorem ends_PR {g : Graph} {ib : List Bool} {a : Nat} {x : Int} : x ∈ endsOf (withinP g ib) a ↔ x ∈ endsOf (withinR g ib) a := by
  unfold endsOf
  rw [List.mem_filter, List.mem_filter, inG_P, inG_R]
  exact ⟨fun h => ⟨(P_R h.2).1 h.1, h.2⟩, fun h => ⟨(P_R h.2).2 h.1, h.2⟩⟩
theorem onP_PR (g : Graph) (ib : List Bool) (a : Nat) : onP (withinP g ib) a = onP (withinR g ib) a := by
  refine on_eq ?_
  rw [onP_iff]
  constructor
  · exact RP_congr (by rw [withinP_len, withinR_len]) (fun a b h => ends_PR.1 h) (fun x hx h => (P_R (by rw [inG_P] at hx; exact hx)).1 h)
  · exact RP_congr (by rw [withinP_len, withinR_len]) (fun a b h => ends_PR.2 h) (fun x hx h => (P_R (by rw [inG_R] at hx; exact hx)).2 h)
/-- Who is on a circle. -/
noncomputable def onL (g : Graph) (ib : List Bool) : List Int := selTo (fun a => memF g ib a && onP (withinR g ib) a) g.length
theorem withinP_small {g : Graph} {ib : List Bool} (h : SmallG g) : SmallG (withinP g ib) := by
  refine ⟨by rw [withinP_len]; exact h.1, fun l hl => ?_⟩
  obtain ⟨a, ha, rfl⟩ := List.mem_map.1 hl
  exact Nat.le_trans (List.length_filter_le _ _) (cl_len h a)
theorem memL_getD {g : Graph} {ib : List Bool} {a : Nat} (ha : a < g.length) : (memL g ib).getD a false = memF g ib (a : Int) := by
  have h := List.getElem?_eq_getElem (show a < (memL g ib).length by rw [memL_len]; exact ha)
  rw [getD_at h]
  exact memL_at h
set_option maxRecDepth 100000 in
set_option maxHeartbeats 1000000 in
theorem on_any {B : Base} {w : World} (hS : St B [] w) (g : Graph) (A : Option Addr) (cp : Nat) (hC : kII.C B.e A g) (hsm : SmallG g) (ib : List Bool) (A1 : Option Addr) (cp1 : Nat) (hC1 : Kd.bool.C B.e A1 ib) (hib : ib.length ≤ 1000) (W0 : World) :
    CallsIn Fence.wide 0 Try.prog 40 #[.slice A g.length cp, .slice A1 ib.length cp1] w
      (Ret B (fun _ : Option Addr × Nat => True) (fun z => .slice z.1 (onL g ib).length z.2) (fun z => [row (Kd.int .i64) W0 3 (.slice z.1 (onL g ib).length z.2) (onL g ib)])) := by
  have hn := hsm.1
  have hsp := withinP_small (ib := ib) hsm
  (refine enter Try.func40 rfl rfl hS ?_; simp only [List.zipIdx_cons, List.zipIdx_nil, List.map_cons, List.map_nil, Nat.reduceAdd, Nat.zero_add])
  refine wSeq ?_
  refine wRegion' ?_
  refine oAssign rfl ?_
  refine oNil ?_
  refine thn_n ?_
  refine wSeq ?_
  refine wRegion' ?_
  refine oMove rfl ?_
  refine oMove rfl ?_
  (refine oCall rfl (by kernel_rfl) (fun w hS => frame hS (by repeat' (first | exact Split.nil | exact Pick.here | apply Split.cons | apply Pick.there)) (fun B' hB hS' => within_any hS' g A cp (Kd.C_grow hB hC) hsm ib A1 cp1 (Kd.C_grow hB hC1) hib B.e)) ?_; rintro ⟨⟨A10, c10, hs10⟩, A6, c6⟩ hl10)
  dsimp only at hl10
  refine oMove rfl ?_
  refine oExt rfl (by repeat (first | exact GetAt.here | apply GetAt.there)) ?_
  refine oExt rfl (by repeat (first | exact GetAt.here | apply GetAt.there)) ?_
  refine oAlloc rfl (by first | exact CellsOf.agg | exact CellsOf.one rfl) (fun b5 => ?_)
  refine oSt rfl rfl rfl rfl rfl (by repeat (first | exact Pick.here | apply Pick.there)) (by repeat (first | exact SetAt.here | apply SetAt.there)) ?_
  refine oAssign rfl ?_
  refine oNil ?_
  refine thn_n ?_
  refine wFreeze [row kHdr B.e 50 (.slice A10 g.length c10) hs10, bun (rws (Kd.int .i64) B.e 3 hs10 (withinP g ib)), row Kd.bool B.e 4 (.slice A6 g.length c6) (memL g ib)] (by repeat' (first | exact Split.nil | exact Pick.here | apply Split.cons | apply Pick.there)) (fun B1 hB1 hq1 => ?_)
  have hCw := grid_C (hq1 _ _ (by repeat (first | exact Pick.here | apply Pick.there))) (hq1 _ _ (by repeat (first | exact Pick.here | apply Pick.there))) (by rw [withinP_len]; exact hl10) hB1
  have hCm := (row_C (kd := Kd.bool) (W := B.e) (e := 4) (A := A6) (n := g.length) (cp := c6) (xs := memL g ib) (hq1 _ _ (by repeat (first | exact Pick.here | apply Pick.there))) hB1).2.2.1
  refine wSeq ?_
  refine wRegion' ?_
  refine oMove rfl ?_
  refine oSet (t := 13) (v' := .slice A6 (memL g ib).length c6) rfl (by rw [memL_len]) ?_
  refine oMakeFunc rfl ?_
  (refine oCall rfl (by kernel_rfl) (fun w hS => frame hS (by repeat' (first | exact Split.nil | exact Pick.here | apply Split.cons | apply Pick.there)) (fun B' hB hS' => members_any (R := blk b5 68 [.slice A10 g.length c10]) hS' (memL g ib) A6 c6 (Kd.C_grow hB hCm) (by rw [memL_len]; omega) 62 #[.pointer (some ⟨b5, 0, none⟩)] (onP (withinP g ib)) (by kernel_rfl) (fun B'' w a hB2 ha hS2 => by have := on1 (B := B'') (w := w) (withinP g ib) A10 c10 b5 a (by rw [withinP_len]; exact hS2) (Kd.C_grow (Grow.trans hB hB2) hCw) hsp (by rw [withinP_len]; rw [memL_len] at ha; exact ha); rw [withinP_len] at this; simpa using this) W0)) ?_; rintro ⟨A4, c4⟩ -)
  rw [show selTo (memb (memL g ib) (onP (withinP g ib))) (memL g ib).length = onL g ib by unfold onL; rw [memL_len]; exact selTo_congr (fun a ha => by unfold memb; rw [memL_getD ha, onP_PR])]
  refine oAssign rfl ?_
  refine oNil ?_
  refine thn_n ?_
  refine wRet ?_
  refine fin_r ?_
  refine ⟨rfl, _, (ResL.cons (ResR.tmp rfl) ResL.nil), ?_⟩
  exact ⟨(A4, c4), trivial, rfl, (Leads.has (by repeat' (first | exact Has.nil | exact Pick.here | apply Has.cons | apply Pick.there)))⟩
end Go.Proofs.YtnidmlngkpkmlaaG
