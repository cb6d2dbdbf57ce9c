/-
  Package cycle: order.
-/
import Derived.Test.YtnidmlngkpkmlaaGo
import Derived.Test.YtnidmlngkpkmlaaKz
namespace Go.Proofs.YtnidmlngkpkmlaaG
set_option linter.unusedVariables false
set_option linter.unusedSimpArgs false
open Go.RowKit Go.Proofs.YtnidmlngkpkmlaaK Go.Proofs.YtnidmlngkpkmlaaT Go.Proofs.YtnidmlngkpkmlaaL
open Go.Proofs.YtnidmlngkpkmlaaQ (Pile queueR QOk qins qhas hd1 hd2 hd3 queue_New queue_Put queue_Take ptrV lt2)

def kahn (W : Graph) (mem : List Bool) : List Nat := gr (edW W) (trues mem) mem
def kok (W : Graph) (mem : List Bool) : Bool := decide ((kahn W mem).length = trues mem)
def kL (W : Graph) (mem : List Bool) : List Int := if kok W mem then (kahn W mem).map Int.ofNat else []
theorem bld_at {W : Graph} {i j b : Nat} {u : Int} (hb : b < W.length) (hu : (aheadL W.length (bld W i j))[b]? = some u) : u = (bld W i j b : Int) := by
  rw [aheadL_at hb] at hu
  exact (Option.some.inj hu).symm
theorem bld_step {W : Graph} {i j b : Nat} (hl : (W.getD i []).Pairwise (· < ·)) (hx : (W.getD i [])[j]? = some (b : Int)) : (aheadL W.length (bld W i j)).set b ((bld W i j b : Int) + 1) = aheadL W.length (bld W i (j + 1)) := by
  obtain ⟨h1, h2, h3⟩ := inT_take hl hx
  exact aheadL_set (by unfold bld; rw [h1, h2]; omega) (fun c hc => by unfold bld; rw [h3 c hc])
def freL (W : Graph) (mem : List Bool) : List Nat := (List.range W.length).filter (fre (edW W) mem)
theorem freL_sel {W : Graph} {mem : List Bool} (h : WOk W mem) : selTo (memb mem fun a => decide (cnt W mem a = 0)) mem.length = (freL W mem).map Int.ofNat := by
  unfold selTo freL
  rw [h.len]
  congr 1
  exact List.filter_congr (fun c _ => by rw [fre_cnt h.len.symm]; rfl)
theorem nat_at {l : List Nat} {k : Nat} {u : Int} (h : (l.map Int.ofNat)[k]? = some u) : ∃ x : Nat, l[k]? = some x ∧ u = (x : Int) := by
  rw [List.getElem?_map] at h
  cases hx : l[k]? with
  | none => rw [hx] at h; cases h
  | some x => rw [hx] at h; exact ⟨x, rfl, (Option.some.inj h).symm⟩
theorem qins_last {x : Int × Int} {L : List (Int × Int)} (h : ∀ y ∈ L, lt2 y x) : qins x L = L ++ [x] := by
  induction L with
  | nil => rfl
  | cons y L ih =>
    simp only [qins]
    rw [if_neg (by have := h y List.mem_cons_self; unfold lt2 at *; omega), ih (fun z hz => h z (List.mem_cons_of_mem _ hz))]; rfl
theorem freL_take {W : Graph} {mem : List Bool} {k x : Nat} (hx : (freL W mem)[k]? = some x) : qhas (((freL W mem).take k).map pr) (x : Int) = false ∧ qins ((x : Int), (x : Int)) (((freL W mem).take k).map pr) = ((freL W mem).take (k + 1)).map pr := by
  have hp : (freL W mem).Pairwise (· < ·) := List.pairwise_lt_range.sublist List.filter_sublist
  obtain ⟨hk, rfl⟩ := List.getElem?_eq_some_iff.1 hx
  have hlt : ∀ y ∈ (freL W mem).take k, y < (freL W mem)[k] := by
    intro y hy
    obtain ⟨i, hi, rfl⟩ := List.mem_take_iff_getElem.1 hy
    exact List.pairwise_iff_getElem.1 hp i k (by omega) hk (by omega)
  constructor
  · unfold qhas
    rw [List.any_eq_false]
    intro y hy
    obtain ⟨c, hc, rfl⟩ := List.mem_map.1 hy
    have := hlt c hc
    show ¬ ((c : Int) == _) = true
    rw [beq_iff_eq]; omega
  · rw [List.take_add_one, List.getElem?_eq_getElem hk, List.map_append]
    exact qins_last (fun y hy => by
      obtain ⟨c, hc, rfl⟩ := List.mem_map.1 hy
      have := hlt c hc
      left
      show (c : Int) < _
      omega)
theorem freL_len (W : Graph) (mem : List Bool) : (freL W mem).length ≤ W.length := Nat.le_trans (List.length_filter_le _ _) (by simp)
theorem sel_all (mem : List Bool) : (selTo (memb mem fun _ => true) mem.length).length = trues mem := by
  unfold selTo
  rw [List.length_map, ← trues_sel]
  congr 1
  exact List.filter_congr (fun c _ => by unfold memb; rw [Bool.and_true])
theorem kahn_end {W : Graph} {mem left : List Bool} {out : List Nat} (hrun : Run (edW W) mem out left) (hn : nxt (edW W) left = none) : kahn W mem = out := (hrun.done hn).symm
theorem kahn_bad {W : Graph} {mem left : List Bool} {out : List Nat} (hrun : Run (edW W) mem out left) (hn : nxt (edW W) left = none) (h : out.length < trues mem) : kok W mem = false ∧ kL W mem = [] := by
  have h1 : kok W mem = false := by unfold kok; rw [kahn_end hrun hn]; exact decide_eq_false (by omega)
  exact ⟨h1, by unfold kL; rw [h1]; rfl⟩
theorem kahn_good {W : Graph} {mem left : List Bool} {out : List Nat} (hrun : Run (edW W) mem out left) (hn : nxt (edW W) left = none) (h : ¬ out.length < trues mem) : kok W mem = true ∧ kL W mem = out.map Int.ofNat := by
  have h0 := hrun.len
  have h1 : kok W mem = true := by unfold kok; rw [kahn_end hrun hn]; exact decide_eq_true (by omega)
  exact ⟨h1, by unfold kL; rw [h1, if_pos rfl, kahn_end hrun hn]⟩
theorem o1 {B : Base} {w : World} (W : Graph) (mem : List Bool) (b6 g6 : Nat) (W0 : World) (a : Nat) (hn : W.length ≤ 1000) (ha : a < W.length)
    (hS : St B [bun [blk b6 50 [.slice (some ⟨g6, 0, none⟩) W.length W.length], row (Kd.int .i64) W0 3 (.slice (some ⟨g6, 0, none⟩) W.length W.length) (aheadL W.length (cnt W mem))]] w) :
    CallsIn Fence.wide 0 Try.prog 70 (#[] ++ [Value.int .i64 (a : Int)].toArray ++ #[.pointer (some ⟨b6, 0, none⟩)]) w (Ret B (fun _ : Unit => True) (fun _ => .bool (decide (cnt W mem a = 0))) (fun _ => [bun [blk b6 50 [.slice (some ⟨g6, 0, none⟩) W.length W.length], row (Kd.int .i64) W0 3 (.slice (some ⟨g6, 0, none⟩) W.length W.length) (aheadL W.length (cnt W mem))]])) := by
  have hl := aheadL_len W.length (cnt W mem)
  have h1 := order1 (B := B) (w := w) b6 g6 (aheadL W.length (cnt W mem)) W0 a (aheadL_at ha) (by omega) (by rw [hl]; exact hS.unpack)
  rw [hl] at h1
  refine h1.mono ?_
  rintro e w' ⟨i, hi, he, hw⟩
  refine ⟨i, hi, ?_, St.pack hw⟩
  rw [show decide (cnt W mem a = 0) = decide ((cnt W mem a : Int) = 0) from decide_eq_decide.2 (by omega)]
  exact he

set_option maxRecDepth 100000 in
set_option maxHeartbeats 2000000 in
theorem order_any {B : Base} {w : World} (hS : St B [] w) (W : Graph) (mem : List Bool) (hok : WOk W mem) (A : Option Addr) (cp : Nat) (hC : kII.C B.e A W) (A1 : Option Addr) (cp1 : Nat) (hC1 : Kd.bool.C B.e A1 mem) (W0 : World) :
    CallsIn Fence.wide 0 Try.prog 56 #[.slice A W.length cp, .slice A1 mem.length cp1] w
      (Ret B (fun _ : Option Addr × Nat => True) (fun z => .tuple #[.slice z.1 (kL W mem).length z.2, .bool (kok W mem)]) (fun z => [row (Kd.int .i64) W0 3 (.slice z.1 (kL W mem).length z.2) (kL W mem)])) := by
  have hn := hok.small
  have hml := hok.len
  have htl := trues_le mem
  have hfl := freL_len W mem
  (refine enter Try.func56 rfl rfl hS ?_; simp only [List.zipIdx_cons, List.zipIdx_nil, List.map_cons, List.map_nil, Nat.reduceAdd, Nat.zero_add])
  refine wSeq ?_
  refine wRegion' ?_
  refine oBox rfl (by first | exact CellsOf.agg | exact CellsOf.one rfl) (fun b2 => ?_)
  refine oAssign rfl ?_
  refine oAssign rfl ?_
  refine oNil ?_
  refine thn_n ?_
  refine wSeq ?_
  refine wRegion' ?_
  refine oLd rfl (by repeat (first | exact Pick.here | apply Pick.there)) rfl rfl ?_
  refine oLenS rfl rfl ?_
  refine oMake (kd := Kd.int .i64) (W := W0) (0 : Int) rfl rfl rfl rfl rfl rfl (by omega) rfl (fun g6 => ?_)
  rw [show List.replicate W.length (0 : Int) = aheadL W.length (bld W 0 0) by rw [← aheadL_zero]; exact aheadL_congr (fun c => (bld_zero W c).symm)]
  refine oAlloc rfl (by first | exact CellsOf.agg | exact CellsOf.one rfl) (fun b6 => ?_)
  refine oSt rfl rfl rfl rfl rfl (by repeat (first | exact Pick.here | apply Pick.there)) (by repeat (first | exact SetAt.here | apply SetAt.there)) ?_
  refine oNil ?_
  refine thn_n ?_
  refine wSeq ?_
  refine wSeq ?_
  refine wRegion' ?_
  refine oLd rfl (by repeat (first | exact Pick.here | apply Pick.there)) rfl rfl ?_
  refine oLenS rfl rfl ?_
  refine oMove rfl ?_
  refine oNil ?_
  refine thn_n ?_
  refine wBlock ?_
  refine wLoop (ι := Nat) (fun i => [(1, .slice A1 mem.length cp1), (2, .pointer (some ⟨b2, 0, none⟩)), (6, .pointer (some ⟨b6, 0, none⟩)), (18, .slice A W.length cp), (19, .int .i64 (W.length : Int)), (20, .int .i64 (i : Int))]) (fun i => [blk b2 68 [.slice A W.length cp], blk b6 50 [.slice (some ⟨g6, 0, none⟩) W.length W.length], row (Kd.int .i64) W0 3 (.slice (some ⟨g6, 0, none⟩) W.length W.length) (aheadL W.length (bld W i 0))]) (fun i => i ≤ W.length) (fun i => W.length - i) 0 ?_ (by repeat (first | exact trivial | refine And.intro rfl ?_)) (Leads.has (by repeat' (first | exact Has.nil | exact Pick.here | apply Has.cons | apply Pick.there))) ?_
  ·
    exact Nat.zero_le _
  ·
    rintro i hi
    dsimp only
    refine wSeq ?_
    refine wRegion' ?_
    refine oLss rfl rfl ?_
    refine oNil ?_
    refine thn_n ?_
    refine wSeq ?_
    first | refine wCond rfl (fun h21 => ?_) (fun h21 => ?_) | refine wCondB rfl (fun h21 => ?_) (fun h21 => ?_)
    ·
      refine wSkip ?_
      refine thn_n ?_
      refine wSeq ?_
      refine wBlock ?_
      refine wSeq ?_
      refine wRegion' ?_
      refine oIdx rfl rfl (hC) rfl (by omega) rfl rfl (fun e22 u22 cs22 hu22 hk22 hc22 => ?_)
      obtain ⟨A0, c0, rfl, hle22, g0⟩ := hk22
      obtain rfl : u22 = W.getD i [] := (getD_at hu22).symm
      have m0 := g0.1
      have hrow := hok.row i
      first | refine oLdX rfl hc22 rfl rfl ?_ | refine oLdXA rfl hc22 rfl (by repeat (first | exact SubL.done | apply SubL.take | apply SubL.drop)) ?_ | (refine oLdR1 rfl (by repeat (first | exact Pick.here | apply Pick.there)) (by omega) rfl (fun u23 hu23 => ?_))
      refine oAssign rfl ?_
      refine oNil ?_
      refine thn_n ?_
      refine wSeq ?_
      refine wRegion' ?_
      refine oMove rfl ?_
      refine oLenS rfl rfl ?_
      refine oMove rfl ?_
      refine oNil ?_
      refine thn_n ?_
      refine wBlock ?_
      refine wLoop (ι := Nat) (fun j => [(1, .slice A1 mem.length cp1), (2, .pointer (some ⟨b2, 0, none⟩)), (6, .pointer (some ⟨b6, 0, none⟩)), (18, .slice A W.length cp), (19, .int .i64 (W.length : Int)), (20, .int .i64 (i : Int)), (24, .slice A0 (W.getD i []).length c0), (25, .int .i64 ((W.getD i []).length : Int)), (26, .int .i64 (j : Int))]) (fun j => [blk b2 68 [.slice A W.length cp], blk b6 50 [.slice (some ⟨g6, 0, none⟩) W.length W.length], row (Kd.int .i64) W0 3 (.slice (some ⟨g6, 0, none⟩) W.length W.length) (aheadL W.length (bld W i j))]) (fun j => j ≤ (W.getD i []).length) (fun j => (W.getD i []).length - j) 0 ?_ (by repeat (first | exact trivial | refine And.intro rfl ?_)) (Leads.has (by repeat' (first | exact Has.nil | exact Pick.here | apply Has.cons | apply Pick.there))) ?_
      ·
        exact Nat.zero_le _
      ·
        rintro j hj
        dsimp only
        refine wSeq ?_
        refine wRegion' ?_
        refine oLss rfl rfl ?_
        refine oNil ?_
        refine thn_n ?_
        refine wSeq ?_
        first | refine wCond rfl (fun h27 => ?_) (fun h27 => ?_) | refine wCondB rfl (fun h27 => ?_) (fun h27 => ?_)
        ·
          refine wSkip ?_
          refine thn_n ?_
          refine wSeq ?_
          refine wBlock ?_
          refine wSeq ?_
          refine wRegion' ?_
          refine oIdx rfl rfl (g0) rfl (by omega) rfl rfl (fun e28 u28 cs28 hu28 hk28 hc28 => ?_)
          obtain rfl := hk28
          obtain ⟨b, rfl, hmb⟩ := hok.mem2 i u28 (List.mem_of_getElem? hu28)
          have hbl := getD_lt hmb
          have hal := aheadL_len W.length (bld W i j)
          have hbb := bld_le W i j b
          first | refine oLdX rfl hc28 rfl rfl ?_ | refine oLdXA rfl hc28 rfl (by repeat (first | exact SubL.done | apply SubL.take | apply SubL.drop)) ?_ | (refine oLdR1 rfl (by repeat (first | exact Pick.here | apply Pick.there)) (by omega) rfl (fun u29 hu29 => ?_))
          refine oAssign rfl ?_
          refine oNil ?_
          refine thn_n ?_
          refine wRegion' ?_
          refine oLd rfl (by repeat (first | exact Pick.here | apply Pick.there)) rfl rfl ?_
          refine oMove rfl ?_
          refine oIdxR rfl rfl (by repeat (first | exact Pick.here | apply Pick.there)) (by omega) rfl rfl (fun g32 hg32 => ?_)
          first | subst hg32 | (injection hg32 with hg32; injection hg32 with hg32; subst hg32)
          first | refine oLdX rfl hc32 rfl rfl ?_ | refine oLdXA rfl hc32 rfl (by repeat (first | exact SubL.done | apply SubL.take | apply SubL.drop)) ?_ | (refine oLdR1 rfl (by repeat (first | exact Pick.here | apply Pick.there)) (by omega) rfl (fun u33 hu33 => ?_))
          obtain rfl := bld_at (by omega) hu33
          refine oAdd rfl rfl (by omega) ?_
          refine oIdxR rfl rfl (by repeat (first | exact Pick.here | apply Pick.there)) (by omega) rfl rfl (fun g35 hg35 => ?_)
          first | subst hg35 | (injection hg35 with hg35; injection hg35 with hg35; subst hg35)
          refine oStR _ rfl rfl rfl rfl (by repeat (first | exact Pick.here | apply Pick.there)) (by first | omega | (simp only [List.length_set]; omega)) ?_
          refine oNil ?_
          refine blk_n ?_
          refine thn_n ?_
          refine wRegion' ?_
          rw [bld_step hrow hu28]
          refine oSucc rfl rfl (by omega) ?_
          refine oMove rfl ?_
          refine oNil ?_
          refine thn_n ?_
          exact ⟨rfl, j + 1, by omega, by omega, (by repeat (first | exact trivial | refine And.intro rfl ?_)), (Leads.has (by repeat' (first | exact Has.nil | exact Pick.here | apply Has.cons | apply Pick.there)))⟩
        ·
          obtain rfl : j = (W.getD i []).length := by omega
          rw [aheadL_congr (bld_next W i)]
          refine wExit ?_
          refine thn_x ?_
          refine thn_x ?_
          refine blk_x ?_
          refine blk_n ?_
          refine thn_n ?_
          refine wRegion' ?_
          refine oSucc rfl rfl (by omega) ?_
          refine oMove rfl ?_
          refine oNil ?_
          refine thn_n ?_
          exact ⟨rfl, i + 1, by omega, by omega, (by repeat (first | exact trivial | refine And.intro rfl ?_)), (Leads.has (by repeat' (first | exact Has.nil | exact Pick.here | apply Has.cons | apply Pick.there)))⟩
    ·
      obtain rfl : i = W.length := by omega
      rw [aheadL_congr (bld_all hok)]
      refine wExit ?_
      refine thn_x ?_
      refine thn_x ?_
      refine blk_x ?_
      refine thn_n ?_
      refine wSeq ?_
      refine wRegion' ?_
      (refine oCall rfl (by kernel_rfl) (fun w hS => frame hS (by repeat' (first | exact Split.nil | exact Pick.here | apply Split.cons | apply Pick.there)) (fun B' hB hS' => queue_New hS')) ?_; rintro ⟨q, p, s0⟩ hq0)
      dsimp only at hq0 ⊢
      refine oAlloc rfl (by first | exact CellsOf.agg | exact CellsOf.one rfl) (fun b11 => ?_)
      refine oSt rfl rfl rfl rfl rfl (by repeat (first | exact Pick.here | apply Pick.there)) (by repeat (first | exact SetAt.here | apply SetAt.there)) ?_
      refine oNil ?_
      refine thn_n ?_
      refine wSeq ?_
      refine wSeq ?_
      refine wRegion' ?_
      refine oMove rfl ?_
      refine oMakeFunc rfl ?_
      refine oConv (pack2 (r1 := blk b6 50 [.slice (some ⟨g6, 0, none⟩) W.length W.length]) (r2 := row (Kd.int .i64) W0 3 (.slice (some ⟨g6, 0, none⟩) W.length W.length) (aheadL W.length (cnt W mem))) (by repeat (first | exact Pick.here | apply Pick.there)) (by repeat (first | exact Pick.here | apply Pick.there))) ?_
      (refine oCall rfl (by kernel_rfl) (fun w hS => frame hS (by repeat' (first | exact Split.nil | exact Pick.here | apply Split.cons | apply Pick.there)) (fun B' hB hS' => members_any (R := bun [blk b6 50 [.slice (some ⟨g6, 0, none⟩) W.length W.length], row (Kd.int .i64) W0 3 (.slice (some ⟨g6, 0, none⟩) W.length W.length) (aheadL W.length (cnt W mem))]) hS' mem A1 cp1 (Kd.C_grow hB hC1) (by omega) 70 #[.pointer (some ⟨b6, 0, none⟩)] (fun a => decide (cnt W mem a = 0)) (by kernel_rfl) (fun B'' w a hB2 ha hS2 => o1 W mem b6 g6 W0 a hn (by omega) hS2) W0)) ?_; rintro ⟨A41, c41⟩ -)
      refine oConv (unpack2 (by repeat (first | exact Pick.here | apply Pick.there))) ?_
      rw [freL_sel hok]
      refine oLenS rfl rfl ?_
      refine oMove rfl ?_
      refine oNil ?_
      refine thn_n ?_
      refine wBlock ?_
      refine wLoop (ι := Nat × Pile) (fun z => [(1, .slice A1 mem.length cp1), (2, .pointer (some ⟨b2, 0, none⟩)), (6, .pointer (some ⟨b6, 0, none⟩)), (11, .pointer (some ⟨b11, 0, none⟩)), (41, .slice A41 ((freL W mem).map Int.ofNat).length c41), (42, .int .i64 (((freL W mem).map Int.ofNat).length : Int)), (43, .int .i64 (z.1 : Int))]) (fun z => [blk b2 68 [.slice A W.length cp], blk b6 50 [.slice (some ⟨g6, 0, none⟩) W.length W.length], row (Kd.int .i64) W0 3 (.slice (some ⟨g6, 0, none⟩) W.length W.length) (aheadL W.length (cnt W mem)), blk b11 45 [ptrV q], row (Kd.int .i64) W0 3 (.slice A41 ((freL W mem).map Int.ofNat).length c41) ((freL W mem).map Int.ofNat)] ++ queueR q p z.2) (fun z => z.1 ≤ ((freL W mem).map Int.ofNat).length ∧ QOk z.2 (((freL W mem).take z.1).map pr)) (fun z => ((freL W mem).map Int.ofNat).length - z.1) (0, s0) ?_ (by repeat (first | exact trivial | refine And.intro rfl ?_)) (Leads.has (by repeat' (first | exact Has.nil | exact Pick.here | apply Has.cons | apply Pick.there))) ?_
      ·
        exact ⟨Nat.zero_le _, hq0⟩
      ·
        rintro ⟨k, s1⟩ ⟨hk, hq1⟩
        dsimp only at hk hq1
        have hfm : ((freL W mem).map Int.ofNat).length = (freL W mem).length := List.length_map _
        dsimp only
        refine wSeq ?_
        refine wRegion' ?_
        refine oLss rfl rfl ?_
        refine oNil ?_
        refine thn_n ?_
        refine wSeq ?_
        first | refine wCond rfl (fun h44 => ?_) (fun h44 => ?_) | refine wCondB rfl (fun h44 => ?_) (fun h44 => ?_)
        ·
          refine wSkip ?_
          refine thn_n ?_
          refine wSeq ?_
          refine wBlock ?_
          refine wSeq ?_
          refine wRegion' ?_
          refine oIdxR rfl rfl (by repeat (first | exact Pick.here | apply Pick.there)) (by omega) rfl rfl (fun g45 hg45 => ?_)
          first | subst hg45 | (injection hg45 with hg45; injection hg45 with hg45; subst hg45)
          first | refine oLdX rfl hc45 rfl rfl ?_ | refine oLdXA rfl hc45 rfl (by repeat (first | exact SubL.done | apply SubL.take | apply SubL.drop)) ?_ | (refine oLdR1 rfl (by repeat (first | exact Pick.here | apply Pick.there)) (by omega) rfl (fun u46 hu46 => ?_))
          obtain ⟨x, hx, rfl⟩ := nat_at hu46
          have hft := freL_take hx
          refine oAssign rfl ?_
          refine oNil ?_
          refine thn_n ?_
          refine wRegion' ?_
          refine oLd rfl (by repeat (first | exact Pick.here | apply Pick.there)) rfl rfl ?_
          refine oMove rfl ?_
          refine oMove rfl ?_
          (refine oCall rfl (by kernel_rfl) (fun w hS => frame hS (by repeat' (first | exact Split.nil | exact Pick.here | apply Split.cons | apply Pick.there)) (fun B' hB hS' => queue_Put (p := p) (s := s1) hS' hq1 _ _ (by rw [List.length_map, List.length_take]; omega))) ?_; rintro s2 hq2)
          rw [hft.1, if_neg (by simp), hft.2] at hq2
          refine oNil ?_
          refine blk_n ?_
          refine thn_n ?_
          refine wRegion' ?_
          refine oSucc rfl rfl (by omega) ?_
          refine oMove rfl ?_
          refine oNil ?_
          refine thn_n ?_
          exact ⟨rfl, (k + 1, s2), ⟨by show k + 1 ≤ _; omega, hq2⟩, by show _ - (k + 1) < _ - k; omega, (by repeat (first | exact trivial | refine And.intro rfl ?_)), (Leads.has (by repeat' (first | exact Has.nil | exact Pick.here | apply Has.cons | apply Pick.there)))⟩
        ·
          obtain rfl : k = ((freL W mem).map Int.ofNat).length := by omega
          rw [List.length_map, List.take_length] at hq1
          rw [show aheadL W.length (cnt W mem) = ahJ W mem [] from aheadL_congr (fun c => by simp [inT])]
          have hq2 : QOk s1 (wtJ W mem []) := by rw [wtJ_nil W hml.symm]; exact hq1
          refine wExit ?_
          refine thn_x ?_
          refine thn_x ?_
          refine blk_x ?_
          refine thn_n ?_
          refine wSeq ?_
          refine wRegion' ?_
          refine oAlloc rfl (by first | exact CellsOf.agg | exact CellsOf.one rfl) (fun b14 => ?_)
          refine oNil ?_
          refine thn_n ?_
          refine wSeq ?_
          refine wRegion' ?_
          refine oLd rfl (by repeat (first | exact Pick.here | apply Pick.there)) rfl rfl ?_
          refine oMakeFuncB rfl rfl ?_
          refine oMakeFunc rfl ?_
          refine oConv (show Leads _ _ (ordR b14 b2 b6 b11 q p g6 none 0 [] A cp W (ahJ W mem []) W0 s1 ++ [row (Kd.int .i64) W0 3 (.slice A41 ((freL W mem).map Int.ofNat).length c41) ((freL W mem).map Int.ofNat)]) from (Leads.nilrow (kd := Kd.int .i64) (W := W0) (e := 3)).trans (Leads.has (by repeat' (first | exact Has.nil | exact Pick.here | apply Has.cons | apply Pick.there)))) ?_
          (refine oCall rfl (by kernel_rfl) (fun w hS => frame hS (by repeat' (first | exact Split.nil | exact Pick.here | apply Split.cons | apply Pick.there)) (fun B' hB hS' => drain_any b14 b2 b6 b11 q p g6 none 0 [] A cp W W0 s1 mem mem hS' hok .nil hq2 (Kd.C_grow hB hC))) ?_; rintro ⟨⟨A9, c9⟩, ⟨out, left⟩, s3⟩ ⟨hrun, hnx⟩)
          dsimp only at hrun hnx ⊢
          refine oNil ?_
          refine thn_n ?_
          refine wSeq ?_
          refine wSeq ?_
          refine wDrawC rfl [0, 1, 2] [(3, [0, 1]), (4, [0, 1])] [5] 6 (by kernel_rfl) rfl rfl (fun w0 => ?_)
          refine oLd rfl (by repeat (first | exact Pick.here | apply Pick.there)) rfl rfl ?_
          refine oLenS rfl rfl ?_
          refine oMove rfl ?_
          refine oLkSegC ?_
          refine oSegC rfl ?_
          refine oConv bun_nil ?_
          (refine oCall rfl (by kernel_rfl) (fun w hS => frame hS (by repeat' (first | exact Split.nil | exact Pick.here | apply Split.cons | apply Pick.there)) (fun B' hB hS' => members_any (R := bun []) hS' mem A1 cp1 (Kd.C_grow hB hC1) (by omega) 73 #[] (fun a => true) (by kernel_rfl) (fun B'' w a hB2 ha hS2 => order3 (a : Int) hS2) W0)) ?_; rintro ⟨A59, c59⟩ -)
          have hsa := sel_all mem
          refine oAgainC ?_ ?_
          ·
            refine Again.cons rfl rfl rfl rfl (fun w0 => ?_) ?_
            ·
              refine oLd rfl (by repeat (first | exact Pick.here | apply Pick.there)) rfl rfl ?_
              exact oLkHas rfl
            ·
              refine Again.cons rfl rfl rfl rfl (fun w0 => ?_) ?_
              ·
                refine oLenS rfl rfl ?_
                exact oLkHas rfl
              ·
                exact Again.nil
          ·
            refine oSegC rfl ?_
            refine oLenS rfl rfl ?_
            refine oAgainC ?_ ?_
            ·
              refine Again.cons rfl rfl rfl rfl (fun w0 => ?_) ?_
              ·
                refine oLd rfl (by repeat (first | exact Pick.here | apply Pick.there)) rfl rfl ?_
                exact oLkHas rfl
              ·
                refine Again.cons rfl rfl rfl rfl (fun w0 => ?_) ?_
                ·
                  refine oLenS rfl rfl ?_
                  exact oLkHas rfl
                ·
                  exact Again.nil
            ·
              refine oTailC ?_
              refine oLss rfl rfl ?_
              refine oNil ?_
              refine thn_n ?_
              first | refine wCond rfl (fun h61 => ?_) (fun h61 => ?_) | refine wCondB rfl (fun h61 => ?_) (fun h61 => ?_)
              ·
                have hb := kahn_bad hrun hnx (by omega)
                refine wSeq ?_
                refine wRegion' ?_
                refine oAssign rfl ?_
                refine oAssign rfl ?_
                refine oNil ?_
                refine thn_n ?_
                refine wRet ?_
                refine thn_r ?_
                refine fin_r ?_
                refine ⟨rfl, _, (ResL.cons (ResR.tmp rfl) (ResL.cons (ResR.tmp rfl) ResL.nil)), ?_⟩
                exact ⟨(none, 0), trivial, by rw [hb.1, hb.2]; rfl, by rw [hb.2]; exact Leads.nilrow.trans (Leads.has (by repeat' (first | exact Has.nil | exact Pick.here | apply Has.cons | apply Pick.there)))⟩
              ·
                have hb := kahn_good hrun hnx (by omega)
                have ho2 : (out.map Int.ofNat).length = out.length := List.length_map _
                refine wSkip ?_
                refine thn_n ?_
                refine wSeq ?_
                refine wRegion' ?_
                refine oLd rfl (by repeat (first | exact Pick.here | apply Pick.there)) rfl rfl ?_
                refine oAssign rfl ?_
                refine oAssign rfl ?_
                refine oNil ?_
                refine thn_n ?_
                refine wRet ?_
                refine fin_r ?_
                refine ⟨rfl, _, (ResL.cons (ResR.tmp rfl) (ResL.cons (ResR.tmp rfl) ResL.nil)), ?_⟩
                exact ⟨(A9, c9), trivial, by rw [hb.1, hb.2, ho2]; rfl, by rw [hb.2, ho2]; exact (Leads.has (by repeat' (first | exact Has.nil | exact Pick.here | apply Has.cons | apply Pick.there)))⟩
end Go.Proofs.YtnidmlngkpkmlaaG
