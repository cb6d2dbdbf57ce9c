/-
  Package cycle: within.
-/
import Derived.Test.YtnidmlngkpkmlaaGf
namespace Go.Proofs.YtnidmlngkpkmlaaG
set_option linter.unusedVariables false
set_option linter.unusedSimpArgs false
open Go.RowKit Go.Proofs.YtnidmlngkpkmlaaK Go.Proofs.YtnidmlngkpkmlaaT Go.Proofs.YtnidmlngkpkmlaaL

def memL (g : Graph) (ib : List Bool) : List Bool := ib.take g.length ++ (List.replicate g.length false).drop ib.length
theorem memL_len (g : Graph) (ib : List Bool) : (memL g ib).length = g.length := by unfold memL; rw [List.length_append, List.length_take, List.length_drop, List.length_replicate]; omega
theorem memL_at {g : Graph} {ib : List Bool} {a : Nat} {u : Bool} (hu : (memL g ib)[a]? = some u) : u = memF g ib (a : Int) := by
  have ha : a < g.length := by rw [← memL_len g ib]; exact (List.getElem?_eq_some_iff.1 hu).1
  unfold memL at hu
  unfold memF
  rw [decide_eq_true (show (0 : Int) ≤ a by omega), decide_eq_true (show (a : Int) < g.length by omega), Int.toNat_natCast]
  by_cases hb : a < ib.length
  · rw [List.getElem?_append_left (by rw [List.length_take]; omega), List.getElem?_take, if_pos ha] at hu
    rw [decide_eq_true (show (a : Int) < ib.length by omega), getD_at hu]; rfl
  · rw [List.getElem?_append_right (by rw [List.length_take]; omega), List.getElem?_drop, List.getElem?_replicate] at hu
    rw [decide_eq_false (show ¬ (a : Int) < ib.length by omega)]
    split at hu
    · injection hu with hu; exact hu.symm
    · cases hu
def wp (g : Graph) (ib : List Bool) (a : Nat) : List Int := (cl g a).filter (inP g ib a)
def withinP (g : Graph) (ib : List Bool) : Graph := (List.range g.length).map (wp g ib)
def withinTo (g : Graph) (ib : List Bool) (a : Nat) : Graph := (List.range g.length).map fun i => if i < a then wp g ib i else []
theorem withinP_len (g : Graph) (ib : List Bool) : (withinP g ib).length = g.length := by simp [withinP]
theorem withinTo_len (g : Graph) (ib : List Bool) (a : Nat) : (withinTo g ib a).length = g.length := by simp [withinTo]
theorem withinTo_zero (g : Graph) (ib : List Bool) : withinTo g ib 0 = List.replicate g.length [] := by
  apply List.ext_getElem?
  intro i
  unfold withinTo
  rw [List.getElem?_map, List.getElem?_replicate]
  by_cases h : i < g.length
  · simp [h]
  · simp [h]
theorem withinTo_all (g : Graph) (ib : List Bool) : withinTo g ib g.length = withinP g ib := by
  apply List.map_congr_left
  intro i hi
  rw [if_pos (List.mem_range.1 hi)]
theorem withinTo_at {g : Graph} {ib : List Bool} {a : Nat} (h : a < g.length) : (withinTo g ib a)[a]? = some [] := by simp [withinTo, h]
theorem withinTo_succ {g : Graph} {ib : List Bool} {a : Nat} (h : a < g.length) : (withinTo g ib a).set a (wp g ib a) = withinTo g ib (a + 1) := by
  apply List.ext_getElem?
  intro i
  rw [List.getElem?_set]
  by_cases e : a = i
  · subst e; simp [withinTo, h]
  · rw [if_neg e]
    unfold withinTo
    rw [List.getElem?_map, List.getElem?_map]
    cases hr : (List.range g.length)[i]? with
    | none => rfl
    | some j =>
      obtain ⟨hi, rfl⟩ := List.getElem?_eq_some_iff.1 hr
      simp only [List.getElem_range, Option.map_some, Option.some.injEq]
      by_cases h1 : i < a
      · rw [if_pos h1, if_pos (by omega)]
      · rw [if_neg h1, if_neg (by omega)]
theorem set_nil {α : Type} {l : List (List α)} {a : Nat} (h : l[a]? = some []) : l.set a [] = l := by
  obtain ⟨hj, he⟩ := List.getElem?_eq_some_iff.1 h
  rw [← he]; exact List.set_getElem_self hj
theorem cl_at {g : Graph} {a : Nat} {u : List Int} (hu : (cleanG g)[a]? = some u) : u = cl g a := by
  have ha : a < g.length := by rw [← cleanG_len g]; exact (List.getElem?_eq_some_iff.1 hu).1
  unfold cleanG at hu
  rw [List.getElem?_map, List.getElem?_range ha] at hu
  exact (Option.some.inj hu).symm
theorem cl_mem {g : Graph} {a : Nat} {x : Int} : x ∈ cl g a ↔ x ∈ endsOf g a := (sorted_spec _).2 x
theorem cl_len {g : Graph} (h : SmallG g) (a : Nat) : (cl g a).length ≤ 1000 := by
  unfold cl Lib.compact Lib.compactUpTo
  rw [List.length_map]
  refine Nat.le_trans (List.length_filter_le _ _) ?_
  rw [List.length_range, List.length_mergeSort]
  exact ends_le h a

set_option maxRecDepth 100000 in
set_option maxHeartbeats 1000000 in
theorem within_any {B : Base} {w : World} (hS : St B [] w) (g : Graph) (A : Option Addr) (cp : Nat) (hC : kII.C B.e A g) (hsm : SmallG g) (ib : List Bool) (A1 : Option Addr) (cp1 : Nat) (hC1 : Kd.bool.C B.e A1 ib) (hib : ib.length ≤ 1000) (W0 : World) :
    CallsIn Fence.wide 0 Try.prog 57 #[.slice A g.length cp, .slice A1 ib.length cp1] w
      (Ret B (fun z : (Option Addr × Nat × List Hdr) × (Option Addr × Nat) => z.1.2.2.length = g.length) (fun z => .tuple #[.slice z.1.1 g.length z.1.2.1, .slice z.2.1 g.length z.2.2])
        (fun z => [row kHdr W0 50 (.slice z.1.1 g.length z.1.2.1) z.1.2.2, bun (rws (Kd.int .i64) W0 3 z.1.2.2 (withinP g ib)), row Kd.bool W0 4 (.slice z.2.1 g.length z.2.2) (memL g ib)])) := by
  have hn := hsm.1
  have hm := memL_len g ib
  (refine enter Try.func57 rfl rfl hS ?_; simp only [List.zipIdx_cons, List.zipIdx_nil, List.map_cons, List.map_nil, Nat.reduceAdd, Nat.zero_add])
  refine wSeq ?_
  refine wRegion' ?_
  refine oAssign rfl ?_
  refine oAssign rfl ?_
  refine oNil ?_
  refine thn_n ?_
  refine wSeq ?_
  refine wRegion' ?_
  refine oMove rfl ?_
  refine oLenS rfl rfl ?_
  refine oMake (kd := Kd.bool) (W := W0) false rfl rfl rfl rfl rfl rfl (by omega) rfl (fun g14 => ?_)
  refine oAssign rfl ?_
  refine oNil ?_
  refine thn_n ?_
  refine wSeq ?_
  refine wRegion' ?_
  refine oMove rfl ?_
  refine oMove rfl ?_
  refine oCopy (enc := Value.bool) (ys := ib) rfl rfl rfl (by repeat (first | exact Pick.here | apply Pick.there)) rfl hC1 ?_
  rw [show ib.take g.length ++ (List.replicate g.length false).drop ib.length = memL g ib from rfl]
  dsimp only
  refine oNil ?_
  refine thn_n ?_
  refine wSeq ?_
  refine wRegion' ?_
  refine oMove rfl ?_
  refine oLenS rfl rfl ?_
  refine oMake (kd := kHdr) (W := W0) ((none, 0, 0) : Hdr) rfl rfl rfl rfl rfl rfl (by omega) rfl (fun g20 => ?_)
  refine oConv (rws_new (kd := Kd.int .i64) (W := W0) (ei := 3) g.length) ?_
  refine oAssign rfl ?_
  refine oNil ?_
  refine thn_n ?_
  refine wSeq ?_
  refine wSeq ?_
  refine wRegion' ?_
  refine oMove rfl ?_
  (refine oCall rfl (by kernel_rfl) (fun w hS => frame hS (by repeat' (first | exact Split.nil | exact Pick.here | apply Split.cons | apply Pick.there)) (fun B' hB hS' => clean_any hS' g A cp (Kd.C_grow hB hC) hsm B.e)) ?_; rintro ⟨A22, c22, hs22⟩ hl22)
  dsimp only at hl22
  refine oSet (t := 22) (v' := .slice A22 (cleanG g).length c22) rfl (by rw [cleanG_len]) ?_
  refine oLenS rfl rfl ?_
  refine oMove rfl ?_
  refine oNil ?_
  refine thn_n ?_
  refine wFreeze [row kHdr B.e 50 (.slice A22 g.length c22) hs22, bun (rws (Kd.int .i64) B.e 3 hs22 (cleanG g))] (by repeat' (first | exact Split.nil | exact Pick.here | apply Split.cons | apply Pick.there)) (fun B1 hB1 hq1 => ?_)
  have hC22 := grid_C (hq1 _ _ (by repeat (first | exact Pick.here | apply Pick.there))) (hq1 _ _ (by repeat (first | exact Pick.here | apply Pick.there))) (by rw [cleanG_len]; exact hl22) hB1
  refine wBlock ?_
  refine wLoop (ι := Nat × List Hdr) (fun z => [(6, .slice (some ⟨g14, 0, none⟩) g.length g.length), (7, .slice (some ⟨g20, 0, none⟩) g.length g.length), (22, .slice A22 (cleanG g).length c22), (23, .int .i64 ((cleanG g).length : Int)), (24, .int .i64 (z.1 : Int))]) (fun z => [row Kd.bool W0 4 (.slice (some ⟨g14, 0, none⟩) g.length g.length) (memL g ib), row kHdr W0 50 (.slice (some ⟨g20, 0, none⟩) g.length g.length) z.2, bun (rws (Kd.int .i64) W0 3 z.2 (withinTo g ib z.1))]) (fun z => z.1 ≤ (cleanG g).length ∧ z.2.length = g.length) (fun z => (cleanG g).length - z.1) (0, List.replicate g.length (none, 0, 0)) ?_ (by repeat (first | exact trivial | refine And.intro rfl ?_)) (by rw [withinTo_zero]; exact (Leads.has (by repeat' (first | exact Has.nil | exact Pick.here | apply Has.cons | apply Pick.there)))) ?_
  ·
    exact ⟨Nat.zero_le _, by simp⟩
  ·
    rintro ⟨a, hs⟩ ⟨ha, hl⟩
    dsimp only at ha hl
    rw [cleanG_len] at ha
    have hgl := cleanG_len g
    dsimp only
    refine wSeq ?_
    refine wRegion' ?_
    refine oLss rfl rfl ?_
    refine oNil ?_
    refine thn_n ?_
    refine wSeq ?_
    first | refine wCond rfl (fun h25 => ?_) (fun h25 => ?_) | refine wCondB rfl (fun h25 => ?_) (fun h25 => ?_)
    ·
      refine wSkip ?_
      refine thn_n ?_
      refine wSeq ?_
      refine wBlock ?_
      refine wSeq ?_
      refine wRegion' ?_
      refine oMove rfl ?_
      refine oIdx rfl rfl (hC22) rfl (by omega) rfl rfl (fun e27 u27 cs27 hu27 hk27 hc27 => ?_)
      obtain ⟨A0, c0, rfl, hle27, g0⟩ := hk27
      obtain rfl := cl_at hu27
      have hC29 := g0
      have hcll := cl_len hsm a
      first | refine oLdX rfl hc27 rfl rfl ?_ | refine oLdXA rfl hc27 rfl (by repeat (first | exact SubL.done | apply SubL.take | apply SubL.drop)) ?_ | (refine oLdR1 rfl (by repeat (first | exact Pick.here | apply Pick.there)) (by omega) rfl (fun u28 hu28 => ?_))
      refine oAssign rfl ?_
      refine oAssign rfl ?_
      refine oNil ?_
      refine thn_n ?_
      refine wSeq ?_
      refine wRegion' ?_
      refine oMove rfl ?_
      refine oLenS rfl rfl ?_
      refine oMove rfl ?_
      refine oNil ?_
      refine thn_n ?_
      refine wBlock ?_
      refine wLoop (ι := Nat × List Hdr) (fun z => [(6, .slice (some ⟨g14, 0, none⟩) g.length g.length), (7, .slice (some ⟨g20, 0, none⟩) g.length g.length), (22, .slice A22 (cleanG g).length c22), (23, .int .i64 ((cleanG g).length : Int)), (24, .int .i64 (a : Int)), (8, .int .i64 (a : Int)), (29, .slice A0 (cl g a).length c0), (30, .int .i64 ((cl g a).length : Int)), (31, .int .i64 (z.1 : Int))]) (fun z => [row Kd.bool W0 4 (.slice (some ⟨g14, 0, none⟩) g.length g.length) (memL g ib), row kHdr W0 50 (.slice (some ⟨g20, 0, none⟩) g.length g.length) z.2, bun (rws (Kd.int .i64) W0 3 z.2 ((withinTo g ib a).set a (((cl g a).take z.1).filter (inP g ib a))))]) (fun z => z.1 ≤ (cl g a).length ∧ z.2.length = g.length) (fun z => (cl g a).length - z.1) (0, hs) ?_ (by repeat (first | exact trivial | refine And.intro rfl ?_)) (by rw [List.take_zero, List.filter_nil, set_nil (withinTo_at (by omega))]; exact (Leads.has (by repeat' (first | exact Has.nil | exact Pick.here | apply Has.cons | apply Pick.there)))) ?_
      ·
        exact ⟨Nat.zero_le _, hl⟩
      ·
        rintro ⟨i, hsi⟩ ⟨hi, hli⟩
        dsimp only at hi hli
        dsimp only
        refine wSeq ?_
        refine wRegion' ?_
        refine oLss rfl rfl ?_
        refine oNil ?_
        refine thn_n ?_
        refine wSeq ?_
        first | refine wCond rfl (fun h32 => ?_) (fun h32 => ?_) | refine wCondB rfl (fun h32 => ?_) (fun h32 => ?_)
        ·
          refine wSkip ?_
          refine thn_n ?_
          refine wSeq ?_
          refine wBlock ?_
          refine wSeq ?_
          refine wRegion' ?_
          refine oIdx rfl rfl (hC29) rfl (by omega) rfl rfl (fun e33 u33 cs33 hu33 hk33 hc33 => ?_)
          obtain rfl := hk33
          have hft := filter_take (P := inP g ib a) hu33
          have hin := inG_iff.1 (ends_in (cl_mem.1 (List.mem_of_getElem? hu33)))
          obtain ⟨x, rfl⟩ := Int.eq_ofNat_of_zero_le hin.1
          have hfl : (((cl g a).take i).filter (inP g ib a)).length ≤ 1000 := Nat.le_trans (List.length_filter_le _ _) (by rw [List.length_take]; omega)
          first | refine oLdX rfl hc33 rfl rfl ?_ | refine oLdXA rfl hc33 rfl (by repeat (first | exact SubL.done | apply SubL.take | apply SubL.drop)) ?_ | (refine oLdR1 rfl (by repeat (first | exact Pick.here | apply Pick.there)) (by omega) rfl (fun u34 hu34 => ?_))
          refine oAssign rfl ?_
          refine oNil ?_
          refine thn_n ?_
          refine wSeq ?_
          refine wRegion' ?_
          refine oMove rfl ?_
          refine oMove rfl ?_
          refine oIdxR rfl rfl (by repeat (first | exact Pick.here | apply Pick.there)) (by omega) rfl rfl (fun g37 hg37 => ?_)
          first | subst hg37 | (injection hg37 with hg37; injection hg37 with hg37; subst hg37)
          first | refine oLdX rfl hc37 rfl rfl ?_ | refine oLdXA rfl hc37 rfl (by repeat (first | exact SubL.done | apply SubL.take | apply SubL.drop)) ?_ | (refine oLdR1 rfl (by repeat (first | exact Pick.here | apply Pick.there)) (by omega) rfl (fun u38 hu38 => ?_))
          have hm38 := memL_at hu38
          refine oMove rfl ?_
          first | refine oSplit (t := 39) rfl (fun h39 => ?_) (fun h39 => ?_) | refine oSplitB (t := 39) rfl (fun h39 => ?_) (fun h39 => ?_)
          ·
            refine oWant rfl rfl ?_
            refine oMove rfl ?_
            refine oWant rfl rfl ?_
            refine oMove rfl ?_
            refine oWant rfl rfl ?_
            refine oIdxR rfl rfl (by repeat (first | exact Pick.here | apply Pick.there)) (by omega) rfl rfl (fun g42 hg42 => ?_)
            first | subst hg42 | (injection hg42 with hg42; injection hg42 with hg42; subst hg42)
            refine oWant rfl rfl ?_
            first | refine oLdX rfl hc42 rfl rfl ?_ | refine oLdXA rfl hc42 rfl (by repeat (first | exact SubL.done | apply SubL.take | apply SubL.drop)) ?_ | (refine oLdR1 rfl (by repeat (first | exact Pick.here | apply Pick.there)) (by omega) rfl (fun u43 hu43 => ?_))
            have hm43 := memL_at hu43
            refine oPickT rfl rfl ?_
            refine oNil ?_
            refine thn_n ?_
            first | refine wCond rfl (fun h44 => ?_) (fun h44 => ?_) | refine wCondB rfl (fun h44 => ?_) (fun h44 => ?_)
            ·
              refine wRegion' ?_
              refine oMove rfl ?_
              refine oMove rfl ?_
              refine oMove rfl ?_
              refine oMove rfl ?_
              refine oIdxR rfl rfl (by repeat (first | exact Pick.here | apply Pick.there)) (by omega) rfl rfl (fun g49 hg49 => ?_)
              first | subst hg49 | (injection hg49 with hg49; injection hg49 with hg49; subst hg49)
              first | refine oLdX rfl hc49 rfl rfl ?_ | refine oLdXA rfl hc49 rfl (by repeat (first | exact SubL.done | apply SubL.take | apply SubL.drop)) ?_ | (refine oLdR1 rfl (by repeat (first | exact Pick.here | apply Pick.there)) (by omega) rfl (fun u50 hu50 => ?_))
              refine oMove rfl ?_
              refine oBuildSlice1 rfl rfl rfl rfl rfl (by first | exact CellsOf.agg | exact CellsOf.one rfl) rfl (fun b52 => ?_)
              refine oFocus (i := a) (xs := ((cl g a).take i).filter (inP g ib a)) (by repeat (first | exact Pick.here | apply Pick.there)) hu50 (by rw [List.getElem?_set, if_pos rfl, if_pos (by rw [withinTo_len]; omega)]) ?_
              refine oApp1 (x : Int) rfl rfl rfl rfl (by repeat (first | exact Pick.here | apply Pick.there)) (by repeat (first | exact Pick.here | apply Pick.there)) rfl (by omega) rfl (fun g53 cp53 => ?_)
              rw [if_pos (by simp [inP, ← hm38, ← hm43, h39, h44])] at hft
              refine oBack (kd := Kd.int .i64) (W := W0) (ei := 3) (hs := hsi) (xss := (withinTo g ib a).set a (((cl g a).take i).filter (inP g ib a))) (i := a) (u := (some ⟨g53, 0, none⟩, (((cl g a).take i).filter (inP g ib a)).length + 1, cp53)) (xs := ((cl g a).take i).filter (inP g ib a) ++ [(x : Int)]) (by repeat (first | exact Pick.here | apply Pick.there)) (by repeat (first | exact Pick.here | apply Pick.there)) (by omega) (by rw [List.length_set, withinTo_len]; exact hli) ?_
              rw [List.set_set, ← hft]
              refine oIdxR rfl rfl (by repeat (first | exact Pick.here | apply Pick.there)) (by omega) rfl rfl (fun g54 hg54 => ?_)
              first | subst hg54 | (injection hg54 with hg54; injection hg54 with hg54; subst hg54)
              refine oStR (enc := hV) (some ⟨g53, 0, none⟩, (((cl g a).take i).filter (inP g ib a)).length + 1, cp53) rfl rfl rfl rfl (by repeat (first | exact Pick.here | apply Pick.there)) (by omega) ?_
              refine oNil ?_
              refine blk_n ?_
              refine thn_n ?_
              refine wRegion' ?_
              refine oSucc rfl rfl (by omega) ?_
              refine oMove rfl ?_
              refine oNil ?_
              refine thn_n ?_
              exact ⟨rfl, (i + 1, hsi.set a (some ⟨g53, 0, none⟩, (((cl g a).take i).filter (inP g ib a)).length + 1, cp53)), ⟨by show i + 1 ≤ _; omega, by show (hsi.set _ _).length = _; rw [List.length_set]; exact hli⟩, by show (cl g a).length - (i + 1) < (cl g a).length - i; omega, (by repeat (first | exact trivial | refine And.intro rfl ?_)), (Leads.has (by repeat' (first | exact Has.nil | exact Pick.here | apply Has.cons | apply Pick.there)))⟩
            ·
              refine wSkip ?_
              refine blk_n ?_
              refine thn_n ?_
              refine wRegion' ?_
              refine oSucc rfl rfl (by omega) ?_
              refine oMove rfl ?_
              refine oNil ?_
              refine thn_n ?_
              exact ⟨rfl, (i + 1, hsi), ⟨by show i + 1 ≤ _; omega, hli⟩, by show (cl g a).length - (i + 1) < (cl g a).length - i; omega, (by repeat (first | exact trivial | refine And.intro rfl ?_)), by dsimp only; rw [hft, if_neg (by simp [inP, ← hm38, ← hm43, h44]), List.append_nil]; exact (Leads.has (by repeat' (first | exact Has.nil | exact Pick.here | apply Has.cons | apply Pick.there)))⟩
          ·
            refine oSkip rfl rfl rfl rfl ?_
            refine oSkip rfl rfl rfl rfl ?_
            refine oSkip rfl rfl rfl rfl ?_
            refine oSkip rfl rfl rfl rfl ?_
            refine oPickF rfl rfl ?_
            refine oNil ?_
            refine thn_n ?_
            refine wCondF rfl ?_
            refine wSkip ?_
            refine blk_n ?_
            refine thn_n ?_
            refine wRegion' ?_
            refine oSucc rfl rfl (by omega) ?_
            refine oMove rfl ?_
            refine oNil ?_
            refine thn_n ?_
            exact ⟨rfl, (i + 1, hsi), ⟨by show i + 1 ≤ _; omega, hli⟩, by show (cl g a).length - (i + 1) < (cl g a).length - i; omega, (by repeat (first | exact trivial | refine And.intro rfl ?_)), by dsimp only; rw [hft, if_neg (by simp [inP, ← hm38, h39]), List.append_nil]; exact (Leads.has (by repeat' (first | exact Has.nil | exact Pick.here | apply Has.cons | apply Pick.there)))⟩
        ·
          obtain rfl : i = (cl g a).length := by omega
          rw [List.take_length, show (cl g a).filter (inP g ib a) = wp g ib a from rfl, withinTo_succ (by omega)]
          refine wExit ?_
          refine thn_x ?_
          refine thn_x ?_
          refine blk_x ?_
          refine blk_n ?_
          refine thn_n ?_
          refine wRegion' ?_
          refine oSucc rfl rfl (by omega) ?_
          refine oMove rfl ?_
          refine oNil ?_
          refine thn_n ?_
          exact ⟨rfl, (a + 1, hsi), ⟨by rw [cleanG_len]; show a + 1 ≤ _; omega, hli⟩, by rw [cleanG_len]; show g.length - (a + 1) < g.length - a; omega, (by repeat (first | exact trivial | refine And.intro rfl ?_)), (Leads.has (by repeat' (first | exact Has.nil | exact Pick.here | apply Has.cons | apply Pick.there)))⟩
    ·
      obtain rfl : a = g.length := by omega
      rw [withinTo_all]
      refine wExit ?_
      refine thn_x ?_
      refine thn_x ?_
      refine blk_x ?_
      refine thn_n ?_
      refine wSeq ?_
      refine wRegion' ?_
      refine oMove rfl ?_
      refine oMove rfl ?_
      refine oAssign rfl ?_
      refine oAssign rfl ?_
      refine oNil ?_
      refine thn_n ?_
      refine wRet ?_
      refine fin_r ?_
      refine ⟨rfl, _, (ResL.cons (ResR.tmp rfl) (ResL.cons (ResR.tmp rfl) ResL.nil)), ?_⟩
      exact ⟨((some ⟨g20, 0, none⟩, g.length, hs), (some ⟨g14, 0, none⟩, g.length)), hl, rfl, (Leads.has (by repeat' (first | exact Has.nil | exact Pick.here | apply Has.cons | apply Pick.there)))⟩
end Go.Proofs.YtnidmlngkpkmlaaG
