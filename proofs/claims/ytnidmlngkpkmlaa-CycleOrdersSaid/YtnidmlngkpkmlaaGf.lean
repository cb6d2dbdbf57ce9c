/-
  Graphs within members: the reference's Within and On.
-/
import Derived.Test.YtnidmlngkpkmlaaGe
import Derived.Test.YtnidmlngkpkmlaaKr
namespace Go.Proofs.YtnidmlngkpkmlaaG
set_option linter.unusedVariables false
set_option linter.unusedSimpArgs false
open Go.RowKit Go.Proofs.YtnidmlngkpkmlaaK Go.Proofs.YtnidmlngkpkmlaaT Go.Proofs.YtnidmlngkpkmlaaL

def inP (g : Graph) (ib : List Bool) (a : Nat) (x : Int) : Bool := memF g ib (a : Int) && memF g ib x
def withinR (g : Graph) (ib : List Bool) : Graph := (List.range g.length).map fun a => (g.getD a []).filter (inP g ib a)
theorem withinR_len (g : Graph) (ib : List Bool) : (withinR g ib).length = g.length := by simp [withinR]
theorem withinR_at {g : Graph} {ib : List Bool} {a : Nat} {u : List Int} (hu : g[a]? = some u) : (withinR g ib)[a]? = some (u.filter (inP g ib a)) := by
  have ha := (List.getElem?_eq_some_iff.1 hu).1
  simp [withinR, ha]
  rw [(List.getElem?_eq_some_iff.1 hu).2]
theorem take_at {α : Type} {l : List α} {a : Nat} {u : α} (hu : l[a]? = some u) : l.take a ++ [u] = l.take (a + 1) := by
  obtain ⟨ha, rfl⟩ := List.getElem?_eq_some_iff.1 hu
  exact (List.take_succ_eq_append_getElem ha).symm
theorem withinR_small {g : Graph} {ib : List Bool} (h : SmallG g) : SmallG (withinR g ib) := by
  refine ⟨by rw [withinR_len]; exact h.1, fun l hl => ?_⟩
  obtain ⟨a, ha, rfl⟩ := List.mem_map.1 hl
  refine Nat.le_trans (List.length_filter_le _ _) ?_
  have ha := List.mem_range.1 ha
  rw [getD_at (List.getElem?_eq_getElem ha)]
  exact h.2 _ (List.getElem_mem ha)

set_option maxRecDepth 100000 in
set_option maxHeartbeats 1000000 in
theorem refWithin {B : Base} {w : World} (hS : St B [] w) (g : Graph) (A : Option Addr) (cp : Nat) (hC : kII.C B.e A g) (hsm : SmallG g) (ib : List Bool) (A1 : Option Addr) (cp1 : Nat) (hC1 : Kd.bool.C B.e A1 ib) (W0 : World) :
    CallsIn Fence.wide 0 Try.prog 58 #[.slice A g.length cp, .slice A1 ib.length cp1] w
      (Ret B (fun z : Option Addr × Nat × List Hdr => z.2.2.length = g.length) (fun z => .slice z.1 g.length z.2.1) (fun z => [row kHdr W0 50 (.slice z.1 g.length z.2.1) z.2.2, bun (rws (Kd.int .i64) W0 3 z.2.2 (withinR g ib))])) := by
  have hn := hsm.1
  (refine enter Try.func58 rfl rfl hS ?_; simp only [List.zipIdx_cons, List.zipIdx_nil, List.map_cons, List.map_nil, Nat.reduceAdd, Nat.zero_add])
  refine wSeq ?_
  refine wRegion' ?_
  refine oAssign rfl ?_
  refine oNil ?_
  refine thn_n ?_
  refine wSeq ?_
  refine wRegion' ?_
  refine oAssign rfl ?_
  refine oNil ?_
  refine thn_n ?_
  refine wSeq ?_
  refine wSeq ?_
  refine wRegion' ?_
  refine oAssign rfl ?_
  refine oNil ?_
  refine thn_n ?_
  refine wBlock ?_
  refine wLoop (ι := Nat × List Hdr × Option Addr × Nat) (fun z => [(0, .slice A g.length cp), (1, .slice A1 ib.length cp1), (5, .slice z.2.2.1 z.1 z.2.2.2), (6, .int .i64 (z.1 : Int))]) (fun z => [row kHdr W0 50 (.slice z.2.2.1 z.1 z.2.2.2) z.2.1, bun (rws (Kd.int .i64) W0 3 z.2.1 ((withinR g ib).take z.1))]) (fun z => z.1 ≤ g.length ∧ z.2.1.length = z.1) (fun z => g.length - z.1) (0, [], none, 0) ?_ (by repeat (first | exact trivial | refine And.intro rfl ?_)) (Leads.nilrow.trans (bun_nil.trans (Leads.has (by repeat' (first | exact Has.nil | exact Pick.here | apply Has.cons | apply Pick.there))))) ?_
  ·
    exact ⟨Nat.zero_le _, rfl⟩
  ·
    rintro ⟨a, hs, A5, c5⟩ ⟨ha, hl⟩
    dsimp only at ha hl
    have hxl : ((withinR g ib).take a).length = a := by rw [List.length_take, withinR_len]; omega
    dsimp only
    refine wSeq ?_
    refine wSeq ?_
    refine wRegion' ?_
    refine oMove rfl ?_
    refine oMove rfl ?_
    refine oLenS rfl rfl ?_
    refine oLss rfl rfl ?_
    refine oNil ?_
    refine thn_n ?_
    first | refine wCond rfl (fun h12 => ?_) (fun h12 => ?_) | refine wCondB rfl (fun h12 => ?_) (fun h12 => ?_)
    ·
      refine wSkip ?_
      refine thn_n ?_
      refine wSeq ?_
      refine wBlock ?_
      refine wSeq ?_
      refine wRegion' ?_
      refine oAssign rfl ?_
      refine oNil ?_
      refine thn_n ?_
      refine wSeq ?_
      refine wSeq ?_
      refine wRegion' ?_
      refine oAssign rfl ?_
      refine oNil ?_
      refine thn_n ?_
      refine wBlock ?_
      refine wLoop (ι := Nat × Option Addr × Nat) (fun z => [(0, .slice A g.length cp), (1, .slice A1 ib.length cp1), (5, .slice A5 a c5), (6, .int .i64 (a : Int)), (7, .slice z.2.1 (((g.getD a []).take z.1).filter (inP g ib a)).length z.2.2), (8, .int .i64 (z.1 : Int))]) (fun z => [row kHdr W0 50 (.slice A5 a c5) hs, bun (rws (Kd.int .i64) W0 3 hs ((withinR g ib).take a)), row (Kd.int .i64) W0 3 (.slice z.2.1 (((g.getD a []).take z.1).filter (inP g ib a)).length z.2.2) (((g.getD a []).take z.1).filter (inP g ib a))]) (fun z => z.1 ≤ (g.getD a []).length) (fun z => (g.getD a []).length - z.1) (0, none, 0) ?_ (by repeat (first | exact trivial | refine And.intro rfl ?_)) (Leads.nilrow.trans (Leads.has (by repeat' (first | exact Has.nil | exact Pick.here | apply Has.cons | apply Pick.there)))) ?_
      ·
        exact Nat.zero_le _
      ·
        rintro ⟨i, A7, c7⟩ hi
        dsimp only at hi
        dsimp only
        refine wSeq ?_
        refine wSeq ?_
        refine wRegion' ?_
        refine oMove rfl ?_
        refine oMove rfl ?_
        refine oMove rfl ?_
        refine oIdx rfl rfl (hC) rfl (by omega) rfl rfl (fun e18 u18 cs18 hu18 hk18 hc18 => ?_)
        obtain ⟨A0, c0, rfl, hle18, g0⟩ := hk18
        have hbig := hsm.2 _ (List.mem_of_getElem? hu18)
        rw [getD_at hu18] at hi ⊢
        have hfl : ((u18.take i).filter (inP g ib a)).length ≤ 1000 := Nat.le_trans (List.length_filter_le _ _) (by rw [List.length_take]; omega)
        first | refine oLdX rfl hc18 rfl rfl ?_ | refine oLdXA rfl hc18 rfl (by repeat (first | exact SubL.done | apply SubL.take | apply SubL.drop)) ?_ | (refine oLdR1 rfl (by repeat (first | exact Pick.here | apply Pick.there)) (by omega) rfl (fun u19 hu19 => ?_))
        refine oLenS rfl rfl ?_
        refine oLss rfl rfl ?_
        refine oNil ?_
        refine thn_n ?_
        first | refine wCond rfl (fun h21 => ?_) (fun h21 => ?_) | refine wCondB rfl (fun h21 => ?_) (fun h21 => ?_)
        ·
          have hft := filter_take (P := inP g ib a) (List.getElem?_eq_getElem (show i < u18.length by omega))
          refine wSkip ?_
          refine thn_n ?_
          refine wSeq ?_
          refine wBlock ?_
          refine wSeq ?_
          refine wRegion' ?_
          refine oMove rfl ?_
          refine oMove rfl ?_
          refine oMove rfl ?_
          (refine oCall rfl (by kernel_rfl) (fun w hS => frame hS (by repeat' (first | exact Split.nil | exact Pick.here | apply Split.cons | apply Pick.there)) (fun B' hB hS' => member_any hS' A cp g A1 cp1 ib (Kd.C_grow hB hC1) (a : Int))) ?_; rintro ⟨⟩ -)
          refine oMove rfl ?_
          first | refine oSplit (t := 28) rfl (fun h28 => ?_) (fun h28 => ?_) | refine oSplitB (t := 28) rfl (fun h28 => ?_) (fun h28 => ?_)
          ·
            refine oWant rfl rfl ?_
            refine oMove rfl ?_
            refine oWant rfl rfl ?_
            refine oMove rfl ?_
            refine oWant rfl rfl ?_
            refine oMove rfl ?_
            refine oWant rfl rfl ?_
            refine oMove rfl ?_
            refine oWant rfl rfl ?_
            refine oIdx rfl rfl (hC) rfl (by omega) rfl rfl (fun e33 u33 cs33 hu33 hk33 hc33 => ?_)
            obtain ⟨A0, c0, rfl, hle33, g0⟩ := hk33
            have hbig := hsm.2 _ (List.mem_of_getElem? hu33)
            obtain rfl := Option.some.inj (hu18.symm.trans hu33)
            refine oWant rfl rfl ?_
            first | refine oLdX rfl hc33 rfl rfl ?_ | refine oLdXA rfl hc33 rfl (by repeat (first | exact SubL.done | apply SubL.take | apply SubL.drop)) ?_ | (refine oLdR1 rfl (by repeat (first | exact Pick.here | apply Pick.there)) (by omega) rfl (fun u34 hu34 => ?_))
            refine oWant rfl rfl ?_
            refine oMove rfl ?_
            refine oWant rfl rfl ?_
            refine oIdx rfl rfl (g0) rfl (by omega) rfl rfl (fun e36 u36 cs36 hu36 hk36 hc36 => ?_)
            obtain rfl := hk36
            refine oWant rfl rfl ?_
            first | refine oLdX rfl hc36 rfl rfl ?_ | refine oLdXA rfl hc36 rfl (by repeat (first | exact SubL.done | apply SubL.take | apply SubL.drop)) ?_ | (refine oLdR1 rfl (by repeat (first | exact Pick.here | apply Pick.there)) (by omega) rfl (fun u37 hu37 => ?_))
            refine oWant rfl rfl ?_
            (refine oCall rfl (by kernel_rfl) (fun w hS => frame hS (by repeat' (first | exact Split.nil | exact Pick.here | apply Split.cons | apply Pick.there)) (fun B' hB hS' => member_any hS' A cp g A1 cp1 ib (Kd.C_grow hB hC1) u36)) ?_; rintro ⟨⟩ -)
            refine oPickT rfl rfl ?_
            refine oNil ?_
            refine thn_n ?_
            first | refine wCond rfl (fun h39 => ?_) (fun h39 => ?_) | refine wCondB rfl (fun h39 => ?_) (fun h39 => ?_)
            ·
              refine wRegion' ?_
              refine oMove rfl ?_
              refine oMove rfl ?_
              refine oMove rfl ?_
              refine oIdx rfl rfl (hC) rfl (by omega) rfl rfl (fun e43 u43 cs43 hu43 hk43 hc43 => ?_)
              obtain ⟨A0, c0, rfl, hle43, g0⟩ := hk43
              have hbig := hsm.2 _ (List.mem_of_getElem? hu43)
              obtain rfl := Option.some.inj (hu18.symm.trans hu43)
              first | refine oLdX rfl hc43 rfl rfl ?_ | refine oLdXA rfl hc43 rfl (by repeat (first | exact SubL.done | apply SubL.take | apply SubL.drop)) ?_ | (refine oLdR1 rfl (by repeat (first | exact Pick.here | apply Pick.there)) (by omega) rfl (fun u44 hu44 => ?_))
              refine oMove rfl ?_
              refine oIdx rfl rfl (g0) rfl (by omega) rfl rfl (fun e46 u46 cs46 hu46 hk46 hc46 => ?_)
              obtain rfl := hk46
              obtain rfl := Option.some.inj (hu36.symm.trans hu46)
              rw [if_pos (by rw [(List.getElem?_eq_some_iff.1 hu36).2]; simp [inP, h28, h39]), (List.getElem?_eq_some_iff.1 hu36).2] at hft
              first | refine oLdX rfl hc46 rfl rfl ?_ | refine oLdXA rfl hc46 rfl (by repeat (first | exact SubL.done | apply SubL.take | apply SubL.drop)) ?_ | (refine oLdR1 rfl (by repeat (first | exact Pick.here | apply Pick.there)) (by omega) rfl (fun u47 hu47 => ?_))
              refine oBuildSlice1 rfl rfl rfl rfl rfl (by first | exact CellsOf.agg | exact CellsOf.one rfl) rfl (fun b48 => ?_)
              refine oApp1 u36 rfl rfl rfl rfl (by repeat (first | exact Pick.here | apply Pick.there)) (by repeat (first | exact Pick.here | apply Pick.there)) rfl (by omega) rfl (fun g49 cp49 => ?_)
              rw [show ((u18.take i).filter (inP g ib a)).length + 1 = ((u18.take (i + 1)).filter (inP g ib a)).length by rw [hft, List.length_append]; rfl, ← hft]
              refine oAssign rfl ?_
              refine oNil ?_
              refine blk_n ?_
              refine thn_n ?_
              refine wRegion' ?_
              refine oMove rfl ?_
              refine oSucc rfl rfl (by omega) ?_
              refine oAssign rfl ?_
              refine oNil ?_
              refine thn_n ?_
              exact ⟨rfl, (i + 1, some ⟨g49, 0, none⟩, cp49), by show i + 1 ≤ _; omega, by show u18.length - (i + 1) < u18.length - i; omega, (by repeat (first | exact trivial | refine And.intro rfl ?_)), (Leads.has (by repeat' (first | exact Has.nil | exact Pick.here | apply Has.cons | apply Pick.there)))⟩
            ·
              have hft' : (u18.take (i + 1)).filter (inP g ib a) = (u18.take i).filter (inP g ib a) := by rw [hft, if_neg (by rw [(List.getElem?_eq_some_iff.1 hu36).2]; simp [inP, h39]), List.append_nil]
              refine wSkip ?_
              refine blk_n ?_
              refine thn_n ?_
              refine wRegion' ?_
              refine oMove rfl ?_
              refine oSucc rfl rfl (by omega) ?_
              refine oAssign rfl ?_
              refine oNil ?_
              refine thn_n ?_
              exact ⟨rfl, (i + 1, A7, c7), by show i + 1 ≤ _; omega, by show u18.length - (i + 1) < u18.length - i; omega, by dsimp only; rw [hft']; exact (by repeat (first | exact trivial | refine And.intro rfl ?_)), by dsimp only; rw [hft']; exact (Leads.has (by repeat' (first | exact Has.nil | exact Pick.here | apply Has.cons | apply Pick.there)))⟩
          ·
            have hft' : (u18.take (i + 1)).filter (inP g ib a) = (u18.take i).filter (inP g ib a) := by rw [hft, if_neg (by simp [inP, h28]), List.append_nil]
            refine oSkip rfl rfl rfl rfl ?_
            refine oSkip rfl rfl rfl rfl ?_
            refine oSkip rfl rfl rfl rfl ?_
            refine oSkip rfl rfl rfl rfl ?_
            refine oSkip rfl rfl rfl rfl ?_
            refine oSkip rfl rfl rfl rfl ?_
            refine oSkip rfl rfl rfl rfl ?_
            refine oSkip rfl rfl rfl rfl ?_
            refine oSkip rfl rfl rfl rfl ?_
            refine oSkip rfl rfl rfl rfl ?_
            refine oPickF rfl rfl ?_
            refine oNil ?_
            refine thn_n ?_
            refine wCondF rfl ?_
            refine wSkip ?_
            refine blk_n ?_
            refine thn_n ?_
            refine wRegion' ?_
            refine oMove rfl ?_
            refine oSucc rfl rfl (by omega) ?_
            refine oAssign rfl ?_
            refine oNil ?_
            refine thn_n ?_
            exact ⟨rfl, (i + 1, A7, c7), by show i + 1 ≤ _; omega, by show u18.length - (i + 1) < u18.length - i; omega, by dsimp only; rw [hft']; exact (by repeat (first | exact trivial | refine And.intro rfl ?_)), by dsimp only; rw [hft']; exact (Leads.has (by repeat' (first | exact Has.nil | exact Pick.here | apply Has.cons | apply Pick.there)))⟩
        ·
          obtain rfl : i = u18.length := by omega
          rw [List.take_length]
          refine wExit ?_
          refine thn_x ?_
          refine thn_x ?_
          refine blk_x ?_
          refine thn_n ?_
          refine wRegion' ?_
          refine oMove rfl ?_
          refine oMove rfl ?_
          refine oBuildSlice1 rfl rfl rfl rfl rfl (by first | exact CellsOf.agg | exact CellsOf.one rfl) rfl (fun b52 => ?_)
          refine oApp1 (kd := kHdr) ((A7, (u18.filter (inP g ib a)).length, c7) : Hdr) rfl rfl rfl rfl (by repeat (first | exact Pick.here | apply Pick.there)) (by repeat (first | exact Pick.here | apply Pick.there)) rfl (by omega) rfl (fun g53 cp53 => ?_)
          refine oSnoc (kd := Kd.int .i64) (W := W0) (ei := 3) (u := (A7, (u18.filter (inP g ib a)).length, c7)) (l := u18.filter (inP g ib a)) (hs := hs) (xss := (withinR g ib).take a) (by repeat (first | exact Pick.here | apply Pick.there)) (by repeat (first | exact Pick.here | apply Pick.there)) (by omega) ?_
          rw [take_at (withinR_at hu18), hl]
          refine oAssign rfl ?_
          refine oNil ?_
          refine blk_n ?_
          refine thn_n ?_
          refine wRegion' ?_
          refine oMove rfl ?_
          refine oSucc rfl rfl (by omega) ?_
          refine oAssign rfl ?_
          refine oNil ?_
          refine thn_n ?_
          exact ⟨rfl, (a + 1, hs ++ [(A7, (u18.filter (inP g ib a)).length, c7)], some ⟨g53, 0, none⟩, cp53), ⟨by show a + 1 ≤ _; omega, by show (hs ++ _).length = a + 1; rw [List.length_append, hl]; rfl⟩, by show g.length - (a + 1) < g.length - a; omega, (by repeat (first | exact trivial | refine And.intro rfl ?_)), (Leads.has (by repeat' (first | exact Has.nil | exact Pick.here | apply Has.cons | apply Pick.there)))⟩
    ·
      obtain rfl : a = g.length := by omega
      rw [show (withinR g ib).take g.length = withinR g ib by rw [← withinR_len g ib, List.take_length]]
      refine wExit ?_
      refine thn_x ?_
      refine thn_x ?_
      refine blk_x ?_
      refine thn_n ?_
      refine wSeq ?_
      refine wRegion' ?_
      refine oMove rfl ?_
      refine oAssign rfl ?_
      refine oNil ?_
      refine thn_n ?_
      refine wRet ?_
      refine fin_r ?_
      refine ⟨rfl, _, (ResL.cons (ResR.tmp rfl) ResL.nil), ?_⟩
      exact ⟨(A5, c5, hs), hl, rfl, (Leads.has (by repeat' (first | exact Has.nil | exact Pick.here | apply Has.cons | apply Pick.there)))⟩
end Go.Proofs.YtnidmlngkpkmlaaG
