/-
  The reference's Order and Back.
-/
import Derived.Test.YtnidmlngkpkmlaaGk
namespace Go.Proofs.YtnidmlngkpkmlaaG
set_option linter.unusedVariables false
set_option linter.unusedSimpArgs false
open Go.RowKit Go.Proofs.YtnidmlngkpkmlaaK Go.Proofs.YtnidmlngkpkmlaaT Go.Proofs.YtnidmlngkpkmlaaL

def memTo (g : Graph) (ib : List Bool) (i : Nat) : List Bool := (List.range g.length).map fun a => if a < i then memF g ib (a : Int) else false
theorem memTo_len (g : Graph) (ib : List Bool) (i : Nat) : (memTo g ib i).length = g.length := by simp [memTo]
theorem memTo_zero (g : Graph) (ib : List Bool) : memTo g ib 0 = List.replicate g.length false := by
  apply List.ext_getElem?
  intro i
  unfold memTo
  rw [List.getElem?_map, List.getElem?_replicate]
  by_cases h : i < g.length <;> simp [h]
theorem memTo_succ {g : Graph} {ib : List Bool} {a : Nat} (h : a < g.length) : (memTo g ib a).set a (memF g ib (a : Int)) = memTo g ib (a + 1) := by
  apply List.ext_getElem?
  intro i
  rw [List.getElem?_set]
  by_cases e : a = i
  · subst e; simp [memTo, h]
  · rw [if_neg e]
    unfold memTo
    rw [List.getElem?_map, List.getElem?_map]
    cases hr : (List.range g.length)[i]? with
    | none => rfl
    | some j =>
      obtain ⟨hi, rfl⟩ := List.getElem?_eq_some_iff.1 hr
      simp only [List.getElem_range, Option.map_some, Option.some.injEq]
      by_cases h1 : i < a
      · rw [if_pos h1, if_pos (by omega)]
      · rw [if_neg h1, if_neg (by omega)]
theorem memTo_all (g : Graph) (ib : List Bool) : memTo g ib g.length = memL g ib := by
  apply List.ext_getElem?
  intro i
  by_cases hi : i < g.length
  · have h1 := List.getElem?_eq_getElem (show i < (memL g ib).length by rw [memL_len]; exact hi)
    rw [h1, memL_at h1]
    simp [memTo, hi]
  · rw [List.getElem?_eq_none (by rw [memTo_len]; omega), List.getElem?_eq_none (by rw [memL_len]; omega)]
theorem trues_mem {g : Graph} {ib : List Bool} {a : Nat} (h : a < g.length) : trues (memTo g ib (a + 1)) = trues (memTo g ib a) + if memF g ib (a : Int) then 1 else 0 := by
  rw [← memTo_succ h]
  have h0 : (memTo g ib a)[a]? = some false := by simp [memTo, h]
  cases hm : memF g ib (a : Int) with
  | false =>
    have : (memTo g ib a).set a false = memTo g ib a := by
      obtain ⟨hj, he⟩ := List.getElem?_eq_some_iff.1 h0
      rw [← he]; exact List.set_getElem_self hj
    rw [this]; simp
  | true =>
    have h1 := trues_set (left := (memTo g ib a).set a true) (a := a) (by simp [memTo_len, h])
    rw [List.set_set] at h1
    have : (memTo g ib a).set a false = memTo g ib a := by
      obtain ⟨hj, he⟩ := List.getElem?_eq_some_iff.1 h0
      rw [← he]; exact List.set_getElem_self hj
    rw [this] at h1
    simp; omega
theorem trues_zero (g : Graph) (ib : List Bool) : trues (memTo g ib 0) = 0 := by
  rw [memTo_zero]
  unfold trues
  rw [List.filter_eq_nil_iff.2 (by intro a ha; rw [(List.mem_replicate.1 ha).2]; simp)]
  rfl
theorem trues_lt {left : List Bool} {a : Nat} (h : left[a]? = some true) : trues (left.set a false) < trues left := by have := trues_set h; omega
theorem trues_pos {left : List Bool} (h : 0 < trues left) : ∃ a : Nat, left[a]? = some true := by
  unfold trues at h
  obtain ⟨x, hx⟩ := List.exists_mem_of_length_pos h
  obtain ⟨h1, h2⟩ := List.mem_filter.1 hx
  simp at h2; subst h2
  exact List.mem_iff_getElem?.1 h1
theorem nxt_trues {ed : Nat → Nat → Bool} {left : List Bool} (h : trues left = 0) : nxt ed left = none := by
  apply nxt_none
  intro a ha
  cases hf : fre ed left a with
  | false => rfl
  | true => have := trues_set (fre_left hf); omega
/-- The least free one below a. -/
def nxTo (ed : Nat → Nat → Bool) (left : List Bool) (a : Nat) : Option Nat := (List.range a).find? (fre ed left)
theorem nxTo_succ (ed : Nat → Nat → Bool) (left : List Bool) (a : Nat) : nxTo ed left (a + 1) = (nxTo ed left a).or (if fre ed left a then some a else none) := by
  unfold nxTo
  rw [List.range_succ, List.find?_append]
  cases h : fre ed left a <;> simp [h]
theorem nxTo_all {ed : Nat → Nat → Bool} {left : List Bool} {n : Nat} (h : left.length = n) : nxTo ed left n = nxt ed left := by subst h; rfl
def nxV (o : Option Nat) : Int := match o with | some a => (a : Int) | none => -1
/-- Whether nobody below b is ahead of a. -/
def freTo (ed : Nat → Nat → Bool) (left : List Bool) (a b : Nat) : Bool := (List.range b).all fun b => !(left.getD b false) || !(ed b a)
theorem freTo_succ (ed : Nat → Nat → Bool) (left : List Bool) (a b : Nat) : freTo ed left a (b + 1) = (freTo ed left a b && (!(left.getD b false) || !(ed b a))) := by
  unfold freTo
  rw [List.range_succ, List.all_append]; simp
theorem freTo_mono {ed : Nat → Nat → Bool} {left : List Bool} {a b b' : Nat} (h : freTo ed left a b = false) (hb : b ≤ b') : freTo ed left a b' = false := by
  unfold freTo at *
  rw [List.all_eq_false] at *
  obtain ⟨x, hx, hp⟩ := h
  exact ⟨x, List.mem_range.2 (by have := List.mem_range.1 hx; omega), hp⟩
def frTo (ed : Nat → Nat → Bool) (left : List Bool) (a b : Nat) : Bool := (left.getD a false && (nxTo ed left a).isNone) && freTo ed left a b
theorem frTo_zero (ed : Nat → Nat → Bool) (left : List Bool) (a : Nat) : frTo ed left a 0 = (left.getD a false && (nxTo ed left a).isNone) := by simp [frTo, freTo]
theorem frTo_succ {ed : Nat → Nat → Bool} {left : List Bool} {a b : Nat} (h : frTo ed left a b = true) : frTo ed left a (b + 1) = (!(left.getD b false) || !(ed b a)) := by
  unfold frTo at *
  rw [Bool.and_eq_true] at h
  rw [freTo_succ, h.1, h.2]; simp
theorem frTo_mono {ed : Nat → Nat → Bool} {left : List Bool} {a b b' : Nat} (h : frTo ed left a b = false) (hb : b ≤ b') : frTo ed left a b' = false := by
  unfold frTo at *
  rw [Bool.and_eq_false_iff] at *
  rcases h with h | h
  · exact .inl h
  · exact .inr (freTo_mono h hb)
theorem frTo_all {ed : Nat → Nat → Bool} {left : List Bool} {a n : Nat} (h : left.length = n) : frTo ed left a n = ((nxTo ed left a).isNone && fre ed left a) := by
  subst h
  show ((left.getD a false && (nxTo ed left a).isNone) && _) = ((nxTo ed left a).isNone && (left.getD a false && _))
  unfold freTo
  cases left.getD a false <;> cases (nxTo ed left a).isNone <;> simp
theorem nxTo_T {ed : Nat → Nat → Bool} {left : List Bool} {a n : Nat} (hl : left.length = n) (h : frTo ed left a n = true) : nxTo ed left (a + 1) = some a := by
  rw [frTo_all hl, Bool.and_eq_true] at h
  rw [nxTo_succ, if_pos h.2, Option.isNone_iff_eq_none.1 h.1]; rfl
theorem nxTo_F {ed : Nat → Nat → Bool} {left : List Bool} {a n : Nat} (hl : left.length = n) (h : frTo ed left a n = false) : nxTo ed left (a + 1) = nxTo ed left a := by
  rw [frTo_all hl] at h
  rw [nxTo_succ]
  cases hn : nxTo ed left a with
  | some x => rfl
  | none => rw [hn] at h; simp at h; rw [if_neg (by rw [h]; simp)]; rfl
theorem nxV_neg {o : Option Nat} : decide (nxV o < 0) = o.isNone := by
  cases o with
  | none => rfl
  | some a => show decide ((a : Int) < 0) = false; rw [decide_eq_false_iff_not]; omega
theorem ord_bad {g : Graph} {ib : List Bool} {out : List Nat} {left : List Bool} (h : Run (edR g ib) (memL g ib) out left) (hn : nxt (edR g ib) left = none) (hl : out.length < trues (memL g ib)) : okO g ib = false ∧ ordL g ib = [] := by
  have h1 := h.done hn
  have h2 : okO g ib = false := by unfold okO seqN; rw [← h1]; exact decide_eq_false (by omega)
  exact ⟨h2, by unfold ordL; rw [h2]; rfl⟩
theorem ord_done {g : Graph} {ib : List Bool} {out : List Nat} {left : List Bool} (h : Run (edR g ib) (memL g ib) out left) (hl : ¬ out.length < trues (memL g ib)) : okO g ib = true ∧ ordL g ib = out.map Int.ofNat := by
  have h0 := h.len
  have h1 := h.done (nxt_trues (by omega))
  have h2 : okO g ib = true := by unfold okO seqN; rw [← h1]; exact decide_eq_true (by omega)
  exact ⟨h2, by unfold ordL; rw [h2, if_pos rfl]; unfold seqN; rw [← h1]⟩

set_option maxRecDepth 100000 in
set_option maxHeartbeats 2000000 in
theorem refOrder {B : Base} {w : World} (hS : St B [] w) (g : Graph) (A : Option Addr) (cp : Nat) (hC : kII.C B.e A g) (hsm : SmallG g) (ib : List Bool) (A1 : Option Addr) (cp1 : Nat) (hC1 : Kd.bool.C B.e A1 ib) (W0 : World) :
    CallsIn Fence.wide 0 Try.prog 36 #[.slice A g.length cp, .slice A1 ib.length cp1] w
      (Ret B (fun _ : Option Addr × Nat => True) (fun z => .tuple #[.slice z.1 (ordL g ib).length z.2, .bool (okO g ib)]) (fun z => [row (Kd.int .i64) W0 3 (.slice z.1 (ordL g ib).length z.2) (ordL g ib)])) := by
  have hn := hsm.1
  have hrl := withinR_len g ib
  have hml := memL_len g ib
  (refine enter Try.func36 rfl rfl hS ?_; simp only [List.zipIdx_cons, List.zipIdx_nil, List.map_cons, List.map_nil, Nat.reduceAdd, Nat.zero_add])
  refine wSeq ?_
  refine wRegion' ?_
  refine oAssign rfl ?_
  refine oAssign rfl ?_
  refine oNil ?_
  refine thn_n ?_
  refine wSeq ?_
  refine wRegion' ?_
  refine oMove rfl ?_
  refine oMove rfl ?_
  (refine oCall rfl (by kernel_rfl) (fun w hS => frame hS (by repeat' (first | exact Split.nil | exact Pick.here | apply Split.cons | apply Pick.there)) (fun B' hB hS' => refWithin hS' g A cp (Kd.C_grow hB hC) hsm ib A1 cp1 (Kd.C_grow hB hC1) B.e)) ?_; rintro ⟨A10, c10, hs10⟩ hl10)
  dsimp only at hl10
  refine oSet (t := 17) (v' := .slice A10 (withinR g ib).length c10) rfl (by rw [hrl]) ?_
  refine oAssign rfl ?_
  refine oNil ?_
  refine thn_n ?_
  refine wFreeze [row kHdr B.e 50 (.slice A10 g.length c10) hs10, bun (rws (Kd.int .i64) B.e 3 hs10 (withinR g ib))] (by repeat' (first | exact Split.nil | exact Pick.here | apply Split.cons | apply Pick.there)) (fun B1 hB1 hq1 => ?_)
  have hCw := grid_C (hq1 _ _ (by repeat (first | exact Pick.here | apply Pick.there))) (hq1 _ _ (by repeat (first | exact Pick.here | apply Pick.there))) (by rw [hrl]; exact hl10) hB1
  have hC := Kd.C_grow hB1 hC
  have hC1 := Kd.C_grow hB1 hC1
  refine wSeq ?_
  refine wRegion' ?_
  refine oMove rfl ?_
  refine oLenS rfl rfl ?_
  refine oMake (kd := Kd.bool) (W := W0) false rfl rfl rfl rfl rfl rfl (by omega) rfl (fun g20 => ?_)
  refine oAssign rfl ?_
  refine oNil ?_
  refine thn_n ?_
  refine wSeq ?_
  refine wRegion' ?_
  refine oAssign rfl ?_
  refine oSet (t := 8) (v' := .int .i64 (trues (memTo g ib 0) : Int)) rfl (by rw [trues_zero]; rfl) ?_
  refine oNil ?_
  refine thn_n ?_
  refine wSeq ?_
  refine wSeq ?_
  refine wRegion' ?_
  refine oAssign rfl ?_
  refine oNil ?_
  refine thn_n ?_
  refine wBlock ?_
  refine wLoop (ι := Nat) (fun i => [(0, .slice A g.length cp), (1, .slice A1 ib.length cp1), (6, .slice A10 (withinR g ib).length c10), (7, .slice (some ⟨g20, 0, none⟩) g.length g.length), (8, .int .i64 (trues (memTo g ib i) : Int)), (9, .int .i64 (i : Int))]) (fun i => [row Kd.bool W0 4 (.slice (some ⟨g20, 0, none⟩) g.length g.length) (memTo g ib i)]) (fun i => i ≤ g.length) (fun i => g.length - i) 0 ?_ (by repeat (first | exact trivial | refine And.intro rfl ?_)) (by rw [memTo_zero]; exact (Leads.has (by repeat' (first | exact Has.nil | exact Pick.here | apply Has.cons | apply Pick.there)))) ?_
  ·
    exact Nat.zero_le _
  ·
    rintro i hi
    have hmt := memTo_len g ib i
    dsimp only
    refine wSeq ?_
    refine wSeq ?_
    refine wRegion' ?_
    refine oMove rfl ?_
    refine oMove rfl ?_
    refine oLenS rfl rfl ?_
    refine oLss rfl rfl ?_
    refine oNil ?_
    refine thn_n ?_
    first | refine wCond rfl (fun h24 => ?_) (fun h24 => ?_) | refine wCondB rfl (fun h24 => ?_) (fun h24 => ?_)
    ·
      refine wSkip ?_
      refine thn_n ?_
      refine wSeq ?_
      refine wBlock ?_
      refine wSeq ?_
      refine wRegion' ?_
      refine oMove rfl ?_
      refine oMove rfl ?_
      refine oMove rfl ?_
      refine oMove rfl ?_
      refine oMove rfl ?_
      (refine oCall rfl (by kernel_rfl) (fun w hS => frame hS (by repeat' (first | exact Split.nil | exact Pick.here | apply Split.cons | apply Pick.there)) (fun B' hB hS' => member_any hS' A cp g A1 cp1 ib (Kd.C_grow hB hC1) (i : Int))) ?_; rintro ⟨⟩ -)
      refine oIdxR rfl rfl (by repeat (first | exact Pick.here | apply Pick.there)) (by omega) rfl rfl (fun g33 hg33 => ?_)
      first | subst hg33 | (injection hg33 with hg33; injection hg33 with hg33; subst hg33)
      refine oStR _ rfl rfl rfl rfl (by repeat (first | exact Pick.here | apply Pick.there)) (by first | omega | (simp only [List.length_set]; omega)) ?_
      refine oNil ?_
      refine thn_n ?_
      refine wSeq ?_
      refine wRegion' ?_
      refine oMove rfl ?_
      refine oMove rfl ?_
      refine oIdxR rfl rfl (by repeat (first | exact Pick.here | apply Pick.there)) (by first | omega | (rw [List.length_set, memTo_len]; omega)) rfl rfl (fun g36 hg36 => ?_)
      first | subst hg36 | (injection hg36 with hg36; injection hg36 with hg36; subst hg36)
      first | refine oLdX rfl hc36 rfl rfl ?_ | refine oLdXA rfl hc36 rfl (by repeat (first | exact SubL.done | apply SubL.take | apply SubL.drop)) ?_ | (refine oLdR1 rfl (by repeat (first | exact Pick.here | apply Pick.there)) (by first | omega | (rw [List.length_set, memTo_len]; omega)) rfl (fun u37 hu37 => ?_))
      have hu37 : u37 = memF g ib (i : Int) := by
        rw [memTo_succ (by omega)] at hu37
        simp [memTo, show i < g.length by omega] at hu37
        exact hu37.symm
      rw [memTo_succ (by omega)]
      refine oNil ?_
      refine thn_n ?_
      first | refine wCond rfl (fun h37 => ?_) (fun h37 => ?_) | refine wCondB rfl (fun h37 => ?_) (fun h37 => ?_)
      ·
        refine wRegion' ?_
        refine oMove rfl ?_
        refine oSucc rfl rfl (by have := trues_le (memTo g ib i); rw [memTo_len] at this; omega) ?_
        refine oAssign rfl ?_
        skip
        refine oNil ?_
        refine blk_n ?_
        refine thn_n ?_
        refine wRegion' ?_
        refine oMove rfl ?_
        refine oSucc rfl rfl (by omega) ?_
        refine oAssign rfl ?_
        refine oNil ?_
        refine thn_n ?_
        exact ⟨rfl, i + 1, by omega, by omega, by rw [trues_mem (by omega), if_pos (by rw [← hu37]; exact h37)]; exact (by repeat (first | exact trivial | refine And.intro rfl ?_)), (Leads.has (by repeat' (first | exact Has.nil | exact Pick.here | apply Has.cons | apply Pick.there)))⟩
      ·
        refine wSkip ?_
        refine blk_n ?_
        refine thn_n ?_
        refine wRegion' ?_
        refine oMove rfl ?_
        refine oSucc rfl rfl (by omega) ?_
        refine oAssign rfl ?_
        refine oNil ?_
        refine thn_n ?_
        exact ⟨rfl, i + 1, by omega, by omega, by rw [trues_mem (by omega), if_neg (by rw [← hu37, h37]; simp), Nat.add_zero]; exact (by repeat (first | exact trivial | refine And.intro rfl ?_)), (Leads.has (by repeat' (first | exact Has.nil | exact Pick.here | apply Has.cons | apply Pick.there)))⟩
    ·
      obtain rfl : i = g.length := by omega
      rw [memTo_all]
      refine wExit ?_
      refine thn_x ?_
      refine thn_x ?_
      refine blk_x ?_
      refine thn_n ?_
      refine wSeq ?_
      refine wRegion' ?_
      refine oAssign rfl ?_
      refine oNil ?_
      refine thn_n ?_
      refine wSeq ?_
      refine wBlock ?_
      refine wLoop (ι := (List Nat × List Bool) × (Option Addr × Nat)) (fun z => [(0, .slice A g.length cp), (6, .slice A10 (withinR g ib).length c10), (7, .slice (some ⟨g20, 0, none⟩) g.length g.length), (8, .int .i64 (trues (memL g ib) : Int)), (10, .slice z.2.1 (z.1.1.map Int.ofNat).length z.2.2)]) (fun z => [row Kd.bool W0 4 (.slice (some ⟨g20, 0, none⟩) g.length g.length) z.1.2, row (Kd.int .i64) W0 3 (.slice z.2.1 (z.1.1.map Int.ofNat).length z.2.2) (z.1.1.map Int.ofNat)]) (fun z => Run (edR g ib) (memL g ib) z.1.1 z.1.2) (fun z => trues z.1.2) (([], memL g ib), (none, 0)) ?_ (by repeat (first | exact trivial | refine And.intro rfl ?_)) (Leads.nilrow.trans (Leads.has (by repeat' (first | exact Has.nil | exact Pick.here | apply Has.cons | apply Pick.there)))) ?_
      ·
        exact .nil
      ·
        rintro ⟨⟨out, left⟩, A9, c9⟩ hrun
        dsimp only at hrun
        obtain ⟨hll, hlt⟩ := hrun.len
        have htl := trues_le (memL g ib)
        have hol : (out.map Int.ofNat).length = out.length := by simp
        dsimp only
        refine wSeq ?_
        refine wSeq ?_
        refine wRegion' ?_
        refine oMove rfl ?_
        refine oLenS rfl rfl ?_
        refine oMove rfl ?_
        refine oLss rfl rfl ?_
        refine oNil ?_
        refine thn_n ?_
        first | refine wCond rfl (fun h43 => ?_) (fun h43 => ?_) | refine wCondB rfl (fun h43 => ?_) (fun h43 => ?_)
        ·
          refine wSkip ?_
          refine thn_n ?_
          refine wBlock ?_
          refine wSeq ?_
          refine wRegion' ?_
          refine oAssign rfl ?_
          refine oNil ?_
          refine thn_n ?_
          refine wSeq ?_
          refine wSeq ?_
          refine wRegion' ?_
          refine oAssign rfl ?_
          refine oNil ?_
          refine thn_n ?_
          refine wBlock ?_
          refine wLoop (ι := Nat) (fun a => [(0, .slice A g.length cp), (6, .slice A10 (withinR g ib).length c10), (7, .slice (some ⟨g20, 0, none⟩) g.length g.length), (8, .int .i64 (trues (memL g ib) : Int)), (10, .slice A9 (out.map Int.ofNat).length c9), (11, .int .i64 (nxV (nxTo (edR g ib) left a))), (12, .int .i64 (a : Int))]) (fun a => [row Kd.bool W0 4 (.slice (some ⟨g20, 0, none⟩) g.length g.length) left, row (Kd.int .i64) W0 3 (.slice A9 (out.map Int.ofNat).length c9) (out.map Int.ofNat)]) (fun a => a ≤ g.length) (fun a => g.length - a) 0 ?_ (by repeat (first | exact trivial | refine And.intro rfl ?_)) (Leads.has (by repeat' (first | exact Has.nil | exact Pick.here | apply Has.cons | apply Pick.there))) ?_
          ·
            exact Nat.zero_le _
          ·
            rintro a ha
            dsimp only
            refine wSeq ?_
            refine wSeq ?_
            refine wRegion' ?_
            refine oMove rfl ?_
            refine oMove rfl ?_
            refine oLenS rfl rfl ?_
            refine oLss rfl rfl ?_
            refine oNil ?_
            refine thn_n ?_
            first | refine wCond rfl (fun h47 => ?_) (fun h47 => ?_) | refine wCondB rfl (fun h47 => ?_) (fun h47 => ?_)
            ·
              refine wSkip ?_
              refine thn_n ?_
              refine wSeq ?_
              refine wBlock ?_
              refine wSeq ?_
              refine wRegion' ?_
              refine oMove rfl ?_
              refine oMove rfl ?_
              refine oIdxR rfl rfl (by repeat (first | exact Pick.here | apply Pick.there)) (by first | omega | (rw [hll, hml]; omega)) rfl rfl (fun g52 hg52 => ?_)
              first | subst hg52 | (injection hg52 with hg52; injection hg52 with hg52; subst hg52)
              first | refine oLdX rfl hc52 rfl rfl ?_ | refine oLdXA rfl hc52 rfl (by repeat (first | exact SubL.done | apply SubL.take | apply SubL.drop)) ?_ | (refine oLdR1 rfl (by repeat (first | exact Pick.here | apply Pick.there)) (by first | omega | (rw [hll, hml]; omega)) rfl (fun u53 hu53 => ?_))
              refine oMove rfl ?_
              first | refine oSplit (t := 54) rfl (fun h54 => ?_) (fun h54 => ?_) | refine oSplitB (t := 54) rfl (fun h54 => ?_) (fun h54 => ?_)
              ·
                refine oWant rfl rfl ?_
                refine oMove rfl ?_
                refine oWant rfl rfl ?_
                refine oLss rfl rfl ?_
                refine oPickT rfl rfl ?_
                have hf0 : frTo (edR g ib) left a 0 = decide (nxV (nxTo (edR g ib) left a) < 0) := by rw [frTo_zero, getD_at hu53, show u53 = true from h54, nxV_neg]; simp
                refine oSet (t := 57) (v' := .bool (frTo (edR g ib) left a 0)) rfl (by rw [hf0]) ?_
                refine oAssign rfl ?_
                refine oNil ?_
                refine thn_n ?_
                refine wSeq ?_
                refine wSeq ?_
                refine wRegion' ?_
                refine oAssign rfl ?_
                refine oNil ?_
                refine thn_n ?_
                refine wBlock ?_
                refine wLoop (ι := Nat) (fun b => [(0, .slice A g.length cp), (6, .slice A10 (withinR g ib).length c10), (7, .slice (some ⟨g20, 0, none⟩) g.length g.length), (8, .int .i64 (trues (memL g ib) : Int)), (10, .slice A9 (out.map Int.ofNat).length c9), (11, .int .i64 (nxV (nxTo (edR g ib) left a))), (12, .int .i64 (a : Int)), (13, .bool (frTo (edR g ib) left a b)), (14, .int .i64 (b : Int))]) (fun b => [row Kd.bool W0 4 (.slice (some ⟨g20, 0, none⟩) g.length g.length) left, row (Kd.int .i64) W0 3 (.slice A9 (out.map Int.ofNat).length c9) (out.map Int.ofNat)]) (fun b => b ≤ g.length) (fun b => g.length - b) 0 ?_ (by repeat (first | exact trivial | refine And.intro rfl ?_)) (Leads.has (by repeat' (first | exact Has.nil | exact Pick.here | apply Has.cons | apply Pick.there))) ?_
                ·
                  exact Nat.zero_le _
                ·
                  rintro b hb
                  have hub : b ≤ g.length := hb
                  dsimp only
                  refine wSeq ?_
                  refine wSeq ?_
                  refine wRegion' ?_
                  refine oMove rfl ?_
                  refine oMove rfl ?_
                  first | refine oSplit (t := 59) rfl (fun h59 => ?_) (fun h59 => ?_) | refine oSplitB (t := 59) rfl (fun h59 => ?_) (fun h59 => ?_)
                  ·
                    refine oWant rfl rfl ?_
                    refine oMove rfl ?_
                    refine oWant rfl rfl ?_
                    refine oMove rfl ?_
                    refine oWant rfl rfl ?_
                    refine oLenS rfl rfl ?_
                    refine oWant rfl rfl ?_
                    refine oLss rfl rfl ?_
                    refine oPickT rfl rfl ?_
                    refine oNil ?_
                    refine thn_n ?_
                    first | refine wCond rfl (fun h64 => ?_) (fun h64 => ?_) | refine wCondB rfl (fun h64 => ?_) (fun h64 => ?_)
                    ·
                      refine wSkip ?_
                      refine thn_n ?_
                      refine wSeq ?_
                      refine wBlock ?_
                      refine wRegion' ?_
                      refine oMove rfl ?_
                      refine oMove rfl ?_
                      refine oIdxR rfl rfl (by repeat (first | exact Pick.here | apply Pick.there)) (by first | omega | (rw [hll, hml]; omega)) rfl rfl (fun g69 hg69 => ?_)
                      first | subst hg69 | (injection hg69 with hg69; injection hg69 with hg69; subst hg69)
                      first | refine oLdX rfl hc69 rfl rfl ?_ | refine oLdXA rfl hc69 rfl (by repeat (first | exact SubL.done | apply SubL.take | apply SubL.drop)) ?_ | (refine oLdR1 rfl (by repeat (first | exact Pick.here | apply Pick.there)) (by first | omega | (rw [hll, hml]; omega)) rfl (fun u70 hu70 => ?_))
                      first | refine oNot rfl ?_ | refine oNotB rfl ?_
                      refine oMove rfl ?_
                      first | refine oSplit (t := 72) rfl (fun h72 => ?_) (fun h72 => ?_) | refine oSplitB (t := 72) rfl (fun h72 => ?_) (fun h72 => ?_)
                      ·
                        refine oSkip rfl rfl rfl rfl ?_
                        refine oSkip rfl rfl rfl rfl ?_
                        refine oSkip rfl rfl rfl rfl ?_
                        refine oSkip rfl rfl rfl rfl ?_
                        refine oSkip rfl rfl rfl rfl ?_
                        refine oPickT rfl rfl ?_
                        have hf1 : frTo (edR g ib) left a (b + 1) = true := by rw [frTo_succ h59, getD_at hu70, show (!u70) = true from h72]; rfl
                        refine oSet (t := 78) (v' := .bool (frTo (edR g ib) left a (b + 1))) rfl (by rw [hf1]) ?_
                        refine oAssign rfl ?_
                        refine oNil ?_
                        refine blk_n ?_
                        refine thn_n ?_
                        refine wRegion' ?_
                        refine oMove rfl ?_
                        refine oSucc rfl rfl (by omega) ?_
                        refine oAssign rfl ?_
                        refine oNil ?_
                        refine thn_n ?_
                        exact ⟨rfl, b + 1, by omega, by omega, (by repeat (first | exact trivial | refine And.intro rfl ?_)), (Leads.has (by repeat' (first | exact Has.nil | exact Pick.here | apply Has.cons | apply Pick.there)))⟩
                      ·
                        refine oWant rfl rfl ?_
                        refine oMove rfl ?_
                        refine oWant rfl rfl ?_
                        refine oMove rfl ?_
                        refine oWant rfl rfl ?_
                        refine oMove rfl ?_
                        refine oWant rfl rfl ?_
                        (refine oCall rfl (by kernel_rfl) (fun w hS => frame hS (by repeat' (first | exact Split.nil | exact Pick.here | apply Split.cons | apply Pick.there)) (fun B' hB hS' => edge_any hS' A10 c10 (withinR g ib) (Kd.C_grow hB hCw) (b : Int) (a : Int))) ?_; rintro ⟨⟩ -)
                        refine oWant rfl rfl ?_
                        first | refine oNot rfl ?_ | refine oNotB rfl ?_
                        refine oPickF rfl rfl ?_
                        have hf1 : frTo (edR g ib) left a (b + 1) = !(edgeF (withinR g ib) (b : Int) (a : Int)) := by rw [frTo_succ h59, getD_at hu70, show (!u70) = false from h72]; rfl
                        refine oSet (t := 78) (v' := .bool (frTo (edR g ib) left a (b + 1))) rfl (by rw [hf1]) ?_
                        refine oAssign rfl ?_
                        refine oNil ?_
                        refine blk_n ?_
                        refine thn_n ?_
                        refine wRegion' ?_
                        refine oMove rfl ?_
                        refine oSucc rfl rfl (by omega) ?_
                        refine oAssign rfl ?_
                        refine oNil ?_
                        refine thn_n ?_
                        exact ⟨rfl, b + 1, by omega, by omega, (by repeat (first | exact trivial | refine And.intro rfl ?_)), (Leads.has (by repeat' (first | exact Has.nil | exact Pick.here | apply Has.cons | apply Pick.there)))⟩
                    ·
                      obtain rfl : b = g.length := by omega
                      refine wExit ?_
                      refine thn_x ?_
                      refine thn_x ?_
                      refine blk_x ?_
                      refine thn_n ?_
                      refine wSeq ?_
                      refine wRegion' ?_
                      refine oMove rfl ?_
                      refine oNil ?_
                      refine thn_n ?_
                      first | refine wCond rfl (fun h79 => ?_) (fun h79 => ?_) | refine wCondB rfl (fun h79 => ?_) (fun h79 => ?_)
                      ·
                        refine wRegion' ?_
                        refine oMove rfl ?_
                        refine oAssign rfl ?_
                        refine oNil ?_
                        refine blk_n ?_
                        refine thn_n ?_
                        refine wRegion' ?_
                        refine oMove rfl ?_
                        refine oSucc rfl rfl (by omega) ?_
                        refine oAssign rfl ?_
                        refine oNil ?_
                        refine thn_n ?_
                        exact ⟨rfl, a + 1, by omega, by omega, by rw [nxTo_T (hll.trans hml) h79]; exact (by repeat (first | exact trivial | refine And.intro rfl ?_)), (Leads.has (by repeat' (first | exact Has.nil | exact Pick.here | apply Has.cons | apply Pick.there)))⟩
                      ·
                        refine wSkip ?_
                        refine blk_n ?_
                        refine thn_n ?_
                        refine wRegion' ?_
                        refine oMove rfl ?_
                        refine oSucc rfl rfl (by omega) ?_
                        refine oAssign rfl ?_
                        refine oNil ?_
                        refine thn_n ?_
                        exact ⟨rfl, a + 1, by omega, by omega, by rw [nxTo_F (hll.trans hml) h79]; exact (by repeat (first | exact trivial | refine And.intro rfl ?_)), (Leads.has (by repeat' (first | exact Has.nil | exact Pick.here | apply Has.cons | apply Pick.there)))⟩
                  ·
                    have hfa := frTo_mono h59 hub
                    refine oSkip rfl rfl rfl rfl ?_
                    refine oSkip rfl rfl rfl rfl ?_
                    refine oSkip rfl rfl rfl rfl ?_
                    refine oSkip rfl rfl rfl rfl ?_
                    refine oPickF rfl rfl ?_
                    refine oNil ?_
                    refine thn_n ?_
                    refine wCondF rfl ?_
                    refine wExit ?_
                    refine thn_x ?_
                    refine thn_x ?_
                    refine blk_x ?_
                    refine thn_n ?_
                    refine wSeq ?_
                    refine wRegion' ?_
                    refine oMove rfl ?_
                    refine oNil ?_
                    refine thn_n ?_
                    first | refine wCond rfl (fun h79 => ?_) (fun h79 => ?_) | refine wCondB rfl (fun h79 => ?_) (fun h79 => ?_)
                    ·
                      exact absurd (h59.symm.trans h79) (by simp)
                    ·
                      refine wSkip ?_
                      refine blk_n ?_
                      refine thn_n ?_
                      refine wRegion' ?_
                      refine oMove rfl ?_
                      refine oSucc rfl rfl (by omega) ?_
                      refine oAssign rfl ?_
                      refine oNil ?_
                      refine thn_n ?_
                      exact ⟨rfl, a + 1, by omega, by omega, by rw [nxTo_F (hll.trans hml) hfa]; exact (by repeat (first | exact trivial | refine And.intro rfl ?_)), (Leads.has (by repeat' (first | exact Has.nil | exact Pick.here | apply Has.cons | apply Pick.there)))⟩
              ·
                refine oSkip rfl rfl rfl rfl ?_
                refine oSkip rfl rfl rfl rfl ?_
                refine oPickF rfl rfl ?_
                have hf0 : frTo (edR g ib) left a 0 = false := by rw [frTo_zero, getD_at hu53, show u53 = false from h54]; simp
                refine oSet (t := 57) (v' := .bool (frTo (edR g ib) left a 0)) rfl (by rw [hf0]) ?_
                refine oAssign rfl ?_
                refine oNil ?_
                refine thn_n ?_
                refine wSeq ?_
                refine wSeq ?_
                refine wRegion' ?_
                refine oAssign rfl ?_
                refine oNil ?_
                refine thn_n ?_
                refine wBlock ?_
                refine wLoop (ι := Nat) (fun b => [(0, .slice A g.length cp), (6, .slice A10 (withinR g ib).length c10), (7, .slice (some ⟨g20, 0, none⟩) g.length g.length), (8, .int .i64 (trues (memL g ib) : Int)), (10, .slice A9 (out.map Int.ofNat).length c9), (11, .int .i64 (nxV (nxTo (edR g ib) left a))), (12, .int .i64 (a : Int)), (13, .bool (frTo (edR g ib) left a b)), (14, .int .i64 (b : Int))]) (fun b => [row Kd.bool W0 4 (.slice (some ⟨g20, 0, none⟩) g.length g.length) left, row (Kd.int .i64) W0 3 (.slice A9 (out.map Int.ofNat).length c9) (out.map Int.ofNat)]) (fun b => b ≤ g.length) (fun b => g.length - b) 0 ?_ (by repeat (first | exact trivial | refine And.intro rfl ?_)) (Leads.has (by repeat' (first | exact Has.nil | exact Pick.here | apply Has.cons | apply Pick.there))) ?_
                ·
                  exact Nat.zero_le _
                ·
                  rintro b hb
                  have hub : b ≤ g.length := hb
                  dsimp only
                  refine wSeq ?_
                  refine wSeq ?_
                  refine wRegion' ?_
                  refine oMove rfl ?_
                  refine oMove rfl ?_
                  first | refine oSplit (t := 59) rfl (fun h59 => ?_) (fun h59 => ?_) | refine oSplitB (t := 59) rfl (fun h59 => ?_) (fun h59 => ?_)
                  ·
                    refine oWant rfl rfl ?_
                    refine oMove rfl ?_
                    refine oWant rfl rfl ?_
                    refine oMove rfl ?_
                    refine oWant rfl rfl ?_
                    refine oLenS rfl rfl ?_
                    refine oWant rfl rfl ?_
                    refine oLss rfl rfl ?_
                    refine oPickT rfl rfl ?_
                    refine oNil ?_
                    refine thn_n ?_
                    first | refine wCond rfl (fun h64 => ?_) (fun h64 => ?_) | refine wCondB rfl (fun h64 => ?_) (fun h64 => ?_)
                    ·
                      refine wSkip ?_
                      refine thn_n ?_
                      refine wSeq ?_
                      refine wBlock ?_
                      refine wRegion' ?_
                      refine oMove rfl ?_
                      refine oMove rfl ?_
                      refine oIdxR rfl rfl (by repeat (first | exact Pick.here | apply Pick.there)) (by first | omega | (rw [hll, hml]; omega)) rfl rfl (fun g69 hg69 => ?_)
                      first | subst hg69 | (injection hg69 with hg69; injection hg69 with hg69; subst hg69)
                      first | refine oLdX rfl hc69 rfl rfl ?_ | refine oLdXA rfl hc69 rfl (by repeat (first | exact SubL.done | apply SubL.take | apply SubL.drop)) ?_ | (refine oLdR1 rfl (by repeat (first | exact Pick.here | apply Pick.there)) (by first | omega | (rw [hll, hml]; omega)) rfl (fun u70 hu70 => ?_))
                      first | refine oNot rfl ?_ | refine oNotB rfl ?_
                      refine oMove rfl ?_
                      first | refine oSplit (t := 72) rfl (fun h72 => ?_) (fun h72 => ?_) | refine oSplitB (t := 72) rfl (fun h72 => ?_) (fun h72 => ?_)
                      ·
                        refine oSkip rfl rfl rfl rfl ?_
                        refine oSkip rfl rfl rfl rfl ?_
                        refine oSkip rfl rfl rfl rfl ?_
                        refine oSkip rfl rfl rfl rfl ?_
                        refine oSkip rfl rfl rfl rfl ?_
                        refine oPickT rfl rfl ?_
                        have hf1 : frTo (edR g ib) left a (b + 1) = true := by rw [frTo_succ h59, getD_at hu70, show (!u70) = true from h72]; rfl
                        refine oSet (t := 78) (v' := .bool (frTo (edR g ib) left a (b + 1))) rfl (by rw [hf1]) ?_
                        refine oAssign rfl ?_
                        refine oNil ?_
                        refine blk_n ?_
                        refine thn_n ?_
                        refine wRegion' ?_
                        refine oMove rfl ?_
                        refine oSucc rfl rfl (by omega) ?_
                        refine oAssign rfl ?_
                        refine oNil ?_
                        refine thn_n ?_
                        exact ⟨rfl, b + 1, by omega, by omega, (by repeat (first | exact trivial | refine And.intro rfl ?_)), (Leads.has (by repeat' (first | exact Has.nil | exact Pick.here | apply Has.cons | apply Pick.there)))⟩
                      ·
                        refine oWant rfl rfl ?_
                        refine oMove rfl ?_
                        refine oWant rfl rfl ?_
                        refine oMove rfl ?_
                        refine oWant rfl rfl ?_
                        refine oMove rfl ?_
                        refine oWant rfl rfl ?_
                        (refine oCall rfl (by kernel_rfl) (fun w hS => frame hS (by repeat' (first | exact Split.nil | exact Pick.here | apply Split.cons | apply Pick.there)) (fun B' hB hS' => edge_any hS' A10 c10 (withinR g ib) (Kd.C_grow hB hCw) (b : Int) (a : Int))) ?_; rintro ⟨⟩ -)
                        refine oWant rfl rfl ?_
                        first | refine oNot rfl ?_ | refine oNotB rfl ?_
                        refine oPickF rfl rfl ?_
                        have hf1 : frTo (edR g ib) left a (b + 1) = !(edgeF (withinR g ib) (b : Int) (a : Int)) := by rw [frTo_succ h59, getD_at hu70, show (!u70) = false from h72]; rfl
                        refine oSet (t := 78) (v' := .bool (frTo (edR g ib) left a (b + 1))) rfl (by rw [hf1]) ?_
                        refine oAssign rfl ?_
                        refine oNil ?_
                        refine blk_n ?_
                        refine thn_n ?_
                        refine wRegion' ?_
                        refine oMove rfl ?_
                        refine oSucc rfl rfl (by omega) ?_
                        refine oAssign rfl ?_
                        refine oNil ?_
                        refine thn_n ?_
                        exact ⟨rfl, b + 1, by omega, by omega, (by repeat (first | exact trivial | refine And.intro rfl ?_)), (Leads.has (by repeat' (first | exact Has.nil | exact Pick.here | apply Has.cons | apply Pick.there)))⟩
                    ·
                      obtain rfl : b = g.length := by omega
                      refine wExit ?_
                      refine thn_x ?_
                      refine thn_x ?_
                      refine blk_x ?_
                      refine thn_n ?_
                      refine wSeq ?_
                      refine wRegion' ?_
                      refine oMove rfl ?_
                      refine oNil ?_
                      refine thn_n ?_
                      first | refine wCond rfl (fun h79 => ?_) (fun h79 => ?_) | refine wCondB rfl (fun h79 => ?_) (fun h79 => ?_)
                      ·
                        refine wRegion' ?_
                        refine oMove rfl ?_
                        refine oAssign rfl ?_
                        refine oNil ?_
                        refine blk_n ?_
                        refine thn_n ?_
                        refine wRegion' ?_
                        refine oMove rfl ?_
                        refine oSucc rfl rfl (by omega) ?_
                        refine oAssign rfl ?_
                        refine oNil ?_
                        refine thn_n ?_
                        exact ⟨rfl, a + 1, by omega, by omega, by rw [nxTo_T (hll.trans hml) h79]; exact (by repeat (first | exact trivial | refine And.intro rfl ?_)), (Leads.has (by repeat' (first | exact Has.nil | exact Pick.here | apply Has.cons | apply Pick.there)))⟩
                      ·
                        refine wSkip ?_
                        refine blk_n ?_
                        refine thn_n ?_
                        refine wRegion' ?_
                        refine oMove rfl ?_
                        refine oSucc rfl rfl (by omega) ?_
                        refine oAssign rfl ?_
                        refine oNil ?_
                        refine thn_n ?_
                        exact ⟨rfl, a + 1, by omega, by omega, by rw [nxTo_F (hll.trans hml) h79]; exact (by repeat (first | exact trivial | refine And.intro rfl ?_)), (Leads.has (by repeat' (first | exact Has.nil | exact Pick.here | apply Has.cons | apply Pick.there)))⟩
                  ·
                    have hfa := frTo_mono h59 hub
                    refine oSkip rfl rfl rfl rfl ?_
                    refine oSkip rfl rfl rfl rfl ?_
                    refine oSkip rfl rfl rfl rfl ?_
                    refine oSkip rfl rfl rfl rfl ?_
                    refine oPickF rfl rfl ?_
                    refine oNil ?_
                    refine thn_n ?_
                    refine wCondF rfl ?_
                    refine wExit ?_
                    refine thn_x ?_
                    refine thn_x ?_
                    refine blk_x ?_
                    refine thn_n ?_
                    refine wSeq ?_
                    refine wRegion' ?_
                    refine oMove rfl ?_
                    refine oNil ?_
                    refine thn_n ?_
                    first | refine wCond rfl (fun h79 => ?_) (fun h79 => ?_) | refine wCondB rfl (fun h79 => ?_) (fun h79 => ?_)
                    ·
                      exact absurd (h59.symm.trans h79) (by simp)
                    ·
                      refine wSkip ?_
                      refine blk_n ?_
                      refine thn_n ?_
                      refine wRegion' ?_
                      refine oMove rfl ?_
                      refine oSucc rfl rfl (by omega) ?_
                      refine oAssign rfl ?_
                      refine oNil ?_
                      refine thn_n ?_
                      exact ⟨rfl, a + 1, by omega, by omega, by rw [nxTo_F (hll.trans hml) hfa]; exact (by repeat (first | exact trivial | refine And.intro rfl ?_)), (Leads.has (by repeat' (first | exact Has.nil | exact Pick.here | apply Has.cons | apply Pick.there)))⟩
            ·
              obtain rfl : a = g.length := by omega
              rw [nxTo_all (hll.trans hml)]
              refine wExit ?_
              refine thn_x ?_
              refine thn_x ?_
              refine blk_x ?_
              refine thn_n ?_
              refine wSeq ?_
              refine wSeq ?_
              refine wRegion' ?_
              refine oMove rfl ?_
              refine oLss rfl rfl ?_
              refine oNil ?_
              refine thn_n ?_
              first | refine wCond rfl (fun h82 => ?_) (fun h82 => ?_) | refine wCondB rfl (fun h82 => ?_) (fun h82 => ?_)
              ·
                have hnx : nxt (edR g ib) left = none := by have := @nxV_neg (nxt (edR g ib) left); rw [decide_eq_true h82] at this; exact Option.isNone_iff_eq_none.1 this.symm
                have hob := ord_bad hrun hnx (by omega)
                refine wSeq ?_
                refine wRegion' ?_
                refine oAssign rfl ?_
                refine oAssign rfl ?_
                refine oNil ?_
                refine thn_n ?_
                refine wRet ?_
                refine thn_r ?_
                refine blk_r ?_
                refine thn_r ?_
                refine blk_r ?_
                refine thn_r ?_
                refine fin_r ?_
                refine ⟨rfl, _, (ResL.cons (ResR.tmp rfl) (ResL.cons (ResR.tmp rfl) ResL.nil)), ?_⟩
                exact ⟨(none, 0), trivial, by rw [hob.1, hob.2]; rfl, by rw [hob.2]; exact Leads.nilrow.trans (Leads.has (by repeat' (first | exact Has.nil | exact Pick.here | apply Has.cons | apply Pick.there)))⟩
              ·
                obtain ⟨c, hnx⟩ : ∃ c, nxt (edR g ib) left = some c := by
                  cases hx : nxt (edR g ib) left with
                  | none => rw [hx] at h82; exact absurd (show (-1 : Int) < 0 by omega) h82
                  | some c => exact ⟨c, rfl⟩
                rw [hnx]
                have hnc := nxt_left hnx
                have hcl := (List.getElem?_eq_some_iff.1 hnc).1
                refine wSkip ?_
                refine thn_n ?_
                refine wSeq ?_
                refine wRegion' ?_
                refine oMove rfl ?_
                refine oSet (t := 11) (v' := .int .i64 (c : Int)) rfl rfl ?_
                refine oMove rfl ?_
                refine oIdxR rfl rfl (by repeat (first | exact Pick.here | apply Pick.there)) (by omega) rfl rfl (fun g85 hg85 => ?_)
                first | subst hg85 | (injection hg85 with hg85; injection hg85 with hg85; subst hg85)
                refine oStR _ rfl rfl rfl rfl (by repeat (first | exact Pick.here | apply Pick.there)) (by first | omega | (simp only [List.length_set]; omega)) ?_
                refine oNil ?_
                refine thn_n ?_
                refine wRegion' ?_
                refine oMove rfl ?_
                refine oMove rfl ?_
                refine oBuildSlice1 rfl rfl rfl rfl rfl (by first | exact CellsOf.agg | exact CellsOf.one rfl) rfl (fun b88 => ?_)
                refine oApp1 _ rfl rfl rfl rfl (by repeat (first | exact Pick.here | apply Pick.there)) (by repeat (first | exact Pick.here | apply Pick.there)) rfl (by omega) rfl (fun g89 cp89 => ?_)
                refine oAssign rfl ?_
                refine oNil ?_
                refine blk_n ?_
                refine thn_n ?_
                exact ⟨rfl, ((out ++ [c], left.set c false), (some ⟨g89, 0, none⟩, cp89)), .snoc hrun hnx, trues_lt (nxt_left hnx), by dsimp only; rw [show ((out ++ [c]).map Int.ofNat).length = (out.map Int.ofNat).length + 1 by simp]; exact (by repeat (first | exact trivial | refine And.intro rfl ?_)), by dsimp only; rw [show ((out ++ [c]).map Int.ofNat).length = (out.map Int.ofNat).length + 1 by simp, show (out ++ [c]).map Int.ofNat = out.map Int.ofNat ++ [(c : Int)] by simp]; exact (Leads.has (by repeat' (first | exact Has.nil | exact Pick.here | apply Has.cons | apply Pick.there)))⟩
        ·
          have hod := ord_done hrun (by omega)
          refine wExit ?_
          refine thn_x ?_
          refine thn_x ?_
          refine blk_x ?_
          refine thn_n ?_
          refine wSeq ?_
          refine wRegion' ?_
          refine oMove rfl ?_
          refine oAssign rfl ?_
          refine oAssign rfl ?_
          refine oNil ?_
          refine thn_n ?_
          refine wRet ?_
          refine fin_r ?_
          refine ⟨rfl, _, (ResL.cons (ResR.tmp rfl) (ResL.cons (ResR.tmp rfl) ResL.nil)), ?_⟩
          exact ⟨(A9, c9), trivial, by rw [hod.1, hod.2]; rfl, by rw [hod.2]; exact (Leads.has (by repeat' (first | exact Has.nil | exact Pick.here | apply Has.cons | apply Pick.there)))⟩
end Go.Proofs.YtnidmlngkpkmlaaG
