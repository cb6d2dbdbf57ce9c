import Derived.Test.YtcacohoanlljhaaHb

/-
  Package deep: Depths.
-/
namespace Go.Proofs.YtcacohoanlljhaaG
set_option linter.unusedVariables false
set_option linter.unusedSimpArgs false
open Go.RowKit Go.Proofs.YtcacohoanlljhaaK Go.Proofs.YtcacohoanlljhaaT Go.Proofs.YtcacohoanlljhaaL

def DLo (g : Graph) (ib : List Bool) (own : List Int) (rest step : Int) : List Int := if okO g ib then DL g ib own rest step else []
/-- What lies in the first i places: the numbers of the rest; behind, nothing yet. -/
def fillL (n : Nat) (v : Int) (i : Nat) : List Int := (List.range n).map fun a => if a < i then v else 0
theorem fillL_len (n : Nat) (v : Int) (i : Nat) : (fillL n v i).length = n := by simp [fillL]
theorem fillL_zero (n : Nat) (v : Int) : fillL n v 0 = List.replicate n 0 := by
  apply List.ext_getElem?
  intro i
  unfold fillL
  rw [List.getElem?_map, List.getElem?_replicate]
  by_cases h : i < n <;> simp [h]
theorem fillL_all (n : Nat) (v : Int) : fillL n v n = List.replicate n v := by
  apply List.ext_getElem?
  intro i
  unfold fillL
  rw [List.getElem?_map, List.getElem?_replicate]
  by_cases h : i < n <;> simp [h]
theorem fillL_set {n : Nat} {v : Int} {i : Nat} (h : i < n) : (fillL n v i).set i v = fillL n v (i + 1) := by
  apply List.ext_getElem?
  intro a
  rw [List.getElem?_set, fillL_len]
  unfold fillL
  by_cases e : i = a
  · subst e; rw [if_pos rfl, if_pos h]; simp [h]
  · rw [if_neg e, List.getElem?_map, List.getElem?_map]
    by_cases ha : a < n
    · simp only [List.getElem?_range ha, Option.map_some]
      have : (a < i) ↔ (a < i + 1) := by omega
      simp only [this]
    · rw [List.getElem?_eq_none (by simp; omega)]; rfl
theorem costs_cl {g : Graph} {step : Int} {last : List Int} {a : Nat} : mx (costs step last (cl g a)) = mx (costs step last (endsOf g a)) := mx_ext (fun x => by
  unfold costs
  rw [List.mem_map, List.mem_map]
  constructor
  · rintro ⟨b, hb, h⟩; exact ⟨b, cl_mem.1 hb, h⟩
  · rintro ⟨b, hb, h⟩; exact ⟨b, cl_mem.2 hb, h⟩)
theorem ord_ok {g : Graph} {ib : List Bool} (h : okO g ib = true) : ordL g ib = (seqN g ib).map Int.ofNat := by unfold ordL; rw [h, if_pos rfl]
theorem dpL_in {g : Graph} {ib : List Bool} {own : List Int} {rest step : Int} {i : Nat} : InD (dpL g ib (DL g ib own rest step) rest i) := fun a => by
  by_cases h : a < g.length
  · rw [dpL_getD h]
    unfold dpc
    split
    · have := nr_ge rest; omega
    · exact DL_in a
  · rw [List.getD_eq_getElem?_getD, List.getElem?_eq_none (by rw [dpL_len]; omega)]; simp
theorem mx_in {step : Int} {last : List Int} (h : InD last) (L : List Int) : mx (costs step last L) ≤ 1099512676352 := mx_le.2 ⟨by omega, fun x hx => by
  obtain ⟨b, _, rfl⟩ := List.mem_map.1 hx
  have h1 := nr_ge step
  have h2 := h b.toNat
  show nr step + _ ≤ _
  omega⟩

set_option maxRecDepth 100000 in
set_option maxHeartbeats 2000000 in
theorem depthsP {B : Base} {w : World} (hS : St B [] w) (g : Graph) (A : Option Addr) (cp : Nat) (hC : kII.C B.e A g) (hsm : SmallG g) (ib : List Bool) (A1 : Option Addr) (cp1 : Nat) (hC1 : Kd.bool.C B.e A1 ib) (hib : ib.length ≤ 1000) (own : List Int) (A2 : Option Addr) (cp2 : Nat) (hC2 : (Kd.int .i64).C B.e A2 own) (rest step : Int) (W0 : World) :
    CallsIn Fence.wide 0 Try.prog 10 #[.slice A g.length cp, .slice A1 ib.length cp1, .slice A2 own.length cp2, .int .i64 rest, .int .i64 step] w
      (Ret B (fun _ : Option Addr × Nat => True) (fun z => .tuple #[.slice z.1 (DLo g ib own rest step).length z.2, .bool (okO g ib)]) (fun z => [row (Kd.int .i64) W0 3 (.slice z.1 (DLo g ib own rest step).length z.2) (DLo g ib own rest step)])) := by
  have hn := hsm.1
  have m2 := hC2.1
  (refine enterM Try.func10 rfl rfl hS ?_; simp only [List.zipIdx_cons, List.zipIdx_nil, List.map_cons, List.map_nil, Nat.reduceAdd, Nat.zero_add])
  refine wSeq ?_
  refine wRegion' ?_
  refine oBox rfl (by first | exact CellsOf.agg | exact CellsOf.one rfl) (fun b7 => ?_)
  refine oBox rfl (by first | exact CellsOf.agg | exact CellsOf.one rfl) (fun b9 => ?_)
  refine oAssign rfl ?_
  refine oAssign rfl ?_
  refine oNil ?_
  refine thn_n ?_
  refine wSeq ?_
  refine wRegion' ?_
  refine oMove rfl ?_
  refine oMove rfl ?_
  (refine oCall rfl (by kernel_rfl) (fun w hS => frame hS (by repeat' (first | exact Split.nil | exact Pick.here | apply Split.cons | apply Pick.there)) (fun B' hB hS' => orderP hS' g A cp (Kd.C_grow hB hC) hsm ib A1 cp1 (Kd.C_grow hB hC1) hib B.e)) ?_; rintro ⟨A25, c25⟩ -)
  refine oMove rfl ?_
  refine oExt rfl (by repeat (first | exact GetAt.here | apply GetAt.there)) ?_
  refine oExt rfl (by repeat (first | exact GetAt.here | apply GetAt.there)) ?_
  refine oAssign rfl ?_
  refine oAssign rfl ?_
  refine oNil ?_
  refine thn_n ?_
  refine wFreeze [row (Kd.int .i64) B.e 3 (.slice A25 (ordL g ib).length c25) (ordL g ib)] (by repeat' (first | exact Split.nil | exact Pick.here | apply Split.cons | apply Pick.there)) (fun B1 hB1 hq1 => ?_)
  have hCl := (row_C (kd := Kd.int .i64) (W := B.e) (e := 3) (A := A25) (n := (ordL g ib).length) (cp := c25) (xs := ordL g ib) (hq1 _ _ (by repeat (first | exact Pick.here | apply Pick.there))) hB1).2.2.1
  have hC := Kd.C_grow hB1 hC
  have hC1 := Kd.C_grow hB1 hC1
  have hC2 := Kd.C_grow hB1 hC2
  refine wSeq ?_
  refine wSeq ?_
  refine wRegion' ?_
  refine oMove rfl ?_
  first | refine oNot rfl ?_ | refine oNotB rfl ?_
  refine oNil ?_
  refine thn_n ?_
  first | refine wCond rfl (fun h29 => ?_) (fun h29 => ?_) | refine wCondB rfl (fun h29 => ?_) (fun h29 => ?_)
  ·
    have hok : okO g ib = false := decide_eq_false h29
    refine wSeq ?_
    refine wRegion' ?_
    refine oAssign rfl ?_
    refine oAssign rfl ?_
    refine oNil ?_
    refine thn_n ?_
    refine wRet ?_
    refine thn_r ?_
    refine finM_r (Ds := []) rfl (by repeat' (first | exact Split.nil | exact Pick.here | apply Split.cons | apply Pick.there)) (ResL.cons (ResR.tmp rfl) (ResL.cons (ResR.tmp rfl) ResL.nil)) ?_
    exact ⟨(none, 0), trivial, by unfold DLo; rw [hok]; rfl, by unfold DLo; rw [hok]; exact Leads.nilrow.trans (Leads.has (by repeat' (first | exact Has.nil | exact Pick.here | apply Has.cons | apply Pick.there)))⟩
  ·
    have hok : okO g ib = true := decide_eq_true (Classical.not_not.1 h29)
    refine wSkip ?_
    refine thn_n ?_
    refine wSeq ?_
    refine wRegion' ?_
    refine oMove rfl ?_
    refine oLenS rfl rfl ?_
    refine oMake (kd := Kd.int .i64) (W := W0) (0 : Int) rfl rfl rfl rfl rfl rfl (by omega) rfl (fun g32 => ?_)
    rw [← fillL_zero g.length (nr rest)]
    refine oAlloc rfl (by first | exact CellsOf.agg | exact CellsOf.one rfl) (fun b14 => ?_)
    refine oSt rfl rfl rfl rfl rfl (by repeat (first | exact Pick.here | apply Pick.there)) (by repeat (first | exact SetAt.here | apply SetAt.there)) ?_
    refine oNil ?_
    refine thn_n ?_
    refine wSeq ?_
    refine wSeq ?_
    refine wRegion' ?_
    refine oLd rfl (by repeat (first | exact Pick.here | apply Pick.there)) rfl rfl ?_
    refine oLenS rfl rfl ?_
    refine oMove rfl ?_
    refine oNil ?_
    refine thn_n ?_
    refine wBlock ?_
    refine wLoop (ι := Nat) (fun i => [(0, .slice A g.length cp), (1, .slice A1 ib.length cp1), (3, .int .i64 rest), (7, .pointer (some ⟨b7, 0, none⟩)), (9, .pointer (some ⟨b9, 0, none⟩)), (12, .slice A25 (ordL g ib).length c25), (14, .pointer (some ⟨b14, 0, none⟩)), (34, .int .i64 (g.length : Int)), (35, .int .i64 (i : Int))]) (fun i => [blk b7 24 [.slice A2 own.length cp2], blk b9 3 [.int .i64 step], blk b14 24 [.slice (some ⟨g32, 0, none⟩) g.length g.length], row (Kd.int .i64) W0 3 (.slice (some ⟨g32, 0, none⟩) g.length g.length) (fillL g.length (nr rest) i)]) (fun i => i ≤ g.length) (fun i => g.length - i) 0 ?_ (by repeat (first | exact trivial | refine And.intro rfl ?_)) (Leads.has (by repeat' (first | exact Has.nil | exact Pick.here | apply Has.cons | apply Pick.there))) ?_
    ·
      exact Nat.zero_le _
    ·
      rintro i hi
      have hfl := fillL_len g.length (nr rest) i
      try dsimp only
      refine wSeq ?_
      refine wRegion' ?_
      refine oLss rfl rfl ?_
      refine oNil ?_
      refine thn_n ?_
      refine wSeq ?_
      first | refine wCond rfl (fun h36 => ?_) (fun h36 => ?_) | refine wCondB rfl (fun h36 => ?_) (fun h36 => ?_)
      ·
        refine wSkip ?_
        refine thn_n ?_
        refine wSeq ?_
        refine wBlock ?_
        refine wSeq ?_
        refine wRegion' ?_
        refine oMove rfl ?_
        refine oAssign rfl ?_
        refine oNil ?_
        refine thn_n ?_
        refine wDrawG rfl [0, 1, 2] [(3, [0, 1], [])] [4, 5] 24 (by kernel_rfl) rfl rfl (fun w0 => ?_)
        refine oLd rfl (by repeat (first | exact Pick.here | apply Pick.there)) rfl rfl ?_
        refine oMove rfl ?_
        refine oMove rfl ?_
        refine oLkSegG ?_
        refine oSegG rfl ?_
        (refine oCall rfl (by kernel_rfl) (fun w hS => frame hS (by repeat' (first | exact Split.nil | exact Pick.here | apply Split.cons | apply Pick.there)) (fun B' hB hS' => deep_near hS' rest)) ?_; rintro ⟨⟩ -)
        refine oAgainG ?_ rfl (fun w0 => ?_)
        ·
          refine AgainG.cons rfl rfl rfl rfl (fun w0 => ?_) ?_
          ·
            refine oLd rfl (by repeat (first | exact Pick.here | apply Pick.there)) rfl rfl ?_
            exact oLkHas rfl
          ·
            refine AgainG.cons rfl rfl rfl rfl (fun w0 => ?_) ?_
            ·
              refine oMove rfl ?_
              exact oLkHas rfl
            ·
              exact AgainG.nil
        ·
          refine oTailG ?_
          refine oIdxR rfl rfl (by repeat (first | exact Pick.here | apply Pick.there)) (by omega) rfl rfl (fun g42 hg42 => ?_)
          first | subst hg42 | (injection hg42 with hg42; injection hg42 with hg42; subst hg42)
          refine oStR _ rfl rfl rfl rfl (by repeat (first | exact Pick.here | apply Pick.there)) (by first | omega | (simp only [List.length_set]; omega)) ?_
          refine oNil ?_
          refine blk_n ?_
          refine thn_n ?_
          refine wRegion' ?_
          rw [fillL_set (by omega)]
          refine oSucc rfl rfl (by omega) ?_
          refine oMove rfl ?_
          refine oNil ?_
          refine thn_n ?_
          exact ⟨rfl, i + 1, by omega, by omega, (by repeat (first | exact trivial | refine And.intro rfl ?_)), (Leads.has (by repeat' (first | exact Has.nil | exact Pick.here | apply Has.cons | apply Pick.there)))⟩
      ·
        obtain rfl : i = g.length := by omega
        rw [fillL_all, ← dpL_start (own := own) (rest := rest) (step := step) hok]
        refine wExit ?_
        refine thn_x ?_
        refine thn_x ?_
        refine blk_x ?_
        refine thn_n ?_
        refine wSeq ?_
        refine wRegion' ?_
        refine oMove rfl ?_
        (refine oCall rfl (by kernel_rfl) (fun w hS => frame hS (by repeat' (first | exact Split.nil | exact Pick.here | apply Split.cons | apply Pick.there)) (fun B' hB hS' => clean_any hS' g A cp (Kd.C_grow hB hC) hsm B1.e)) ?_; rintro ⟨A45, c45, hs45⟩ hl45)
        dsimp only at hl45 ⊢
        refine oSet (t := 45) (v' := .slice A45 (cleanG g).length c45) rfl (by rw [cleanG_len]) ?_
        refine oAlloc rfl (by first | exact CellsOf.agg | exact CellsOf.one rfl) (fun b16 => ?_)
        refine oSt rfl rfl rfl rfl rfl (by repeat (first | exact Pick.here | apply Pick.there)) (by repeat (first | exact SetAt.here | apply SetAt.there)) ?_
        refine oNil ?_
        refine thn_n ?_
        refine wFreeze [row kHdr B1.e 24 (.slice A45 g.length c45) hs45, bun (rws (Kd.int .i64) B1.e 3 hs45 (cleanG g))] (by repeat' (first | exact Split.nil | exact Pick.here | apply Split.cons | apply Pick.there)) (fun B2 hB2 hq2 => ?_)
        have hC45 := grid_C (hq2 _ _ (by repeat (first | exact Pick.here | apply Pick.there))) (hq2 _ _ (by repeat (first | exact Pick.here | apply Pick.there))) (by rw [cleanG_len]; exact hl45) hB2
        have hC2 := Kd.C_grow hB2 hC2
        have hCl := Kd.C_grow hB2 hCl
        have hsl := seq_len g ib
        rw [ord_ok hok] at hCl ⊢
        refine wSeq ?_
        refine wSeq ?_
        refine wRegion' ?_
        refine oMove rfl ?_
        (refine oCall rfl (by kernel_rfl) (fun w hS => frame hS (by repeat' (first | exact Split.nil | exact Pick.here | apply Split.cons | apply Pick.there)) (fun B' hB hS' => back_any hS' A25 ((seqN g ib).map Int.ofNat).length c25)) ?_; rintro p47 -)
        refine oNil ?_
        refine thn_n ?_
        refine wBlock ?_
        refine wRange rfl rfl (by kernel_rfl) (back1 ((seqN g ib).map Int.ofNat) A25 c25 p47 hCl) (by rintro _ h; obtain ⟨y, _, rfl⟩ := List.mem_map.1 h; rfl) rfl (ι := Nat) (κ := Unit) (fun j z => z = j) (fun z => [blk b7 24 [.slice A2 own.length cp2], blk b9 3 [.int .i64 step], blk b14 24 [.slice (some ⟨g32, 0, none⟩) g.length g.length], row (Kd.int .i64) W0 3 (.slice (some ⟨g32, 0, none⟩) g.length g.length) (dpL g ib (DL g ib own rest step) rest ((seqN g ib).length - z)), blk b16 22 [.slice A45 (cleanG g).length c45]]) (fun x z => False) (fun x z => []) 0 rfl (by rw [Nat.sub_zero]; exact (Leads.has (by repeat' (first | exact Has.nil | exact Pick.here | apply Has.cons | apply Pick.there)))) ?_ ?_ ?_
        ·
          intro lp2 B' R1 R2 j hj
          rintro z hB rfl
          have hC45 := Kd.C_grow hB hC45
          have hC2 := Kd.C_grow hB hC2
          have hj' : z < (seqN g ib).length := by rw [bwL_len, List.length_map] at hj; exact hj
          have hx := List.getElem?_eq_getElem (show (seqN g ib).length - 1 - z < (seqN g ib).length by omega)
          rw [bwL_at]
          rw [show ((seqN g ib).map Int.ofNat).getD (((seqN g ib).map Int.ofNat).length - 1 - z) 0 = (((seqN g ib)[(seqN g ib).length - 1 - z] : Nat) : Int) by rw [List.length_map]; exact getD_at (by rw [List.getElem?_map, hx]; rfl)]
          generalize (seqN g ib)[(seqN g ib).length - 1 - z] = x at *
          have hmx := (seq_is g ib).mem x (List.mem_of_getElem? hx)
          have hxn : x < g.length := by unfold memF at hmx; simp only [Bool.and_eq_true, decide_eq_true_eq] at hmx; omega
          have hds := dpL_step (own := own) (rest := rest) (step := step) hok hx
          rw [show (seqN g ib).length - 1 - z + 1 = (seqN g ib).length - z by omega, show (seqN g ib).length - 1 - z = (seqN g ib).length - (z + 1) by omega] at hds
          have hcll := cl_len hsm x
          have hdl := dpL_len (g := g) (ib := ib) (rest := rest) (DL g ib own rest step) ((seqN g ib).length - z)
          have hdi := dpL_in (g := g) (ib := ib) (own := own) (rest := rest) (step := step) (i := (seqN g ib).length - z)
          dsimp only [hand]
          refine wRegion' ?_
          refine oAssign rfl ?_
          refine oNil ?_
          refine aq_n (by repeat (first | exact Pick.here | apply Pick.there)) ?_
          refine wBlock ?_
          refine wSeq ?_
          refine wRegion' ?_
          refine oAssign rfl ?_
          refine oNil ?_
          refine thn_n ?_
          refine wSeq ?_
          refine wSeq ?_
          refine wRegion' ?_
          refine oLd rfl (by repeat (first | exact Pick.here | apply Pick.there)) rfl rfl ?_
          refine oMove rfl ?_
          refine oIdx rfl rfl (hC45) rfl (by rw [cleanG_len]; exact hxn) rfl rfl (fun e52 u52 cs52 hu52 hk52 hc52 => ?_)
          obtain ⟨A0, c0, rfl, hle52, g0⟩ := hk52
          obtain rfl := cl_at hu52
          first | refine oLdX rfl hc52 rfl rfl ?_ | refine oLdXA rfl hc52 rfl (by repeat (first | exact SubL.done | apply SubL.take | apply SubL.drop)) ?_ | (refine oLdR1 rfl (by repeat (first | exact Pick.here | apply Pick.there)) (by rw [cleanG_len]; exact hxn) rfl (fun u53 hu53 => ?_))
          refine oLenS rfl rfl ?_
          refine oMove rfl ?_
          refine oNil ?_
          refine thn_n ?_
          refine wBlock ?_
          refine wLoop (ι := Nat) (fun i => [(7, .pointer (some ⟨b7, 0, none⟩)), (9, .pointer (some ⟨b9, 0, none⟩)), (14, .pointer (some ⟨b14, 0, none⟩)), (16, .pointer (some ⟨b16, 0, none⟩)), (18, .int .i64 (x : Int)), (19, .int .i64 (mx (costs step (dpL g ib (DL g ib own rest step) rest ((seqN g ib).length - z)) ((cl g x).take i)))), (53, .slice A0 (cl g x).length c0), (54, .int .i64 ((cl g x).length : Int)), (55, .int .i64 (i : Int))]) (fun i => [R2, blk b7 24 [.slice A2 own.length cp2], blk b9 3 [.int .i64 step], blk b14 24 [.slice (some ⟨g32, 0, none⟩) g.length g.length], row (Kd.int .i64) W0 3 (.slice (some ⟨g32, 0, none⟩) g.length g.length) (dpL g ib (DL g ib own rest step) rest ((seqN g ib).length - z)), blk b16 22 [.slice A45 (cleanG g).length c45]]) (fun i => i ≤ (cl g x).length) (fun i => (cl g x).length - i) 0 ?_ (by repeat (first | exact trivial | refine And.intro rfl ?_)) (Leads.has (by repeat' (first | exact Has.nil | exact Pick.here | apply Has.cons | apply Pick.there))) ?_
          ·
            exact Nat.zero_le _
          ·
            rintro i hi
            try dsimp only
            refine wSeq ?_
            refine wRegion' ?_
            refine oLss rfl rfl ?_
            refine oNil ?_
            refine thn_n ?_
            refine wSeq ?_
            first | refine wCond rfl (fun h56 => ?_) (fun h56 => ?_) | refine wCondB rfl (fun h56 => ?_) (fun h56 => ?_)
            ·
              refine wSkip ?_
              refine thn_n ?_
              refine wSeq ?_
              refine wBlock ?_
              refine wSeq ?_
              refine wRegion' ?_
              refine oIdx rfl rfl (g0) rfl (by omega) rfl rfl (fun e57 u57 cs57 hu57 hk57 hc57 => ?_)
              obtain rfl := hk57
              first | refine oLdX rfl hc57 rfl rfl ?_ | refine oLdXA rfl hc57 rfl (by repeat (first | exact SubL.done | apply SubL.take | apply SubL.drop)) ?_ | (refine oLdR1 rfl (by repeat (first | exact Pick.here | apply Pick.there)) (by omega) rfl (fun u58 hu58 => ?_))
              obtain ⟨c, rfl, hcn⟩ := ends_nat (cl_mem.1 (List.mem_of_getElem? hu57))
              refine oAssign rfl ?_
              refine oNil ?_
              refine thn_n ?_
              refine wDrawG rfl [0, 1, 3, 4, 5, 6] [(2, [0, 3, 4, 5, 6], [7])] [8, 9] 24 (by kernel_rfl) rfl rfl (fun w0 => ?_)
              refine oMove rfl ?_
              refine oLd rfl (by repeat (first | exact Pick.here | apply Pick.there)) rfl rfl ?_
              refine oLd rfl (by repeat (first | exact Pick.here | apply Pick.there)) rfl rfl ?_
              refine oMove rfl ?_
              refine oIdxR rfl rfl (by repeat (first | exact Pick.here | apply Pick.there)) (by omega) rfl rfl (fun g64 hg64 => ?_)
              first | subst hg64 | (injection hg64 with hg64; injection hg64 with hg64; subst hg64)
              first | refine oLdX rfl hc64 rfl rfl ?_ | refine oLdXA rfl hc64 rfl (by repeat (first | exact SubL.done | apply SubL.take | apply SubL.drop)) ?_ | (refine oLdR1 rfl (by repeat (first | exact Pick.here | apply Pick.there)) (by omega) rfl (fun u65 hu65 => ?_))
              obtain rfl : u65 = (dpL g ib (DL g ib own rest step) rest ((seqN g ib).length - z)).getD c 0 := (getD_at hu65).symm
              have hdb := hdi c
              have hns := nr_ge step
              refine oLkSegG ?_
              refine oSegG rfl ?_
              (refine oCall rfl (by kernel_rfl) (fun w hS => frame hS (by repeat' (first | exact Split.nil | exact Pick.here | apply Split.cons | apply Pick.there)) (fun B' hB hS' => deep_near hS' step)) ?_; rintro ⟨⟩ -)
              refine oAgainG ?_ rfl (fun w0 => ?_)
              ·
                refine AgainG.cons rfl rfl rfl rfl (fun w0 => ?_) ?_
                ·
                  refine oMove rfl ?_
                  exact oLkHas rfl
                ·
                  refine AgainG.cons rfl rfl rfl rfl (fun w0 => ?_) ?_
                  ·
                    refine oLd rfl (by repeat (first | exact Pick.here | apply Pick.there)) rfl rfl ?_
                    exact oLkHas rfl
                  ·
                    refine AgainG.cons rfl rfl rfl rfl (fun w0 => ?_) ?_
                    ·
                      refine oMove rfl ?_
                      exact oLkHas rfl
                    ·
                      refine AgainG.cons rfl rfl rfl rfl (fun w0 => ?_) ?_
                      ·
                        refine oIdxR rfl rfl (by repeat (first | exact Pick.here | apply Pick.there)) (by omega) rfl rfl (fun g64 hg64 => ?_)
                        first | subst hg64 | (injection hg64 with hg64; injection hg64 with hg64; subst hg64)
                        exact oLkHas rfl
                      ·
                        refine AgainG.cons rfl rfl rfl rfl (fun w0 => ?_) ?_
                        ·
                          first | refine oLdX rfl hc64 rfl rfl ?_ | refine oLdXA rfl hc64 rfl (by repeat (first | exact SubL.done | apply SubL.take | apply SubL.drop)) ?_ | (refine oLdR1 rfl (by repeat (first | exact Pick.here | apply Pick.there)) (by omega) rfl (fun u65 hu65 => ?_))
                          obtain rfl : u65 = (dpL g ib (DL g ib own rest step) rest ((seqN g ib).length - z)).getD c 0 := (getD_at hu65).symm
                          exact oLkHas rfl
                        ·
                          exact AgainG.nil
              ·
                refine oAdd rfl rfl (by omega) ?_
                refine oTailG ?_
                refine oMaxI rfl rfl ?_
                refine oSet (t := 67) (v' := .int .i64 (mx (costs step (dpL g ib (DL g ib own rest step) rest ((seqN g ib).length - z)) ((cl g x).take (i + 1))))) rfl (by rw [List.take_add_one, hu57]; unfold costs; rw [List.map_append, show (some (c : Int)).toList = [(c : Int)] from rfl, List.map_singleton, mx_snoc, Int.toNat_natCast]; rfl) ?_
                refine oAssign rfl ?_
                refine oNil ?_
                refine blk_n ?_
                refine thn_n ?_
                refine wRegion' ?_
                refine oSucc rfl rfl (by omega) ?_
                refine oMove rfl ?_
                refine oNil ?_
                refine thn_n ?_
                exact ⟨rfl, i + 1, by omega, by omega, (by repeat (first | exact trivial | refine And.intro rfl ?_)), (Leads.has (by repeat' (first | exact Has.nil | exact Pick.here | apply Has.cons | apply Pick.there)))⟩
            ·
              obtain rfl : i = (cl g x).length := by omega
              rw [List.take_length, costs_cl]
              have hmi := mx_in (step := step) hdi (endsOf g x)
              have hmg := (mx_ge (costs step (dpL g ib (DL g ib own rest step) rest ((seqN g ib).length - z)) (endsOf g x))).1
              refine wExit ?_
              refine thn_x ?_
              refine thn_x ?_
              refine blk_x ?_
              refine thn_n ?_
              refine wSeq ?_
              refine wSeq ?_
              refine wRegion' ?_
              refine oMove rfl ?_
              refine oLd rfl (by repeat (first | exact Pick.here | apply Pick.there)) rfl rfl ?_
              refine oLenS rfl rfl ?_
              refine oLss rfl rfl ?_
              refine oNil ?_
              refine thn_n ?_
              first | refine wCond rfl (fun h72 => ?_) (fun h72 => ?_) | refine wCondB rfl (fun h72 => ?_) (fun h72 => ?_)
              ·
                refine wRegion' ?_
                refine oMove rfl ?_
                refine oLd rfl (by repeat (first | exact Pick.here | apply Pick.there)) rfl rfl ?_
                refine oMove rfl ?_
                refine oIdx rfl rfl (hC2) rfl (by omega) rfl rfl (fun e76 u76 cs76 hu76 hk76 hc76 => ?_)
                obtain rfl := hk76
                first | refine oLdX rfl hc76 rfl rfl ?_ | refine oLdXA rfl hc76 rfl (by repeat (first | exact SubL.done | apply SubL.take | apply SubL.drop)) ?_ | (refine oLdR1 rfl (by repeat (first | exact Pick.here | apply Pick.there)) (by omega) rfl (fun u77 hu77 => ?_))
                (refine oCall rfl (by kernel_rfl) (fun w hS => frame hS (by repeat' (first | exact Split.nil | exact Pick.here | apply Split.cons | apply Pick.there)) (fun B' hB hS' => deep_near hS' u76)) ?_; rintro ⟨⟩ -)
                have hno := nr_ge u76
                refine oAdd rfl rfl (by omega) ?_
                refine oSet (t := 79) (v' := .int .i64 (addO own x (mx (costs step (dpL g ib (DL g ib own rest step) rest ((seqN g ib).length - z)) (endsOf g x))))) rfl (by unfold addO; rw [if_pos (by omega), getD_at hu76]) ?_
                refine oAssign rfl ?_
                refine oNil ?_
                refine thn_n ?_
                refine wRegion' ?_
                refine oLd rfl (by repeat (first | exact Pick.here | apply Pick.there)) rfl rfl ?_
                refine oMove rfl ?_
                refine oMove rfl ?_
                refine oMinI rfl rfl ?_
                refine oSet (t := 83) (v' := .int .i64 (minI (addO own x (mx (costs step (dpL g ib (DL g ib own rest step) rest ((seqN g ib).length - z)) (endsOf g x)))) 1099511627776)) rfl rfl ?_
                refine oIdxR rfl rfl (by repeat (first | exact Pick.here | apply Pick.there)) (by omega) rfl rfl (fun g84 hg84 => ?_)
                first | subst hg84 | (injection hg84 with hg84; injection hg84 with hg84; subst hg84)
                refine oStR _ rfl rfl rfl rfl (by repeat (first | exact Pick.here | apply Pick.there)) (by first | omega | (simp only [List.length_set]; omega)) ?_
                refine oNil ?_
                refine blk_n ?_
                refine rq_n ?_
                exact ⟨z + 1, rfl, by rw [← hds]; exact (Leads.has (by repeat' (first | exact Has.nil | exact Pick.here | apply Has.cons | apply Pick.there)))⟩
              ·
                refine wSkip ?_
                refine thn_n ?_
                refine wRegion' ?_
                refine oLd rfl (by repeat (first | exact Pick.here | apply Pick.there)) rfl rfl ?_
                refine oMove rfl ?_
                refine oMove rfl ?_
                refine oSet (t := 82) (v' := .int .i64 (addO own x (mx (costs step (dpL g ib (DL g ib own rest step) rest ((seqN g ib).length - z)) (endsOf g x))))) rfl (by unfold addO; rw [if_neg (by omega)]) ?_
                refine oMinI rfl rfl ?_
                refine oSet (t := 83) (v' := .int .i64 (minI (addO own x (mx (costs step (dpL g ib (DL g ib own rest step) rest ((seqN g ib).length - z)) (endsOf g x)))) 1099511627776)) rfl rfl ?_
                refine oIdxR rfl rfl (by repeat (first | exact Pick.here | apply Pick.there)) (by omega) rfl rfl (fun g84 hg84 => ?_)
                first | subst hg84 | (injection hg84 with hg84; injection hg84 with hg84; subst hg84)
                refine oStR _ rfl rfl rfl rfl (by repeat (first | exact Pick.here | apply Pick.there)) (by first | omega | (simp only [List.length_set]; omega)) ?_
                refine oNil ?_
                refine blk_n ?_
                refine rq_n ?_
                exact ⟨z + 1, rfl, by rw [← hds]; exact (Leads.has (by repeat' (first | exact Has.nil | exact Pick.here | apply Has.cons | apply Pick.there)))⟩
        ·
          rintro z Dm2 h
          rw [bwL_len, List.length_map] at h
          subst h
          rw [Nat.sub_self, dpL_zero]
          try dsimp only
          refine blk_n ?_
          refine thn_n ?_
          refine wSeq ?_
          refine wRegion' ?_
          refine oLd rfl (by repeat (first | exact Pick.here | apply Pick.there)) rfl rfl ?_
          refine oAssign rfl ?_
          refine oAssign rfl ?_
          refine oNil ?_
          refine thn_n ?_
          refine wRet ?_
          refine finM_r (Ds := [Dm2]) rfl (by repeat' (first | exact Split.nil | exact Pick.here | apply Split.cons | apply Pick.there)) (ResL.cons (ResR.tmp rfl) (ResL.cons (ResR.tmp rfl) ResL.nil)) ?_
          exact ⟨(some ⟨g32, 0, none⟩, g.length), trivial, by unfold DLo; rw [hok, if_pos rfl, DL_len]; rfl, by unfold DLo; rw [hok, if_pos rfl, DL_len]; exact (Leads.has (by repeat' (first | exact Has.nil | exact Pick.here | apply Has.cons | apply Pick.there)))⟩
        ·
          rintro _ _ _ h; exact h.elim
end Go.Proofs.YtcacohoanlljhaaG
