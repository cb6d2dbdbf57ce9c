import Derived.Test.YtcacohoanlljhaaHd

/-
  Package deep: Worst; the reference's Depths.
-/
namespace Go.Proofs.YtcacohoanlljhaaK
open Go.RowKit
/-- An element at hand: where it lies, and its cells. -/
structure Elm {α : Type} (kd : Kd α) (W : World) (A : Option Addr) (i : Nat) (u : α) (e : Addr) (cs : List Value) : Prop where
  at_ : ∃ ad, A = some ad ∧ e = ad.add (i * kd.sz)
  K : kd.K W u cs
  cell : ∀ j v, cs[j]? = some v → W.cell? (adr e j) = some v
theorem Kd.C.elm {α : Type} {kd : Kd α} {W : World} {A : Option Addr} {xs : List α} {i : Nat} {u : α} (hC : kd.C W A xs) (hu : xs[i]? = some u) : ∃ e cs, Elm kd W A i u e cs := by
  obtain ⟨hi, rfl⟩ := List.getElem?_eq_some_iff.1 hu
  obtain ⟨_, hC⟩ := hC
  obtain ⟨ad, rfl, hc⟩ := hC (by omega)
  obtain ⟨cs, hK, hcell⟩ := hc i _ hu
  exact ⟨_, cs, ⟨ad, rfl, rfl⟩, hK, fun j v hv => by
    have e1 : adr (ad.add (i * kd.sz)) j = ad.add (i * kd.sz + j) := by unfold adr; exact Addr.add_add _ _ _
    rw [e1]; exact hcell j v hv⟩
section
variable {c : Cx} {M : Md c} {d : Nat} {ty t : TypeId} {pos : String} {af : Array Edge} {rest : List Oper} {E : Env} {D : List Deferred} {H : List Res} {x y : Operand}
theorem oIdxE {α : Type} {kd : Kd α} {k : IntKind} {A : Option Addr} {i : Nat} {n cp : Nat} {e : TypeId} {s : Nat} {u : α} {e' : Addr} {cs : List Value} (hx : E.op x = some (.slice A n cp)) (hy : E.op y = some (.int k (i : Int))) (hE : Elm kd c.B.e A i u e' cs) (hi : i < n) (ht : elemT c.P t = some (e, s)) (hsz : kd.sz = s)
    (h : O M rest ((d, .pointer (some (adr e' 0))) :: E) D H) (hN : Nat.blt d c.N = true := by rfl) : O M (⟨some d, .indexAddr t x y, ty, pos, af, none⟩ :: rest) E D H := by
  subst hsz
  obtain ⟨ad, rfl, rfl⟩ := hE.at_
  refine oC (.pointer (some (adr (ad.add (i * kd.sz)) 0))) rfl hN (fun u w ha hw => ?_) h
  have e1 : adr (ad.add (i * kd.sz)) 0 = ad.add (i * kd.sz) := by unfold adr; rfl
  simp [execOp, ha.op hx, ha.op hy, run_indexAt ht ad _ cp i hi k w, e1]
end
theorem okWide_arrL {P : Program} {w : World} {t e : TypeId} {n : Nat} {r : Reach} {base : Nat} {v : Value} (hu : P.underlying t = some (.array n e)) (h : Value.okWide P w r base t v) : ∃ cs : List Value, v = .agg cs.toArray := by
  unfold Value.okWide at h
  rw [hu] at h
  obtain ⟨cs, rfl, _⟩ := h
  exact ⟨cs.toList, by simp⟩
/-- A row of scalars, read in whatever world. -/
theorem row_Cs {α : Type} {enc : α → Value} {h1 : ∀ x, (enc x).oneCell' = true} {W w : World} {e : TypeId} {A : Option Addr} {n cp : Nat} {xs : List α} (h : (row (Kd.scalar enc h1) W e (.slice A n cp) xs).q w) : (Kd.scalar enc h1).C w A xs := by
  obtain ⟨cs, ho, hr⟩ := h
  exact (row_C (kd := Kd.scalar enc h1) (W := w) (e := e) (n := n) (cp := cp) ⟨cs, ho, cat_scalar.2 (cat_scalar.1 hr)⟩ (Grow.refl _)).2.2.1
/-- A block of one's own, as a row that may grow. -/
theorem blk_row {α : Type} {B : Base} {Φ Φ' : List Res} {enc : α → Value} {h1 : ∀ x, (enc x).oneCell' = true} {W : World} {xs : List α} {e : TypeId} {b n : Nat} {cs : List Value} (hp : Pick Φ (blk b e cs) Φ') (hc : cs = xs.map enc) (hn : xs.length = n) (hm : n ≤ maxLen) : Leads B Φ (row (Kd.scalar enc h1) W e (.slice (some ⟨b, 0, none⟩) n n) xs :: Φ') := fun w h =>
  (h.perm hp.perm).conv .here (fun hq => by
    subst hn hc
    exact row_mk (cur := (xs.map enc).toArray) hq (Nat.le_refl _) hm (by simp) (by rw [← List.length_map (f := enc), List.take_length])) (fun k hk => by
      have : some b = some k := hk
      injection this with h; exact h.symm)
end Go.Proofs.YtcacohoanlljhaaK
namespace Go.Proofs.YtcacohoanlljhaaG
set_option linter.unusedVariables false
set_option linter.unusedSimpArgs false
open Go.RowKit Go.Proofs.YtcacohoanlljhaaK Go.Proofs.YtcacohoanlljhaaT Go.Proofs.YtcacohoanlljhaaL

theorem on_ok (g : Graph) (ib : List Bool) : okO g ib = decide (onL g ib = []) := by
  apply Bool.eq_iff_iff.2
  rw [decide_eq_true_eq, ok_iff]
  constructor
  · intro h
    apply List.eq_nil_iff_forall_not_mem.2
    intro x hx
    obtain ⟨c, _, hp⟩ := on_mem.1 hx
    exact h c hp
  · intro h a hp
    have := on_mem.2 ⟨a, rfl, hp⟩
    rw [h] at this; cases this
theorem ref_nr {B : Base} {w : World} (hS : St B [] w) (n : Int) :
    CallsIn Fence.wide 0 Try.prog 47 #[.int .i64 n, .int .i64 0, .int .i64 1048576] w (Ret B (fun _ : Unit => True) (fun _ => .int .i64 (nr n)) (fun _ => [])) := ref_Near hS n 0 1048576
set_option maxRecDepth 100000 in
set_option maxHeartbeats 600000 in
theorem refRound {B : Base} {w : World} (hS : St B [] w) (g : Graph) (A : Option Addr) (cp : Nat) (hC : kII.C B.e A g) (hsm : SmallG g) (ib : List Bool) (A1 : Option Addr) (cp1 : Nat) (hC1 : Kd.bool.C B.e A1 ib) (own : List Int) (A2 : Option Addr) (cp2 : Nat) (hC2 : (Kd.int .i64).C B.e A2 own) (rest step : Int) (last : List Int) (A3 : Option Addr) (cp3 : Nat) (hC3 : (Kd.int .i64).C B.e A3 last) (hl3 : last.length = g.length) (hin : InD last) (W0 : World) :
    CallsIn Fence.wide 0 Try.prog 29 #[.slice A g.length cp, .slice A1 ib.length cp1, .slice A2 own.length cp2, .int .i64 rest, .int .i64 step, .slice A3 last.length cp3] w
      (Ret B (fun _ : Option Addr × Nat => True) (fun z => .slice z.1 g.length z.2) (fun z => [row (Kd.int .i64) W0 3 (.slice z.1 g.length z.2) (rnd g ib own rest step last)])) := by
  have hn := hsm.1
  have m2 := hC2.1
  have hrl := rnd_len g ib own rest step last
  (refine enter Try.func29 rfl rfl hS ?_; simp only [List.zipIdx_cons, List.zipIdx_nil, List.map_cons, List.map_nil, Nat.reduceAdd, Nat.zero_add])
  refine wSeq ?_
  refine wRegion' ?_
  refine oAssign rfl ?_
  refine oNil ?_
  refine thn_n ?_
  refine wSeq ?_
  refine wRegion' ?_
  refine oAssign rfl ?_
  refine oNil ?_
  refine thn_n ?_
  refine wSeq ?_
  refine wSeq ?_
  refine wRegion' ?_
  refine oAssign rfl ?_
  refine oNil ?_
  refine thn_n ?_
  refine wBlock ?_
  refine wLoop (ι := Nat × Option Addr × Nat) (fun z => [(0, .slice A g.length cp), (1, .slice A1 ib.length cp1), (2, .slice A2 own.length cp2), (3, .int .i64 rest), (4, .int .i64 step), (5, .slice A3 last.length cp3), (13, .slice z.2.1 ((rnd g ib own rest step last).take z.1).length z.2.2), (14, .int .i64 (z.1 : Int))]) (fun z => [row (Kd.int .i64) W0 3 (.slice z.2.1 ((rnd g ib own rest step last).take z.1).length z.2.2) ((rnd g ib own rest step last).take z.1)]) (fun z => z.1 ≤ g.length) (fun z => g.length - z.1) (0, none, 0) ?_ (by repeat (first | exact trivial | refine And.intro rfl ?_)) (Leads.nilrow.trans (Leads.has (by repeat' (first | exact Has.nil | exact Pick.here | apply Has.cons | apply Pick.there)))) ?_
  ·
    exact Nat.zero_le _
  ·
    rintro ⟨i, A6, c6⟩ hi
    dsimp only at hi
    have hti : ((rnd g ib own rest step last).take i).length = i := by rw [List.length_take]; omega
    try dsimp only
    refine wSeq ?_
    refine wSeq ?_
    refine wRegion' ?_
    refine oMove rfl ?_
    refine oMove rfl ?_
    refine oLenS rfl rfl ?_
    refine oLss rfl rfl ?_
    refine oNil ?_
    refine thn_n ?_
    first | refine wCond rfl (fun h20 => ?_) (fun h20 => ?_) | refine wCondB rfl (fun h20 => ?_) (fun h20 => ?_)
    ·
      have hil : i < g.length := by omega
      have htk := take_at (l := rnd g ib own rest step last) (a := i) (u := cell g ib own rest step last i) (by simp [rnd, hil])
      obtain ⟨u, hui⟩ : ∃ u, g[i]? = some u := ⟨_, List.getElem?_eq_getElem hil⟩
      obtain ⟨eg, csg, hE⟩ := hC.elm hui
      have hEK := hE.K
      obtain ⟨Ag, cg, rfl, hleg, gg⟩ := hEK
      have hue : endsOf g i = u.filter (inG g) := by unfold endsOf; rw [getD_at hui]
      have hul : u.length ≤ 1000 := hsm.2 u (List.mem_of_getElem? hui)
      refine wSkip ?_
      refine thn_n ?_
      refine wSeq ?_
      refine wBlock ?_
      refine wSeq ?_
      refine wSeq ?_
      refine wRegion' ?_
      refine oMove rfl ?_
      refine oMove rfl ?_
      refine oMove rfl ?_
      (refine oCall rfl (by kernel_rfl) (fun w hS => frame hS (by repeat' (first | exact Split.nil | exact Pick.here | apply Split.cons | apply Pick.there)) (fun B' hB hS' => member_any hS' A cp g A1 cp1 ib (Kd.C_grow hB hC1) (i : Int))) ?_; rintro ⟨⟩ -)
      first | refine oNot rfl ?_ | refine oNotB rfl ?_
      refine oNil ?_
      refine thn_n ?_
      first | refine wCond rfl (fun h27 => ?_) (fun h27 => ?_) | refine wCondB rfl (fun h27 => ?_) (fun h27 => ?_)
      ·
        refine wSeq ?_
        refine wRegion' ?_
        refine oMove rfl ?_
        refine oMove rfl ?_
        (refine oCall rfl (by kernel_rfl) (fun w hS => frame hS (by repeat' (first | exact Split.nil | exact Pick.here | apply Split.cons | apply Pick.there)) (fun B' hB hS' => ref_nr hS' rest)) ?_; rintro ⟨⟩ -)
        refine oSet (t := 30) (v' := .int .i64 (cell g ib own rest step last i)) rfl (by unfold cell; rw [if_neg (by simpa using h27)]) ?_
        refine oBuildSlice1 rfl rfl rfl rfl rfl (by first | exact CellsOf.agg | exact CellsOf.one rfl) rfl (fun b31 => ?_)
        refine oApp1 (cell g ib own rest step last i) rfl rfl rfl rfl (by repeat (first | exact Pick.here | apply Pick.there)) (by repeat (first | exact Pick.here | apply Pick.there)) rfl (by omega) rfl (fun g32 cp32 => ?_)
        rw [show ((rnd g ib own rest step last).take i).length + 1 = ((rnd g ib own rest step last).take (i + 1)).length by rw [← htk, List.length_append]; rfl, htk]
        refine oAssign rfl ?_
        refine oNil ?_
        refine thn_n ?_
        refine wExit ?_
        refine thn_x ?_
        refine blk_x ?_
        refine thn_n ?_
        refine wRegion' ?_
        refine oMove rfl ?_
        refine oSucc rfl rfl (by omega) ?_
        refine oAssign rfl ?_
        refine oNil ?_
        refine thn_n ?_
        exact ⟨rfl, (i + 1, some ⟨g32, 0, none⟩, cp32), by show i + 1 ≤ _; omega, by show g.length - (i + 1) < g.length - i; omega, (by repeat (first | exact trivial | refine And.intro rfl ?_)), (Leads.has (by repeat' (first | exact Has.nil | exact Pick.here | apply Has.cons | apply Pick.there)))⟩
      ·
        refine wSkip ?_
        refine thn_n ?_
        refine wSeq ?_
        refine wRegion' ?_
        refine oAssign rfl ?_
        refine oNil ?_
        refine thn_n ?_
        refine wSeq ?_
        refine wSeq ?_
        refine wRegion' ?_
        refine oAssign rfl ?_
        refine oNil ?_
        refine thn_n ?_
        refine wBlock ?_
        refine wLoop (ι := Nat) (fun k => [(0, .slice A g.length cp), (1, .slice A1 ib.length cp1), (2, .slice A2 own.length cp2), (3, .int .i64 rest), (4, .int .i64 step), (5, .slice A3 last.length cp3), (13, .slice A6 ((rnd g ib own rest step last).take i).length c6), (14, .int .i64 (i : Int)), (15, .int .i64 (mx (costs step last ((u.take k).filter (inG g))))), (16, .int .i64 (k : Int))]) (fun k => [row (Kd.int .i64) W0 3 (.slice A6 ((rnd g ib own rest step last).take i).length c6) ((rnd g ib own rest step last).take i)]) (fun k => k ≤ u.length) (fun k => u.length - k) 0 ?_ (by repeat (first | exact trivial | refine And.intro rfl ?_)) (Leads.has (by repeat' (first | exact Has.nil | exact Pick.here | apply Has.cons | apply Pick.there))) ?_
        ·
          exact Nat.zero_le _
        ·
          rintro k hk
          try dsimp only
          refine wSeq ?_
          refine wSeq ?_
          refine wRegion' ?_
          refine oMove rfl ?_
          refine oMove rfl ?_
          refine oMove rfl ?_
          refine oIdxE rfl rfl (hE) (by omega) rfl rfl ?_
          have hc36 := (hE).cell
          first | refine oLdX rfl hc36 rfl rfl ?_ | refine oLdXA rfl hc36 rfl (by repeat (first | exact SubL.done | apply SubL.take | apply SubL.drop)) ?_ | (refine oLdR1 rfl (by repeat (first | exact Pick.here | apply Pick.there)) (by omega) rfl (fun u37 hu37 => ?_))
          refine oLenS rfl rfl ?_
          refine oLss rfl rfl ?_
          refine oNil ?_
          refine thn_n ?_
          first | refine wCond rfl (fun h39 => ?_) (fun h39 => ?_) | refine wCondB rfl (fun h39 => ?_) (fun h39 => ?_)
          ·
            obtain ⟨x, hx⟩ : ∃ x, u[k]? = some x := ⟨_, List.getElem?_eq_getElem (by omega)⟩
            have hft := filter_take (P := inG g) hx
            obtain ⟨e2, cs2, hE2⟩ := gg.elm hx
            obtain rfl := hE2.K
            refine wSkip ?_
            refine thn_n ?_
            refine wSeq ?_
            refine wBlock ?_
            refine wSeq ?_
            refine wRegion' ?_
            refine oMove rfl ?_
            refine oMove rfl ?_
            refine oIdxE rfl rfl (hE) (by omega) rfl rfl ?_
            have hc44 := (hE).cell
            first | refine oLdX rfl hc44 rfl rfl ?_ | refine oLdXA rfl hc44 rfl (by repeat (first | exact SubL.done | apply SubL.take | apply SubL.drop)) ?_ | (refine oLdR1 rfl (by repeat (first | exact Pick.here | apply Pick.there)) (by omega) rfl (fun u45 hu45 => ?_))
            refine oMove rfl ?_
            refine oIdxE rfl rfl (hE2) (by omega) rfl rfl ?_
            have hc47 := (hE2).cell
            first | refine oLdX rfl hc47 rfl rfl ?_ | refine oLdXA rfl hc47 rfl (by repeat (first | exact SubL.done | apply SubL.take | apply SubL.drop)) ?_ | (refine oLdR1 rfl (by repeat (first | exact Pick.here | apply Pick.there)) (by omega) rfl (fun u48 hu48 => ?_))
            refine oGeq rfl rfl ?_
            refine oMove rfl ?_
            first | refine oSplit (t := 50) rfl (fun h50 => ?_) (fun h50 => ?_) | refine oSplitB (t := 50) rfl (fun h50 => ?_) (fun h50 => ?_)
            ·
              refine oWant rfl rfl ?_
              refine oMove rfl ?_
              refine oWant rfl rfl ?_
              refine oMove rfl ?_
              refine oWant rfl rfl ?_
              refine oIdxE rfl rfl (hE) (by omega) rfl rfl ?_
              have hc53 := (hE).cell
              refine oWant rfl rfl ?_
              first | refine oLdX rfl hc53 rfl rfl ?_ | refine oLdXA rfl hc53 rfl (by repeat (first | exact SubL.done | apply SubL.take | apply SubL.drop)) ?_ | (refine oLdR1 rfl (by repeat (first | exact Pick.here | apply Pick.there)) (by omega) rfl (fun u54 hu54 => ?_))
              refine oWant rfl rfl ?_
              refine oMove rfl ?_
              refine oWant rfl rfl ?_
              refine oIdxE rfl rfl (hE2) (by omega) rfl rfl ?_
              have hc56 := (hE2).cell
              refine oWant rfl rfl ?_
              first | refine oLdX rfl hc56 rfl rfl ?_ | refine oLdXA rfl hc56 rfl (by repeat (first | exact SubL.done | apply SubL.take | apply SubL.drop)) ?_ | (refine oLdR1 rfl (by repeat (first | exact Pick.here | apply Pick.there)) (by omega) rfl (fun u57 hu57 => ?_))
              refine oWant rfl rfl ?_
              refine oMove rfl ?_
              refine oWant rfl rfl ?_
              refine oLenS rfl rfl ?_
              refine oWant rfl rfl ?_
              refine oLss rfl rfl ?_
              refine oPickT rfl rfl ?_
              refine oNil ?_
              refine thn_n ?_
              first | refine wCond rfl (fun h61 => ?_) (fun h61 => ?_) | refine wCondB rfl (fun h61 => ?_) (fun h61 => ?_)
              ·
                obtain ⟨c, rfl⟩ := Int.eq_ofNat_of_zero_le (show 0 ≤ x by omega)
                obtain ⟨e3, cs3, hE3⟩ := hC3.elm (show last[c]? = some (last.getD c 0) by rw [List.getD_eq_getElem?_getD, List.getElem?_eq_getElem (show c < last.length by omega)]; rfl)
                obtain rfl := hE3.K
                have hlc := hin c
                have hns := nr_ge step
                refine wDrawG rfl [0, 1, 3, 4, 5, 6, 7, 8, 9, 10, 11, 12] [(2, [0, 3, 4, 5, 6, 7, 8, 9, 10, 11, 12], [13])] [14, 15] 24 (by kernel_rfl) rfl rfl (fun w0 => ?_)
                refine oMove rfl ?_
                refine oMove rfl ?_
                refine oMove rfl ?_
                refine oMove rfl ?_
                refine oMove rfl ?_
                refine oIdxE rfl rfl (hE) (by omega) rfl rfl ?_
                have hc68 := (hE).cell
                first | refine oLdX rfl hc68 rfl rfl ?_ | refine oLdXA rfl hc68 rfl (by repeat (first | exact SubL.done | apply SubL.take | apply SubL.drop)) ?_ | (refine oLdR1 rfl (by repeat (first | exact Pick.here | apply Pick.there)) (by omega) rfl (fun u69 hu69 => ?_))
                refine oMove rfl ?_
                refine oIdxE rfl rfl (hE2) (by omega) rfl rfl ?_
                have hc71 := (hE2).cell
                first | refine oLdX rfl hc71 rfl rfl ?_ | refine oLdXA rfl hc71 rfl (by repeat (first | exact SubL.done | apply SubL.take | apply SubL.drop)) ?_ | (refine oLdR1 rfl (by repeat (first | exact Pick.here | apply Pick.there)) (by omega) rfl (fun u72 hu72 => ?_))
                refine oIdxE rfl rfl (hE3) (by omega) rfl rfl ?_
                have hc73 := (hE3).cell
                first | refine oLdX rfl hc73 rfl rfl ?_ | refine oLdXA rfl hc73 rfl (by repeat (first | exact SubL.done | apply SubL.take | apply SubL.drop)) ?_ | (refine oLdR1 rfl (by repeat (first | exact Pick.here | apply Pick.there)) (by omega) rfl (fun u74 hu74 => ?_))
                refine oLkSegG ?_
                refine oSegG rfl ?_
                (refine oCall rfl (by kernel_rfl) (fun w hS => frame hS (by repeat' (first | exact Split.nil | exact Pick.here | apply Split.cons | apply Pick.there)) (fun B' hB hS' => ref_nr hS' step)) ?_; rintro ⟨⟩ -)
                refine oAgainG ?_ rfl (fun w0 => ?_)
                ·
                  refine AgainG.cons rfl rfl rfl rfl (fun w0 => ?_) ?_
                  ·
                    refine oMove rfl ?_
                    exact oLkHas rfl
                  ·
                    refine AgainG.cons rfl rfl rfl rfl (fun w0 => ?_) ?_
                    ·
                      refine oMove rfl ?_
                      exact oLkHas rfl
                    ·
                      refine AgainG.cons rfl rfl rfl rfl (fun w0 => ?_) ?_
                      ·
                        refine oMove rfl ?_
                        exact oLkHas rfl
                      ·
                        refine AgainG.cons rfl rfl rfl rfl (fun w0 => ?_) ?_
                        ·
                          refine oMove rfl ?_
                          exact oLkHas rfl
                        ·
                          refine AgainG.cons rfl rfl rfl rfl (fun w0 => ?_) ?_
                          ·
                            refine oIdxE rfl rfl (hE) (by omega) rfl rfl ?_
                            have hc68 := (hE).cell
                            exact oLkHas rfl
                          ·
                            refine AgainG.cons rfl rfl rfl rfl (fun w0 => ?_) ?_
                            ·
                              first | refine oLdX rfl hc68 rfl rfl ?_ | refine oLdXA rfl hc68 rfl (by repeat (first | exact SubL.done | apply SubL.take | apply SubL.drop)) ?_ | (refine oLdR1 rfl (by repeat (first | exact Pick.here | apply Pick.there)) (by omega) rfl (fun u69 hu69 => ?_))
                              exact oLkHas rfl
                            ·
                              refine AgainG.cons rfl rfl rfl rfl (fun w0 => ?_) ?_
                              ·
                                refine oMove rfl ?_
                                exact oLkHas rfl
                              ·
                                refine AgainG.cons rfl rfl rfl rfl (fun w0 => ?_) ?_
                                ·
                                  refine oIdxE rfl rfl (hE2) (by omega) rfl rfl ?_
                                  have hc71 := (hE2).cell
                                  exact oLkHas rfl
                                ·
                                  refine AgainG.cons rfl rfl rfl rfl (fun w0 => ?_) ?_
                                  ·
                                    first | refine oLdX rfl hc71 rfl rfl ?_ | refine oLdXA rfl hc71 rfl (by repeat (first | exact SubL.done | apply SubL.take | apply SubL.drop)) ?_ | (refine oLdR1 rfl (by repeat (first | exact Pick.here | apply Pick.there)) (by omega) rfl (fun u72 hu72 => ?_))
                                    exact oLkHas rfl
                                  ·
                                    refine AgainG.cons rfl rfl rfl rfl (fun w0 => ?_) ?_
                                    ·
                                      refine oIdxE rfl rfl (hE3) (by omega) rfl rfl ?_
                                      have hc73 := (hE3).cell
                                      exact oLkHas rfl
                                    ·
                                      refine AgainG.cons rfl rfl rfl rfl (fun w0 => ?_) ?_
                                      ·
                                        first | refine oLdX rfl hc73 rfl rfl ?_ | refine oLdXA rfl hc73 rfl (by repeat (first | exact SubL.done | apply SubL.take | apply SubL.drop)) ?_ | (refine oLdR1 rfl (by repeat (first | exact Pick.here | apply Pick.there)) (by omega) rfl (fun u74 hu74 => ?_))
                                        exact oLkHas rfl
                                      ·
                                        exact AgainG.nil
                ·
                  refine oAdd rfl rfl (by omega) ?_
                  refine oTailG ?_
                  refine oMaxI rfl rfl ?_
                  rw [if_pos (by rw [inG_iff]; omega)] at hft
                  refine oSet (t := 76) (v' := .int .i64 (mx (costs step last ((u.take (k + 1)).filter (inG g))))) rfl (by rw [hft]; unfold costs; rw [List.map_append, List.map_singleton, mx_snoc, Int.toNat_natCast]; rfl) ?_
                  refine oAssign rfl ?_
                  refine oNil ?_
                  refine blk_n ?_
                  refine thn_n ?_
                  refine wRegion' ?_
                  refine oMove rfl ?_
                  refine oSucc rfl rfl (by omega) ?_
                  refine oAssign rfl ?_
                  refine oNil ?_
                  refine thn_n ?_
                  exact ⟨rfl, k + 1, by omega, by omega, (by repeat (first | exact trivial | refine And.intro rfl ?_)), (Leads.has (by repeat' (first | exact Has.nil | exact Pick.here | apply Has.cons | apply Pick.there)))⟩
              ·
                refine wSkip ?_
                refine blk_n ?_
                refine thn_n ?_
                refine wRegion' ?_
                refine oMove rfl ?_
                refine oSucc rfl rfl (by omega) ?_
                refine oAssign rfl ?_
                refine oNil ?_
                refine thn_n ?_
                rw [if_neg (by rw [inG_iff]; omega), List.append_nil] at hft
                exact ⟨rfl, k + 1, by omega, by omega, by rw [hft]; exact (by repeat (first | exact trivial | refine And.intro rfl ?_)), (Leads.has (by repeat' (first | exact Has.nil | exact Pick.here | apply Has.cons | apply Pick.there)))⟩
            ·
              refine oSkip rfl rfl rfl rfl ?_
              refine oSkip rfl rfl rfl rfl ?_
              refine oSkip rfl rfl rfl rfl ?_
              refine oSkip rfl rfl rfl rfl ?_
              refine oSkip rfl rfl rfl rfl ?_
              refine oSkip rfl rfl rfl rfl ?_
              refine oSkip rfl rfl rfl rfl ?_
              refine oSkip rfl rfl rfl rfl ?_
              refine oSkip rfl rfl rfl rfl ?_
              refine oSkip rfl rfl rfl rfl ?_
              refine oPickF rfl rfl ?_
              refine oNil ?_
              refine thn_n ?_
              refine wCondF rfl ?_
              refine wSkip ?_
              refine blk_n ?_
              refine thn_n ?_
              refine wRegion' ?_
              refine oMove rfl ?_
              refine oSucc rfl rfl (by omega) ?_
              refine oAssign rfl ?_
              refine oNil ?_
              refine thn_n ?_
              rw [if_neg (by rw [inG_iff]; omega), List.append_nil] at hft
              exact ⟨rfl, k + 1, by omega, by omega, by rw [hft]; exact (by repeat (first | exact trivial | refine And.intro rfl ?_)), (Leads.has (by repeat' (first | exact Has.nil | exact Pick.here | apply Has.cons | apply Pick.there)))⟩
          ·
            obtain rfl : k = u.length := by omega
            rw [List.take_length, ← hue]
            have hmi := mx_in (step := step) hin (endsOf g i)
            have hmg := (mx_ge (costs step last (endsOf g i))).1
            refine wExit ?_
            refine thn_x ?_
            refine thn_x ?_
            refine blk_x ?_
            refine thn_n ?_
            refine wSeq ?_
            refine wSeq ?_
            refine wRegion' ?_
            refine oMove rfl ?_
            refine oMove rfl ?_
            refine oLenS rfl rfl ?_
            refine oLss rfl rfl ?_
            refine oNil ?_
            refine thn_n ?_
            first | refine wCond rfl (fun h80 => ?_) (fun h80 => ?_) | refine wCondB rfl (fun h80 => ?_) (fun h80 => ?_)
            ·
              refine wRegion' ?_
              refine oMove rfl ?_
              refine oMove rfl ?_
              refine oMove rfl ?_
              refine oIdx rfl rfl (hC2) rfl (by omega) rfl rfl (fun e84 u84 cs84 hu84 hk84 hc84 => ?_)
              obtain rfl := hk84
              first | refine oLdX rfl hc84 rfl rfl ?_ | refine oLdXA rfl hc84 rfl (by repeat (first | exact SubL.done | apply SubL.take | apply SubL.drop)) ?_ | (refine oLdR1 rfl (by repeat (first | exact Pick.here | apply Pick.there)) (by omega) rfl (fun u85 hu85 => ?_))
              (refine oCall rfl (by kernel_rfl) (fun w hS => frame hS (by repeat' (first | exact Split.nil | exact Pick.here | apply Split.cons | apply Pick.there)) (fun B' hB hS' => ref_nr hS' u84)) ?_; rintro ⟨⟩ -)
              have hno := nr_ge u84
              refine oAdd rfl rfl (by omega) ?_
              refine oSet (t := 87) (v' := .int .i64 (addO own i (mx (costs step last (endsOf g i))))) rfl (by unfold addO; rw [if_pos (by omega), getD_at hu84]) ?_
              refine oAssign rfl ?_
              refine oNil ?_
              refine thn_n ?_
              refine wRegion' ?_
              refine oMove rfl ?_
              refine oMove rfl ?_
              refine oMinI rfl rfl ?_
              have hcl : cell g ib own rest step last i = minI (addO own i (mx (costs step last (endsOf g i)))) 1099511627776 := by unfold cell; rw [if_pos (by simpa using h27)]
              refine oSet (t := 90) (v' := .int .i64 (cell g ib own rest step last i)) rfl (by rw [hcl]; rfl) ?_
              refine oBuildSlice1 rfl rfl rfl rfl rfl (by first | exact CellsOf.agg | exact CellsOf.one rfl) rfl (fun b91 => ?_)
              refine oApp1 (cell g ib own rest step last i) rfl rfl rfl rfl (by repeat (first | exact Pick.here | apply Pick.there)) (by repeat (first | exact Pick.here | apply Pick.there)) rfl (by omega) rfl (fun g92 cp92 => ?_)
              rw [show ((rnd g ib own rest step last).take i).length + 1 = ((rnd g ib own rest step last).take (i + 1)).length by rw [← htk, List.length_append]; rfl, htk]
              refine oAssign rfl ?_
              refine oNil ?_
              refine blk_n ?_
              refine thn_n ?_
              refine wRegion' ?_
              refine oMove rfl ?_
              refine oSucc rfl rfl (by omega) ?_
              refine oAssign rfl ?_
              refine oNil ?_
              refine thn_n ?_
              exact ⟨rfl, (i + 1, some ⟨g92, 0, none⟩, cp92), by show i + 1 ≤ _; omega, by show g.length - (i + 1) < g.length - i; omega, (by repeat (first | exact trivial | refine And.intro rfl ?_)), (Leads.has (by repeat' (first | exact Has.nil | exact Pick.here | apply Has.cons | apply Pick.there)))⟩
            ·
              refine wSkip ?_
              refine thn_n ?_
              refine wRegion' ?_
              refine oMove rfl ?_
              refine oMove rfl ?_
              refine oSet (t := 89) (v' := .int .i64 (addO own i (mx (costs step last (endsOf g i))))) rfl (by unfold addO; rw [if_neg (by omega)]) ?_
              refine oMinI rfl rfl ?_
              have hcl : cell g ib own rest step last i = minI (addO own i (mx (costs step last (endsOf g i)))) 1099511627776 := by unfold cell; rw [if_pos (by simpa using h27)]
              refine oSet (t := 90) (v' := .int .i64 (cell g ib own rest step last i)) rfl (by rw [hcl]; rfl) ?_
              refine oBuildSlice1 rfl rfl rfl rfl rfl (by first | exact CellsOf.agg | exact CellsOf.one rfl) rfl (fun b91 => ?_)
              refine oApp1 (cell g ib own rest step last i) rfl rfl rfl rfl (by repeat (first | exact Pick.here | apply Pick.there)) (by repeat (first | exact Pick.here | apply Pick.there)) rfl (by omega) rfl (fun g92 cp92 => ?_)
              rw [show ((rnd g ib own rest step last).take i).length + 1 = ((rnd g ib own rest step last).take (i + 1)).length by rw [← htk, List.length_append]; rfl, htk]
              refine oAssign rfl ?_
              refine oNil ?_
              refine blk_n ?_
              refine thn_n ?_
              refine wRegion' ?_
              refine oMove rfl ?_
              refine oSucc rfl rfl (by omega) ?_
              refine oAssign rfl ?_
              refine oNil ?_
              refine thn_n ?_
              exact ⟨rfl, (i + 1, some ⟨g92, 0, none⟩, cp92), by show i + 1 ≤ _; omega, by show g.length - (i + 1) < g.length - i; omega, (by repeat (first | exact trivial | refine And.intro rfl ?_)), (Leads.has (by repeat' (first | exact Has.nil | exact Pick.here | apply Has.cons | apply Pick.there)))⟩
    ·
      obtain rfl : i = g.length := by omega
      rw [hti, ← hrl, List.take_length, hrl]
      refine wExit ?_
      refine thn_x ?_
      refine thn_x ?_
      refine blk_x ?_
      refine thn_n ?_
      refine wSeq ?_
      refine wRegion' ?_
      refine oMove rfl ?_
      refine oAssign rfl ?_
      refine oNil ?_
      refine thn_n ?_
      refine wRet ?_
      refine fin_r ?_
      refine ⟨rfl, _, (ResL.cons (ResR.tmp rfl) ResL.nil), ?_⟩
      exact ⟨(A6, c6), trivial, rfl, (Leads.has (by repeat' (first | exact Has.nil | exact Pick.here | apply Has.cons | apply Pick.there)))⟩
set_option maxRecDepth 100000 in
set_option maxHeartbeats 1000000 in
theorem refDepths {B : Base} {w : World} (hS : St B [] w) (g : Graph) (A : Option Addr) (cp : Nat) (hC : kII.C B.e A g) (hsm : SmallG g) (ib : List Bool) (A1 : Option Addr) (cp1 : Nat) (hC1 : Kd.bool.C B.e A1 ib) (own : List Int) (A2 : Option Addr) (cp2 : Nat) (hC2 : (Kd.int .i64).C B.e A2 own) (rest step : Int) (W0 : World) :
    CallsIn Fence.wide 0 Try.prog 11 #[.slice A g.length cp, .slice A1 ib.length cp1, .slice A2 own.length cp2, .int .i64 rest, .int .i64 step] w
      (Ret B (fun _ : Option Addr × Nat => True) (fun z => .tuple #[.slice z.1 (DLo g ib own rest step).length z.2, .bool (okO g ib)]) (fun z => [row (Kd.int .i64) W0 3 (.slice z.1 (DLo g ib own rest step).length z.2) (DLo g ib own rest step)])) := by
  have hn := hsm.1
  have hok := on_ok g ib
  (refine enter Try.func11 rfl rfl hS ?_; simp only [List.zipIdx_cons, List.zipIdx_nil, List.map_cons, List.map_nil, Nat.reduceAdd, Nat.zero_add])
  refine wSeq ?_
  refine wRegion' ?_
  refine oAssign rfl ?_
  refine oAssign rfl ?_
  refine oNil ?_
  refine thn_n ?_
  refine wSeq ?_
  refine wSeq ?_
  refine wRegion' ?_
  refine oMove rfl ?_
  refine oMove rfl ?_
  (refine oCall rfl (by kernel_rfl) (fun w hS => frame hS (by repeat' (first | exact Split.nil | exact Pick.here | apply Split.cons | apply Pick.there)) (fun B' hB hS' => refOn hS' g A cp (Kd.C_grow hB hC) hsm ib A1 cp1 (Kd.C_grow hB hC1) B.e)) ?_; rintro ⟨A16, c16⟩ -)
  refine oLenS rfl rfl ?_
  refine oGtr rfl rfl ?_
  refine oNil ?_
  refine thn_n ?_
  first | refine wCond rfl (fun h18 => ?_) (fun h18 => ?_) | refine wCondB rfl (fun h18 => ?_) (fun h18 => ?_)
  ·
    have hok : okO g ib = false := by rw [hok, decide_eq_false_iff_not]; intro h; rw [h] at h18; simp at h18
    refine wSeq ?_
    refine wRegion' ?_
    refine oAssign rfl ?_
    refine oAssign rfl ?_
    refine oNil ?_
    refine thn_n ?_
    refine wRet ?_
    refine thn_r ?_
    refine fin_r ?_
    refine ⟨rfl, _, (ResL.cons (ResR.tmp rfl) (ResL.cons (ResR.tmp rfl) ResL.nil)), ?_⟩
    exact ⟨(none, 0), trivial, by unfold DLo; rw [hok]; rfl, by unfold DLo; rw [hok]; exact Leads.nilrow.trans (Leads.has (by repeat' (first | exact Has.nil | exact Pick.here | apply Has.cons | apply Pick.there)))⟩
  ·
    have hok : okO g ib = true := by rw [hok, decide_eq_true_eq]; exact List.eq_nil_of_length_eq_zero (by omega)
    refine wSkip ?_
    refine thn_n ?_
    refine wSeq ?_
    refine wRegion' ?_
    refine oMove rfl ?_
    refine oLenS rfl rfl ?_
    refine oMake (kd := Kd.int .i64) (W := W0) (0 : Int) rfl rfl rfl rfl rfl rfl (by omega) rfl (fun g21 => ?_)
    refine oAssign rfl ?_
    refine oNil ?_
    refine thn_n ?_
    refine wSeq ?_
    refine wSeq ?_
    refine wRegion' ?_
    refine oAssign rfl ?_
    refine oNil ?_
    refine thn_n ?_
    refine wBlock ?_
    refine wLoop (ι := Nat × Option Addr × Nat) (fun z => [(0, .slice A g.length cp), (1, .slice A1 ib.length cp1), (2, .slice A2 own.length cp2), (3, .int .i64 rest), (4, .int .i64 step), (12, .slice z.2.1 g.length z.2.2), (13, .int .i64 (z.1 : Int))]) (fun z => [row (Kd.int .i64) W0 3 (.slice z.2.1 g.length z.2.2) (rnds g ib own rest step z.1)]) (fun z => z.1 ≤ g.length + 1) (fun z => g.length + 1 - z.1) (0, some ⟨g21, 0, none⟩, g.length) ?_ (by repeat (first | exact trivial | refine And.intro rfl ?_)) (Leads.has (by repeat' (first | exact Has.nil | exact Pick.here | apply Has.cons | apply Pick.there))) ?_
    ·
      exact Nat.zero_le _
    ·
      rintro ⟨i, A6, c6⟩ hi
      dsimp only at hi
      have hrl := rnds_len g ib own rest step i
      try dsimp only
      refine wSeq ?_
      refine wSeq ?_
      refine wRegion' ?_
      refine oMove rfl ?_
      refine oMove rfl ?_
      refine oLenS rfl rfl ?_
      refine oLeq rfl rfl ?_
      refine oNil ?_
      refine thn_n ?_
      first | refine wCond rfl (fun h25 => ?_) (fun h25 => ?_) | refine wCondB rfl (fun h25 => ?_) (fun h25 => ?_)
      ·
        refine wSkip ?_
        refine thn_n ?_
        refine wSeq ?_
        refine wBlock ?_
        refine wRegion' ?_
        refine oMove rfl ?_
        refine oMove rfl ?_
        refine oMove rfl ?_
        refine oMove rfl ?_
        refine oMove rfl ?_
        refine oMove rfl ?_
        refine oSet (t := 33) (v' := .slice A6 (rnds g ib own rest step i).length c6) rfl (by rw [hrl]) ?_
        (refine oCall rfl (by kernel_rfl) (fun w hS => frame' hS .nil (fun B' hB hR hS' => refRound hS' g A cp (Kd.C_grow hB hC) hsm ib A1 cp1 (Kd.C_grow hB hC1) own A2 cp2 (Kd.C_grow hB hC2) rest step (rnds g ib own rest step i) A6 c6 (row_Cs (hR _ _ (by repeat (first | exact Pick.here | apply Pick.there)))) hrl (rnds_in i) W0)) ?_; rintro ⟨A34, c34⟩ -)
        refine oAssign rfl ?_
        refine oNil ?_
        refine blk_n ?_
        refine thn_n ?_
        refine wRegion' ?_
        refine oMove rfl ?_
        refine oSucc rfl rfl (by omega) ?_
        refine oAssign rfl ?_
        refine oNil ?_
        refine thn_n ?_
        exact ⟨rfl, (i + 1, A34, c34), by show i + 1 ≤ _; omega, by show g.length + 1 - (i + 1) < g.length + 1 - i; omega, (by repeat (first | exact trivial | refine And.intro rfl ?_)), (Leads.has (by repeat' (first | exact Has.nil | exact Pick.here | apply Has.cons | apply Pick.there)))⟩
      ·
        obtain rfl : i = g.length + 1 := by omega
        refine wExit ?_
        refine thn_x ?_
        refine thn_x ?_
        refine blk_x ?_
        refine thn_n ?_
        refine wSeq ?_
        refine wRegion' ?_
        refine oMove rfl ?_
        refine oAssign rfl ?_
        refine oAssign rfl ?_
        refine oNil ?_
        refine thn_n ?_
        refine wRet ?_
        refine fin_r ?_
        refine ⟨rfl, _, (ResL.cons (ResR.tmp rfl) (ResL.cons (ResR.tmp rfl) ResL.nil)), ?_⟩
        have hDl : DLo g ib own rest step = rnds g ib own rest step (g.length + 1) := by unfold DLo; rw [hok, if_pos rfl]; rfl
        exact ⟨(A6, c6), trivial, by rw [hDl, hrl, hok]; rfl, by rw [hDl, hrl]; exact (Leads.has (by repeat' (first | exact Has.nil | exact Pick.here | apply Has.cons | apply Pick.there)))⟩
end Go.Proofs.YtcacohoanlljhaaG
