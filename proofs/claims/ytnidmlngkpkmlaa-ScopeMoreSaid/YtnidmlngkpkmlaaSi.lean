/-
  sheerleglaw23.ScopeTurned, walked.
-/
import Derived.Test.YtnidmlngkpkmlaaSh
namespace Go.Proofs.YtnidmlngkpkmlaaS
set_option linter.unusedVariables false
set_option linter.unusedSimpArgs false
open Go.RowKit Go.Proofs.YtnidmlngkpkmlaaK Go.Proofs.YtnidmlngkpkmlaaT

theorem take_rev {l : List ApiObject} {i : Nat} {u : ApiObject} (hi : i < l.length) (hu : l[l.length - 1 - i]? = some u) : l.reverse.take i ++ [u] = l.reverse.take (i + 1) := by
  have h1 : i < l.reverse.length := by simpa using hi
  rw [List.take_succ_eq_append_getElem h1]
  congr 2
  rw [List.getElem_reverse]
  exact (List.getElem?_eq_some_iff.1 hu).2.symm
theorem small_rev {l : List ApiObject} (h : Small l) : Small l.reverse := ⟨by simpa using h.1, fun o ho => h.2 o (by simpa using ho)⟩
theorem sym_mem {l : List ApiObject} {i k : Nat} {o : ApiObject} {x : ApiSymbol} (ho : l[i]? = some o) (hx : o.fSymbols[k]? = some x) : (i, k, x) ∈ symsFrom 0 l :=
  mem_syms.2 ⟨(List.getElem?_eq_some_iff.1 ho).1, by rw [getD_of ho]; exact (List.getElem?_eq_some_iff.1 hx).1, by rw [getD_of ho, getD_of hx]⟩
theorem mem_sym {l : List ApiObject} {i k : Nat} {x : ApiSymbol} (hm : (i, k, x) ∈ symsFrom 0 l) {o : ApiObject} (ho : l[i]? = some o) : k < o.fSymbols.length ∧ ∀ y, o.fSymbols[k]? = some y → y = x := by
  obtain ⟨h1, h2, h3⟩ := mem_syms.1 hm
  rw [getD_of ho] at h2 h3
  exact ⟨h2, fun y hy => by rw [getD_of hy] at h3; exact h3⟩

set_option maxRecDepth 100000 in
set_option maxHeartbeats 2000000 in
theorem Turned {B : Base} {w : World} (hS : St B [] w) (A : Option Addr) (cp : Nat) (l : List ApiObject) (hC : kApiObject.C B.e A l) :
    CallsIn Fence.wide 0 Try.prog 4 #[.slice A l.length cp] w (Ret B (fun _ : Unit => True) (fun _ => .bool true) (fun _ => [])) := by
  (refine enter Try.func4 rfl rfl hS ?_; simp only [List.zipIdx_cons, List.zipIdx_nil, List.map_cons, List.map_nil, Nat.reduceAdd, Nat.zero_add])
  refine wSeq ?_
  refine wRegion' ?_
  refine oAssign rfl ?_
  refine oNil ?_
  refine thn_n ?_
  refine wSeq ?_
  refine wSeq ?_
  refine wRegion' ?_
  refine oMove rfl ?_
  (refine oCall rfl (by kernel_rfl) (fun w hS => frame hS (by repeat' (first | exact Split.nil | exact Pick.here | apply Split.cons | apply Pick.there)) (fun B' hB hS' => few24 hS' A cp l (Kd.C_grow hB hC))) ?_; rintro r hr)
  first | refine oNot rfl ?_ | refine oNotB rfl ?_
  refine oMove rfl ?_
  first | refine oSplit (t := 18) rfl (fun h18 => ?_) (fun h18 => ?_) | refine oSplitB (t := 18) rfl (fun h18 => ?_) (fun h18 => ?_)
  ·
    refine oSkip rfl rfl rfl rfl ?_
    refine oSkip rfl rfl rfl rfl ?_
    refine oSkip rfl rfl rfl rfl ?_
    refine oSkip rfl rfl rfl rfl ?_
    refine oPickT rfl rfl ?_
    refine oNil ?_
    refine thn_n ?_
    refine wCondT rfl ?_
    refine wSeq ?_
    refine wRegion' ?_
    (refine oCall rfl (by kernel_rfl) (fun w hS => frame hS (by repeat' (first | exact Split.nil | exact Pick.here | apply Split.cons | apply Pick.there)) (fun B' hB hS' => known23 hS')) ?_; rintro ⟨⟩ -)
    refine oAssign rfl ?_
    refine oNil ?_
    refine thn_n ?_
    refine wRet ?_
    refine thn_r ?_
    refine fin_r ?_
    refine ⟨rfl, _, (ResL.cons (ResR.tmp rfl) ResL.nil), ?_⟩
    exact ⟨(), trivial, rfl, (Leads.has (by repeat' (first | exact Has.nil | exact Pick.here | apply Has.cons | apply Pick.there)))⟩
  ·
    have hf := hr (by simpa using h18)
    have hl : Small l := ⟨by omega, fun o ho => by have := hf.2 o ho; omega⟩
    have hlr := small_rev hl
    refine oWant rfl rfl ?_
    refine oMove rfl ?_
    refine oWant rfl rfl ?_
    (refine oCall rfl (by kernel_rfl) (fun w hS => frame hS (by repeat' (first | exact Split.nil | exact Pick.here | apply Split.cons | apply Pick.there)) (fun B' hB hS' => check_any hS' A cp l (Kd.C_grow hB hC) hl)) ?_; rintro ⟨⟩ -)
    refine oWant rfl rfl ?_
    first | refine oField rfl rfl rfl (by repeat (first | exact GetAt.here | apply GetAt.there)) ?_ | refine oFieldA rfl rfl rfl (by repeat (first | exact SubL.done | apply SubL.take | apply SubL.drop)) ?_
    refine oWant rfl rfl ?_
    refine oNeq rfl rfl ?_
    refine oPickF rfl rfl ?_
    refine oNil ?_
    refine thn_n ?_
    first | refine wCond rfl (fun h23 => ?_) (fun h23 => ?_) | refine wCondB rfl (fun h23 => ?_) (fun h23 => ?_)
    ·
      refine wSeq ?_
      refine wRegion' ?_
      (refine oCall rfl (by kernel_rfl) (fun w hS => frame hS (by repeat' (first | exact Split.nil | exact Pick.here | apply Split.cons | apply Pick.there)) (fun B' hB hS' => known23 hS')) ?_; rintro ⟨⟩ -)
      refine oAssign rfl ?_
      refine oNil ?_
      refine thn_n ?_
      refine wRet ?_
      refine thn_r ?_
      refine fin_r ?_
      refine ⟨rfl, _, (ResL.cons (ResR.tmp rfl) ResL.nil), ?_⟩
      exact ⟨(), trivial, rfl, (Leads.has (by repeat' (first | exact Has.nil | exact Pick.here | apply Has.cons | apply Pick.there)))⟩
    ·
      have hr := right_of_check (by simpa using h23)
      have hlen := hr.six
      refine wSkip ?_
      refine thn_n ?_
      refine wSeq ?_
      refine wRegion' ?_
      refine oAssign rfl ?_
      refine oNil ?_
      refine thn_n ?_
      refine wSeq ?_
      refine wSeq ?_
      refine wRegion' ?_
      refine oAssign rfl ?_
      refine oNil ?_
      refine thn_n ?_
      refine wBlock ?_
      refine wLoop (ι := Nat × Option Addr × Nat) (fun z => [(0, .slice A l.length cp), (3, .slice z.2.1 z.1 z.2.2), (4, .int .i64 (z.1 : Int))]) (fun z => [row kApiObject B.e 40 (.slice z.2.1 z.1 z.2.2) (l.reverse.take z.1)]) (fun z => z.1 ≤ l.length) (fun z => l.length - z.1) (0, none, 0) ?_ (by repeat (first | exact trivial | refine And.intro rfl ?_)) Leads.nilrow ?_
      ·
        exact Nat.zero_le _
      ·
        rintro ⟨i, A3, c3⟩ hi
        dsimp only at hi
        have hlt : (l.reverse.take i).length = i := by simp; omega
        dsimp only
        refine wSeq ?_
        refine wSeq ?_
        refine wRegion' ?_
        refine oMove rfl ?_
        refine oMove rfl ?_
        refine oLenS rfl rfl ?_
        refine oLss rfl rfl ?_
        refine oNil ?_
        refine thn_n ?_
        first | refine wCond rfl (fun h28 => ?_) (fun h28 => ?_) | refine wCondB rfl (fun h28 => ?_) (fun h28 => ?_)
        ·
          refine wSkip ?_
          refine thn_n ?_
          refine wSeq ?_
          refine wBlock ?_
          refine wRegion' ?_
          refine oMove rfl ?_
          refine oMove rfl ?_
          refine oMove rfl ?_
          refine oLenS rfl rfl ?_
          first | refine oSub rfl rfl (by omega) ?_ | refine oSubW rfl rfl ?_
          refine oMove rfl ?_
          first | refine oSub rfl rfl (by omega) ?_ | refine oSubW rfl rfl ?_
          refine oSet (t := 37) (v' := .int .i64 ((l.length - 1 - i : Nat) : Int)) rfl (by congr 1; omega) ?_
          refine oIdx rfl rfl (hC) rfl (by omega) rfl rfl (fun e38 u38 cs38 hu38 hk38 hc38 => ?_)
          have hK38 := hk38
          obtain ⟨A0, c0, A1, c1, A2, c2, rfl, l0, g0, l1, g1, l2, g2⟩ := kApiObject_open hk38
          first | refine oLdX rfl hc38 rfl rfl ?_ | refine oLdXA rfl hc38 rfl (by repeat (first | exact SubL.done | apply SubL.take | apply SubL.drop)) ?_ | (refine oLdR1 rfl (by repeat (first | exact Pick.here | apply Pick.there)) (by omega) rfl (fun u39 hu39 => ?_))
          refine oBuildSlice1 rfl rfl rfl rfl rfl (by first | exact CellsOf.agg | exact CellsOf.one rfl) rfl (fun b40 => ?_)
          refine oApp1 u38 rfl rfl rfl rfl (by repeat (first | exact Pick.here | apply Pick.there)) (by repeat (first | exact Pick.here | apply Pick.there)) hK38 (by omega) rfl (fun g41 cp41 => ?_)
          rw [hlt, take_rev (by omega) hu38]
          refine oAssign rfl ?_
          refine oNil ?_
          refine blk_n ?_
          refine thn_n ?_
          refine wRegion' ?_
          refine oMove rfl ?_
          refine oSucc rfl rfl (by omega) ?_
          refine oAssign rfl ?_
          refine oNil ?_
          refine thn_n ?_
          exact ⟨rfl, (i + 1, some ⟨g41, 0, none⟩, cp41), by show i + 1 ≤ _; omega, by show l.length - (i + 1) < l.length - i; omega, (by repeat (first | exact trivial | refine And.intro rfl ?_)), (Leads.has (by repeat' (first | exact Has.nil | exact Pick.here | apply Has.cons | apply Pick.there)))⟩
        ·
          obtain rfl : i = l.length := by omega
          rw [List.take_of_length_le (by simp)]
          refine wExit ?_
          refine thn_x ?_
          refine thn_x ?_
          refine blk_x ?_
          refine thn_n ?_
          refine wSeq ?_
          refine wSeq ?_
          refine wRegion' ?_
          refine oMove rfl ?_
          refine oSet (t := 42) (v' := .slice A3 l.reverse.length c3) rfl (by rw [List.length_reverse]) ?_
          refine oSeal (W := B.e) (kd := kApiObject) (A := A3) (xs := l.reverse) [row kApiObject B.e 40 _ l.reverse] (by repeat' (first | exact Split.nil | exact Pick.here | apply Split.cons | apply Pick.there)) (fun w hq g => (row_C (hq _ _ (by repeat (first | exact Pick.here | apply Pick.there))) g).2.2.1) (fun S0 => ?_)
          (refine oCall rfl (by kernel_rfl) (fun w hS => frame' hS .nil (fun B' hB hR hS' => check_any hS' A3 c3 l.reverse (rdr_C (hR _ _ (by repeat (first | exact Pick.here | apply Pick.there))) hB) hlr)) ?_; rintro ⟨⟩ -)
          first | refine oField rfl rfl rfl (by repeat (first | exact GetAt.here | apply GetAt.there)) ?_ | refine oFieldA rfl rfl rfl (by repeat (first | exact SubL.done | apply SubL.take | apply SubL.drop)) ?_
          refine oNeq rfl rfl ?_
          refine oNil ?_
          refine thn_n ?_
          first | refine wCond rfl (fun h45 => ?_) (fun h45 => ?_) | refine wCondB rfl (fun h45 => ?_) (fun h45 => ?_)
          ·
            exact (h45 (by rw [check_of_right (right_rev hr)])).elim
          ·
            refine wSkip ?_
            refine thn_n ?_
            refine wSeq ?_
            refine wSeq ?_
            refine wRegion' ?_
            refine oAssign rfl ?_
            refine oNil ?_
            refine thn_n ?_
            refine wBlock ?_
            refine wLoop (ι := Nat) (fun i => [(0, .slice A l.length cp), (3, .slice A3 l.length c3), (5, .int .i64 (i : Int))]) (fun i => [rdr B.e S0 kApiObject A3 l.reverse]) (fun i => i ≤ l.length) (fun i => l.length - i) 0 ?_ (by repeat (first | exact trivial | refine And.intro rfl ?_)) (Leads.has (by repeat' (first | exact Has.nil | exact Pick.here | apply Has.cons | apply Pick.there))) ?_
            ·
              exact Nat.zero_le _
            ·
              rintro i hi
              dsimp only
              refine wSeq ?_
              refine wSeq ?_
              refine wRegion' ?_
              refine oMove rfl ?_
              refine oMove rfl ?_
              refine oLenS rfl rfl ?_
              refine oLss rfl rfl ?_
              refine oNil ?_
              refine thn_n ?_
              first | refine wCond rfl (fun h49 => ?_) (fun h49 => ?_) | refine wCondB rfl (fun h49 => ?_) (fun h49 => ?_)
              ·
                refine wSkip ?_
                refine thn_n ?_
                refine wSeq ?_
                refine wBlock ?_
                refine wSeq ?_
                refine wRegion' ?_
                refine oAssign rfl ?_
                refine oNil ?_
                refine thn_n ?_
                refine wBlock ?_
                refine wLoop (ι := Nat) (fun k => [(0, .slice A l.length cp), (3, .slice A3 l.length c3), (5, .int .i64 (i : Int)), (6, .int .i64 (k : Int))]) (fun k => [rdr B.e S0 kApiObject A3 l.reverse]) (fun k => k ≤ (l.getD i default).fSymbols.length) (fun k => (l.getD i default).fSymbols.length - k) 0 ?_ (by repeat (first | exact trivial | refine And.intro rfl ?_)) (Leads.has (by repeat' (first | exact Has.nil | exact Pick.here | apply Has.cons | apply Pick.there))) ?_
                ·
                  exact Nat.zero_le _
                ·
                  rintro k hk
                  dsimp only
                  refine wSeq ?_
                  refine wSeq ?_
                  refine wRegion' ?_
                  refine oMove rfl ?_
                  refine oMove rfl ?_
                  refine oMove rfl ?_
                  refine oIdx rfl rfl (hC) rfl (by omega) rfl rfl (fun e55 u55 cs55 hu55 hk55 hc55 => ?_)
                  have hK55 := hk55
                  obtain ⟨A0, c0, A1, c1, A2, c2, rfl, l0, g0, l1, g1, l2, g2⟩ := kApiObject_open hk55
                  have hsm := hf.2 _ (List.mem_of_getElem? hu55)
                  first | refine oFldX (n := 0) (m := 0) rfl rfl rfl ?_ | refine oFldR (n := 0) (m := 0) rfl rfl rfl ?_ | refine oFldD (n := 0) (m := 0) rfl rfl rfl ?_
                  first | refine oLdX rfl hc55 rfl rfl ?_ | refine oLdXA rfl hc55 rfl (by repeat (first | exact SubL.done | apply SubL.take | apply SubL.drop)) ?_ | (refine oLdR1 rfl (by repeat (first | exact Pick.here | apply Pick.there)) (by omega) rfl (fun u57 hu57 => ?_))
                  refine oLenS rfl rfl ?_
                  refine oLss rfl rfl ?_
                  refine oNil ?_
                  refine thn_n ?_
                  first | refine wCond rfl (fun h59 => ?_) (fun h59 => ?_) | refine wCondB rfl (fun h59 => ?_) (fun h59 => ?_)
                  ·
                    refine wSkip ?_
                    refine thn_n ?_
                    refine wSeq ?_
                    refine wBlock ?_
                    refine wSeq ?_
                    refine wRegion' ?_
                    refine oMove rfl ?_
                    refine oMove rfl ?_
                    refine oIdx rfl rfl (hC) rfl (by omega) rfl rfl (fun e64 u64 cs64 hu64 hk64 hc64 => ?_)
                    have hK64 := hk64
                    obtain ⟨A0, c0, A1, c1, A2, c2, rfl, l0, g0, l1, g1, l2, g2⟩ := kApiObject_open hk64
                    obtain rfl := Option.some.inj (hu55.symm.trans hu64)
                    first | refine oFldX (n := 0) (m := 0) rfl rfl rfl ?_ | refine oFldR (n := 0) (m := 0) rfl rfl rfl ?_ | refine oFldD (n := 0) (m := 0) rfl rfl rfl ?_
                    first | refine oLdX rfl hc64 rfl rfl ?_ | refine oLdXA rfl hc64 rfl (by repeat (first | exact SubL.done | apply SubL.take | apply SubL.drop)) ?_ | (refine oLdR1 rfl (by repeat (first | exact Pick.here | apply Pick.there)) (by omega) rfl (fun u66 hu66 => ?_))
                    refine oMove rfl ?_
                    refine oIdx rfl rfl (g0) rfl (by omega) rfl rfl (fun e68 u68 cs68 hu68 hk68 hc68 => ?_)
                    obtain rfl := kApiSymbol_open hk68
                    have hm := sym_mem hu55 hu68
                    obtain ⟨a, b, y, hm', hb, hdef, hnm, hso, hki, _⟩ := bound_right hm (hr.bound _ _ _ hm)
                    have hbr := bound_rev hr hm hb
                    have ha := (mem_syms.1 hm').1
                    first | refine oLdX rfl hc68 rfl rfl ?_ | refine oLdXA rfl hc68 rfl (by repeat (first | exact SubL.done | apply SubL.take | apply SubL.drop)) ?_ | (refine oLdR1 rfl (by repeat (first | exact Pick.here | apply Pick.there)) (by omega) rfl (fun u69 hu69 => ?_))
                    refine oAlloc rfl (by first | exact CellsOf.agg | exact CellsOf.one rfl) (fun b7 => ?_)
                    refine oStA rfl rfl rfl rfl (by repeat (first | exact Pick.here | apply Pick.there)) (by rfl) ?_
                    refine oNil ?_
                    refine thn_n ?_
                    refine wSeq ?_
                    refine wRegion' ?_
                    refine oMove rfl ?_
                    refine oMove rfl ?_
                    refine oMove rfl ?_
                    (refine oCall rfl (by kernel_rfl) (fun w hS => frame hS (by repeat' (first | exact Split.nil | exact Pick.here | apply Split.cons | apply Pick.there)) (fun B' hB hS' => boundx_any hS' A cp l i k (Kd.C_grow hB hC) hl)) ?_; rintro ⟨⟩ -)
                    rw [hb]; try dsimp only
                    refine oMove rfl ?_
                    refine oExt rfl (by repeat (first | exact GetAt.here | apply GetAt.there)) ?_
                    refine oExt rfl (by repeat (first | exact GetAt.here | apply GetAt.there)) ?_
                    refine oExt rfl (by repeat (first | exact GetAt.here | apply GetAt.there)) ?_
                    refine oAssign rfl ?_
                    refine oAssign rfl ?_
                    refine oAssign rfl ?_
                    refine oNil ?_
                    refine thn_n ?_
                    refine wSeq ?_
                    refine wSeq ?_
                    refine wRegion' ?_
                    refine oMove rfl ?_
                    refine oNeq rfl rfl ?_
                    refine oMove rfl ?_
                    first | refine oSplit (t := 80) rfl (fun h80 => ?_) (fun h80 => ?_) | refine oSplitB (t := 80) rfl (fun h80 => ?_) (fun h80 => ?_)
                    ·
                      exact (h80 rfl).elim
                    ·
                      refine oWant rfl rfl ?_
                      refine oMove rfl ?_
                      refine oWant rfl rfl ?_
                      refine oLss rfl rfl ?_
                      refine oPickF rfl rfl ?_
                      refine oMove rfl ?_
                      first | refine oSplit (t := 84) rfl (fun h84 => ?_) (fun h84 => ?_) | refine oSplitB (t := 84) rfl (fun h84 => ?_) (fun h84 => ?_)
                      ·
                        omega
                      ·
                        refine oWant rfl rfl ?_
                        refine oMove rfl ?_
                        refine oWant rfl rfl ?_
                        refine oMove rfl ?_
                        refine oWant rfl rfl ?_
                        refine oLenS rfl rfl ?_
                        refine oWant rfl rfl ?_
                        refine oGeq rfl rfl ?_
                        refine oPickF rfl rfl ?_
                        refine oMove rfl ?_
                        first | refine oSplit (t := 90) rfl (fun h90 => ?_) (fun h90 => ?_) | refine oSplitB (t := 90) rfl (fun h90 => ?_) (fun h90 => ?_)
                        ·
                          omega
                        ·
                          refine oWant rfl rfl ?_
                          refine oMove rfl ?_
                          refine oWant rfl rfl ?_
                          refine oLss rfl rfl ?_
                          refine oPickF rfl rfl ?_
                          refine oMove rfl ?_
                          first | refine oSplit (t := 94) rfl (fun h94 => ?_) (fun h94 => ?_) | refine oSplitB (t := 94) rfl (fun h94 => ?_) (fun h94 => ?_)
                          ·
                            omega
                          ·
                            refine oWant rfl rfl ?_
                            refine oMove rfl ?_
                            refine oWant rfl rfl ?_
                            refine oMove rfl ?_
                            refine oWant rfl rfl ?_
                            refine oMove rfl ?_
                            refine oWant rfl rfl ?_
                            refine oIdx rfl rfl (hC) rfl (by omega) rfl rfl (fun e98 u98 cs98 hu98 hk98 hc98 => ?_)
                            have hK98 := hk98
                            obtain ⟨A0, c0, A1, c1, A2, c2, rfl, l0, g0, l1, g1, l2, g2⟩ := kApiObject_open hk98
                            obtain ⟨hbl, hby⟩ := mem_sym hm' hu98
                            refine oWant rfl rfl ?_
                            first | refine oFldX (n := 0) (m := 0) rfl rfl rfl ?_ | refine oFldR (n := 0) (m := 0) rfl rfl rfl ?_ | refine oFldD (n := 0) (m := 0) rfl rfl rfl ?_
                            refine oWant rfl rfl ?_
                            first | refine oLdX rfl hc98 rfl rfl ?_ | refine oLdXA rfl hc98 rfl (by repeat (first | exact SubL.done | apply SubL.take | apply SubL.drop)) ?_ | (refine oLdR1 rfl (by repeat (first | exact Pick.here | apply Pick.there)) (by omega) rfl (fun u100 hu100 => ?_))
                            refine oWant rfl rfl ?_
                            refine oLenS rfl rfl ?_
                            refine oWant rfl rfl ?_
                            refine oGeq rfl rfl ?_
                            refine oPickF rfl rfl ?_
                            refine oNil ?_
                            refine thn_n ?_
                            first | refine wCond rfl (fun h103 => ?_) (fun h103 => ?_) | refine wCondB rfl (fun h103 => ?_) (fun h103 => ?_)
                            ·
                              omega
                            ·
                              refine wSkip ?_
                              refine thn_n ?_
                              refine wSeq ?_
                              refine wRegion' ?_
                              refine oMove rfl ?_
                              refine oMove rfl ?_
                              refine oIdx rfl rfl (hC) rfl (by omega) rfl rfl (fun e106 u106 cs106 hu106 hk106 hc106 => ?_)
                              have hK106 := hk106
                              obtain ⟨A0, c0, A1, c1, A2, c2, rfl, l0, g0, l1, g1, l2, g2⟩ := kApiObject_open hk106
                              obtain rfl := Option.some.inj (hu98.symm.trans hu106)
                              first | refine oFldX (n := 0) (m := 0) rfl rfl rfl ?_ | refine oFldR (n := 0) (m := 0) rfl rfl rfl ?_ | refine oFldD (n := 0) (m := 0) rfl rfl rfl ?_
                              first | refine oLdX rfl hc106 rfl rfl ?_ | refine oLdXA rfl hc106 rfl (by repeat (first | exact SubL.done | apply SubL.take | apply SubL.drop)) ?_ | (refine oLdR1 rfl (by repeat (first | exact Pick.here | apply Pick.there)) (by omega) rfl (fun u108 hu108 => ?_))
                              refine oMove rfl ?_
                              refine oIdx rfl rfl (g0) rfl (by omega) rfl rfl (fun e110 u110 cs110 hu110 hk110 hc110 => ?_)
                              obtain rfl := kApiSymbol_open hk110
                              obtain rfl := hby _ hu110
                              first | refine oLdX rfl hc110 rfl rfl ?_ | refine oLdXA rfl hc110 rfl (by repeat (first | exact SubL.done | apply SubL.take | apply SubL.drop)) ?_ | (refine oLdR1 rfl (by repeat (first | exact Pick.here | apply Pick.there)) (by omega) rfl (fun u111 hu111 => ?_))
                              refine oAlloc rfl (by first | exact CellsOf.agg | exact CellsOf.one rfl) (fun b11 => ?_)
                              refine oStA rfl rfl rfl rfl (by repeat (first | exact Pick.here | apply Pick.there)) (by rfl) ?_
                              refine oNil ?_
                              refine thn_n ?_
                              refine wSeq ?_
                              refine wRegion' ?_
                              refine oMove rfl ?_
                              refine oSet (t := 113) (v' := .slice A3 l.reverse.length c3) rfl (by rw [List.length_reverse]) ?_
                              refine oMove rfl ?_
                              refine oLenS rfl rfl ?_
                              first | refine oSub rfl rfl (by omega) ?_ | refine oSubW rfl rfl ?_
                              refine oMove rfl ?_
                              first | refine oSub rfl rfl (by omega) ?_ | refine oSubW rfl rfl ?_
                              refine oSet (t := 118) (v' := .int .i64 ((l.length - 1 - i : Nat) : Int)) rfl (by congr 1; omega) ?_
                              refine oMove rfl ?_
                              (refine oCall rfl (by kernel_rfl) (fun w hS => frame' hS .nil (fun B' hB hR hS' => boundx_any hS' A3 c3 l.reverse ((l.length - 1 - i : Nat) : Int) k (rdr_C (hR _ _ (by repeat (first | exact Pick.here | apply Pick.there))) hB) hlr)) ?_; rintro ⟨⟩ -)
                              rw [hbr]; try dsimp only
                              refine oMove rfl ?_
                              refine oExt rfl (by repeat (first | exact GetAt.here | apply GetAt.there)) ?_
                              refine oExt rfl (by repeat (first | exact GetAt.here | apply GetAt.there)) ?_
                              refine oExt rfl (by repeat (first | exact GetAt.here | apply GetAt.there)) ?_
                              refine oAssign rfl ?_
                              refine oAssign rfl ?_
                              refine oAssign rfl ?_
                              refine oNil ?_
                              refine thn_n ?_
                              refine wSeq ?_
                              refine wRegion' ?_
                              refine oFld (n := 4) (m := 4) rfl rfl rfl ?_
                              refine oLd rfl (by repeat (first | exact Pick.here | apply Pick.there)) rfl rfl ?_
                              refine oEql rfl rfl ?_
                              refine oMove rfl ?_
                              first | refine oSplit (t := 127) rfl (fun h127 => ?_) (fun h127 => ?_) | refine oSplitB (t := 127) rfl (fun h127 => ?_) (fun h127 => ?_)
                              ·
                                exact (hdef h127).elim
                              ·
                                refine oWant rfl rfl ?_
                                refine oFld (n := 0) (m := 0) rfl rfl rfl ?_
                                refine oWant rfl rfl ?_
                                refine oLd rfl (by repeat (first | exact Pick.here | apply Pick.there)) rfl rfl ?_
                                refine oWant rfl rfl ?_
                                refine oFld (n := 0) (m := 0) rfl rfl rfl ?_
                                refine oWant rfl rfl ?_
                                refine oLd rfl (by repeat (first | exact Pick.here | apply Pick.there)) rfl rfl ?_
                                refine oWant rfl rfl ?_
                                refine oSNe rfl rfl ?_
                                refine oPickF rfl rfl ?_
                                refine oMove rfl ?_
                                first | refine oSplit (t := 134) rfl (fun h134 => ?_) (fun h134 => ?_) | refine oSplitB (t := 134) rfl (fun h134 => ?_) (fun h134 => ?_)
                                ·
                                  exact (h134 hnm).elim
                                ·
                                  refine oWant rfl rfl ?_
                                  refine oFld (n := 2) (m := 2) rfl rfl rfl ?_
                                  refine oWant rfl rfl ?_
                                  refine oLd rfl (by repeat (first | exact Pick.here | apply Pick.there)) rfl rfl ?_
                                  refine oWant rfl rfl ?_
                                  refine oFld (n := 2) (m := 2) rfl rfl rfl ?_
                                  refine oWant rfl rfl ?_
                                  refine oLd rfl (by repeat (first | exact Pick.here | apply Pick.there)) rfl rfl ?_
                                  refine oWant rfl rfl ?_
                                  refine oNeq rfl rfl ?_
                                  refine oPickF rfl rfl ?_
                                  refine oMove rfl ?_
                                  first | refine oSplit (t := 141) rfl (fun h141 => ?_) (fun h141 => ?_) | refine oSplitB (t := 141) rfl (fun h141 => ?_) (fun h141 => ?_)
                                  ·
                                    exact (h141 hso).elim
                                  ·
                                    refine oWant rfl rfl ?_
                                    refine oFld (n := 3) (m := 3) rfl rfl rfl ?_
                                    refine oWant rfl rfl ?_
                                    refine oLd rfl (by repeat (first | exact Pick.here | apply Pick.there)) rfl rfl ?_
                                    refine oWant rfl rfl ?_
                                    refine oFld (n := 3) (m := 3) rfl rfl rfl ?_
                                    refine oWant rfl rfl ?_
                                    refine oLd rfl (by repeat (first | exact Pick.here | apply Pick.there)) rfl rfl ?_
                                    refine oWant rfl rfl ?_
                                    refine oNeq rfl rfl ?_
                                    refine oPickF rfl rfl ?_
                                    refine oMove rfl ?_
                                    first | refine oSplit (t := 148) rfl (fun h148 => ?_) (fun h148 => ?_) | refine oSplitB (t := 148) rfl (fun h148 => ?_) (fun h148 => ?_)
                                    ·
                                      exact (h148 hki).elim
                                    ·
                                      refine oWant rfl rfl ?_
                                      refine oMove rfl ?_
                                      refine oWant rfl rfl ?_
                                      refine oMove rfl ?_
                                      refine oWant rfl rfl ?_
                                      refine oLenS rfl rfl ?_
                                      refine oWant rfl rfl ?_
                                      first | refine oSub rfl rfl (by omega) ?_ | refine oSubW rfl rfl ?_
                                      refine oWant rfl rfl ?_
                                      refine oMove rfl ?_
                                      refine oWant rfl rfl ?_
                                      first | refine oSub rfl rfl (by omega) ?_ | refine oSubW rfl rfl ?_
                                      refine oWant rfl rfl ?_
                                      refine oNeq rfl rfl ?_
                                      refine oPickF rfl rfl ?_
                                      refine oMove rfl ?_
                                      first | refine oSplit (t := 157) rfl (fun h157 => ?_) (fun h157 => ?_) | refine oSplitB (t := 157) rfl (fun h157 => ?_) (fun h157 => ?_)
                                      ·
                                        omega
                                      ·
                                        refine oWant rfl rfl ?_
                                        refine oMove rfl ?_
                                        refine oWant rfl rfl ?_
                                        refine oMove rfl ?_
                                        refine oWant rfl rfl ?_
                                        refine oNeq rfl rfl ?_
                                        refine oPickF rfl rfl ?_
                                        refine oNil ?_
                                        refine thn_n ?_
                                        first | refine wCond rfl (fun h161 => ?_) (fun h161 => ?_) | refine wCondB rfl (fun h161 => ?_) (fun h161 => ?_)
                                        ·
                                          omega
                                        ·
                                          refine wSkip ?_
                                          refine blk_n ?_
                                          refine thn_n ?_
                                          refine wRegion' ?_
                                          refine oMove rfl ?_
                                          refine oSucc rfl rfl (by omega) ?_
                                          refine oAssign rfl ?_
                                          refine oNil ?_
                                          refine thn_n ?_
                                          exact ⟨rfl, k + 1, by rw [getD_of hu55]; omega, by rw [getD_of hu55]; omega, (by repeat (first | exact trivial | refine And.intro rfl ?_)), (Leads.has (by repeat' (first | exact Has.nil | exact Pick.here | apply Has.cons | apply Pick.there)))⟩
                  ·
                    refine wExit ?_
                    refine thn_x ?_
                    refine thn_x ?_
                    refine blk_x ?_
                    refine blk_n ?_
                    refine thn_n ?_
                    refine wRegion' ?_
                    refine oMove rfl ?_
                    refine oSucc rfl rfl (by omega) ?_
                    refine oAssign rfl ?_
                    refine oNil ?_
                    refine thn_n ?_
                    exact ⟨rfl, i + 1, by omega, by omega, (by repeat (first | exact trivial | refine And.intro rfl ?_)), (Leads.has (by repeat' (first | exact Has.nil | exact Pick.here | apply Has.cons | apply Pick.there)))⟩
              ·
                refine wExit ?_
                refine thn_x ?_
                refine thn_x ?_
                refine blk_x ?_
                refine thn_n ?_
                refine wSeq ?_
                refine wRegion' ?_
                (refine oCall rfl (by kernel_rfl) (fun w hS => frame hS (by repeat' (first | exact Split.nil | exact Pick.here | apply Split.cons | apply Pick.there)) (fun B' hB hS' => known23 hS')) ?_; rintro ⟨⟩ -)
                refine oAssign rfl ?_
                refine oNil ?_
                refine thn_n ?_
                refine wRet ?_
                refine fin_r ?_
                refine ⟨rfl, _, (ResL.cons (ResR.tmp rfl) ResL.nil), ?_⟩
                exact ⟨(), trivial, rfl, (Leads.has (by repeat' (first | exact Has.nil | exact Pick.here | apply Has.cons | apply Pick.there)))⟩
end Go.Proofs.YtnidmlngkpkmlaaS
