/-
  Package scope: bound.
-/
import Derived.Test.YtnidmlngkpkmlaaSd
import Derived.Test.YtnidmlngkpkmlaaKn
namespace Go.Proofs.YtnidmlngkpkmlaaS
set_option linter.unusedVariables false
set_option linter.unusedSimpArgs false
open Go.RowKit Go.Proofs.YtnidmlngkpkmlaaK Go.Proofs.YtnidmlngkpkmlaaT

set_option maxRecDepth 100000 in
set_option maxHeartbeats 600000 in
theorem bound_any {B : Base} {w : World} (A : Option Addr) (cp m : Nat) (l : List ApiObject) (i k : Int) (hS : St B [kmap Value.string placeV m (firstOf l)] w) (hC : kApiObject.C B.e A l) (hl : Small l) :
    CallsIn Fence.wide 0 Try.prog 48 #[.slice A l.length cp, .map (some m), .int .i64 i, .int .i64 k] w (Ret B (fun _ : Unit => True) (fun _ => boundV (boundS l i k)) (fun _ => [kmap Value.string placeV m (firstOf l)])) := by
  (refine enter Try.func48 rfl rfl hS ?_; simp only [List.zipIdx_cons, List.zipIdx_nil, List.map_cons, List.map_nil, Nat.reduceAdd, Nat.zero_add])
  refine wSeq ?_
  refine wRegion' ?_
  refine oAlloc rfl (by first | exact CellsOf.agg | exact CellsOf.one rfl) (fun b8 => ?_)
  refine oAssign rfl ?_
  refine oNil ?_
  refine thn_n ?_
  refine wSeq ?_
  refine wSeq ?_
  refine wRegion' ?_
  refine oMove rfl ?_
  refine oLss rfl rfl ?_
  refine oMove rfl ?_
  first | refine oSplit (t := 16) rfl (fun h16 => ?_) (fun h16 => ?_) | refine oSplitB (t := 16) rfl (fun h16 => ?_) (fun h16 => ?_)
  ·
    refine oSkip rfl rfl rfl rfl ?_
    refine oSkip rfl rfl rfl rfl ?_
    refine oSkip rfl rfl rfl rfl ?_
    refine oSkip rfl rfl rfl rfl ?_
    refine oPickT rfl rfl ?_
    refine oMove rfl ?_
    refine oSkip rfl rfl rfl rfl ?_
    refine oSkip rfl rfl rfl rfl ?_
    refine oPickT rfl rfl ?_
    refine oMove rfl ?_
    refine oSkip rfl rfl rfl rfl ?_
    refine oSkip rfl rfl rfl rfl ?_
    refine oSkip rfl rfl rfl rfl ?_
    refine oSkip rfl rfl rfl rfl ?_
    refine oSkip rfl rfl rfl rfl ?_
    refine oSkip rfl rfl rfl rfl ?_
    refine oSkip rfl rfl rfl rfl ?_
    refine oSkip rfl rfl rfl rfl ?_
    refine oPickT rfl rfl ?_
    refine oNil ?_
    refine thn_n ?_
    refine wCondT rfl ?_
    refine wSeq ?_
    refine wRegion' ?_
    refine oBuild Parts.nil rfl rfl Built.nil ?_
    refine oStA rfl rfl rfl rfl (by repeat (first | exact Pick.here | apply Pick.there)) (by rfl) ?_
    refine oAssign rfl ?_
    refine oNil ?_
    refine thn_n ?_
    refine wRet ?_
    refine thn_r ?_
    refine fin_r ?_
    refine ⟨rfl, _, (ResL.cons (by first | exact ResR.cell rfl (by repeat (first | exact Pick.here | apply Pick.there)) rfl | exact ResR.agg rfl (by repeat (first | exact Pick.here | apply Pick.there)) rfl rfl) (ResL.cons (ResR.tmp rfl) ResL.nil)), ?_⟩
    exact ⟨(), trivial, by rw [bound_bad (by omega)]; rfl, (Leads.has (by repeat' (first | exact Has.nil | exact Pick.here | apply Has.cons | apply Pick.there)))⟩
  ·
    refine oWant rfl rfl ?_
    refine oMove rfl ?_
    refine oWant rfl rfl ?_
    refine oMove rfl ?_
    refine oWant rfl rfl ?_
    refine oLenS rfl rfl ?_
    refine oWant rfl rfl ?_
    refine oGeq rfl rfl ?_
    refine oPickF rfl rfl ?_
    refine oMove rfl ?_
    first | refine oSplit (t := 22) rfl (fun h22 => ?_) (fun h22 => ?_) | refine oSplitB (t := 22) rfl (fun h22 => ?_) (fun h22 => ?_)
    ·
      refine oSkip rfl rfl rfl rfl ?_
      refine oSkip rfl rfl rfl rfl ?_
      refine oPickT rfl rfl ?_
      refine oMove rfl ?_
      refine oSkip rfl rfl rfl rfl ?_
      refine oSkip rfl rfl rfl rfl ?_
      refine oSkip rfl rfl rfl rfl ?_
      refine oSkip rfl rfl rfl rfl ?_
      refine oSkip rfl rfl rfl rfl ?_
      refine oSkip rfl rfl rfl rfl ?_
      refine oSkip rfl rfl rfl rfl ?_
      refine oSkip rfl rfl rfl rfl ?_
      refine oPickT rfl rfl ?_
      refine oNil ?_
      refine thn_n ?_
      refine wCondT rfl ?_
      refine wSeq ?_
      refine wRegion' ?_
      refine oBuild Parts.nil rfl rfl Built.nil ?_
      refine oStA rfl rfl rfl rfl (by repeat (first | exact Pick.here | apply Pick.there)) (by rfl) ?_
      refine oAssign rfl ?_
      refine oNil ?_
      refine thn_n ?_
      refine wRet ?_
      refine thn_r ?_
      refine fin_r ?_
      refine ⟨rfl, _, (ResL.cons (by first | exact ResR.cell rfl (by repeat (first | exact Pick.here | apply Pick.there)) rfl | exact ResR.agg rfl (by repeat (first | exact Pick.here | apply Pick.there)) rfl rfl) (ResL.cons (ResR.tmp rfl) ResL.nil)), ?_⟩
      exact ⟨(), trivial, by rw [bound_bad (by omega)]; rfl, (Leads.has (by repeat' (first | exact Has.nil | exact Pick.here | apply Has.cons | apply Pick.there)))⟩
    ·
      refine oWant rfl rfl ?_
      refine oMove rfl ?_
      refine oWant rfl rfl ?_
      refine oLss rfl rfl ?_
      refine oPickF rfl rfl ?_
      refine oMove rfl ?_
      first | refine oSplit (t := 26) rfl (fun h26 => ?_) (fun h26 => ?_) | refine oSplitB (t := 26) rfl (fun h26 => ?_) (fun h26 => ?_)
      ·
        refine oSkip rfl rfl rfl rfl ?_
        refine oSkip rfl rfl rfl rfl ?_
        refine oSkip rfl rfl rfl rfl ?_
        refine oSkip rfl rfl rfl rfl ?_
        refine oSkip rfl rfl rfl rfl ?_
        refine oSkip rfl rfl rfl rfl ?_
        refine oSkip rfl rfl rfl rfl ?_
        refine oSkip rfl rfl rfl rfl ?_
        refine oPickT rfl rfl ?_
        refine oNil ?_
        refine thn_n ?_
        refine wCondT rfl ?_
        refine wSeq ?_
        refine wRegion' ?_
        refine oBuild Parts.nil rfl rfl Built.nil ?_
        refine oStA rfl rfl rfl rfl (by repeat (first | exact Pick.here | apply Pick.there)) (by rfl) ?_
        refine oAssign rfl ?_
        refine oNil ?_
        refine thn_n ?_
        refine wRet ?_
        refine thn_r ?_
        refine fin_r ?_
        refine ⟨rfl, _, (ResL.cons (by first | exact ResR.cell rfl (by repeat (first | exact Pick.here | apply Pick.there)) rfl | exact ResR.agg rfl (by repeat (first | exact Pick.here | apply Pick.there)) rfl rfl) (ResL.cons (ResR.tmp rfl) ResL.nil)), ?_⟩
        exact ⟨(), trivial, by rw [bound_bad (by omega)]; rfl, (Leads.has (by repeat' (first | exact Has.nil | exact Pick.here | apply Has.cons | apply Pick.there)))⟩
      ·
        obtain ⟨i, rfl⟩ := Int.eq_ofNat_of_zero_le (show 0 ≤ i by omega)
        obtain ⟨k, rfl⟩ := Int.eq_ofNat_of_zero_le (show 0 ≤ k by omega)
        refine oWant rfl rfl ?_
        refine oMove rfl ?_
        refine oWant rfl rfl ?_
        refine oMove rfl ?_
        refine oWant rfl rfl ?_
        refine oMove rfl ?_
        refine oWant rfl rfl ?_
        refine oIdx rfl rfl (hC) rfl (by omega) rfl rfl (fun e30 u30 cs30 hu30 hk30 hc30 => ?_)
        obtain ⟨A0, c0, A1, c1, A2, c2, rfl, l0, g0, l1, g1, l2, g2⟩ := kApiObject_open hk30
        refine oWant rfl rfl ?_
        first | refine oFldX (n := 0) (m := 0) rfl rfl rfl ?_ | refine oFldR (n := 0) (m := 0) rfl rfl rfl ?_ | refine oFldD (n := 0) (m := 0) rfl rfl rfl ?_
        refine oWant rfl rfl ?_
        first | refine oLdX rfl hc30 rfl rfl ?_ | refine oLdXA rfl hc30 rfl (by repeat (first | exact SubL.done | apply SubL.take | apply SubL.drop)) ?_ | (refine oLdR1 rfl (by repeat (first | exact Pick.here | apply Pick.there)) (by omega) rfl (fun u32 hu32 => ?_))
        refine oWant rfl rfl ?_
        refine oLenS rfl rfl ?_
        refine oWant rfl rfl ?_
        refine oGeq rfl rfl ?_
        refine oPickF rfl rfl ?_
        refine oNil ?_
        refine thn_n ?_
        first | refine wCond rfl (fun h35 => ?_) (fun h35 => ?_) | refine wCondB rfl (fun h35 => ?_) (fun h35 => ?_)
        ·
          refine wSeq ?_
          refine wRegion' ?_
          refine oBuild Parts.nil rfl rfl Built.nil ?_
          refine oStA rfl rfl rfl rfl (by repeat (first | exact Pick.here | apply Pick.there)) (by rfl) ?_
          refine oAssign rfl ?_
          refine oNil ?_
          refine thn_n ?_
          refine wRet ?_
          refine thn_r ?_
          refine fin_r ?_
          refine ⟨rfl, _, (ResL.cons (by first | exact ResR.cell rfl (by repeat (first | exact Pick.here | apply Pick.there)) rfl | exact ResR.agg rfl (by repeat (first | exact Pick.here | apply Pick.there)) rfl rfl) (ResL.cons (ResR.tmp rfl) ResL.nil)), ?_⟩
          exact ⟨(), trivial, by rw [bound_bad (by right; right; right; rw [Int.toNat_natCast, getD_of hu30]; omega)]; rfl, (Leads.has (by repeat' (first | exact Has.nil | exact Pick.here | apply Has.cons | apply Pick.there)))⟩
        ·
          refine wSkip ?_
          refine thn_n ?_
          refine wSeq ?_
          refine wRegion' ?_
          refine oMove rfl ?_
          refine oMove rfl ?_
          refine oIdx rfl rfl (hC) rfl (by omega) rfl rfl (fun e39 u39 cs39 hu39 hk39 hc39 => ?_)
          obtain ⟨A0, c0, A1, c1, A2, c2, rfl, l0, g0, l1, g1, l2, g2⟩ := kApiObject_open hk39
          obtain rfl := Option.some.inj (hu30.symm.trans hu39)
          first | refine oFldX (n := 0) (m := 0) rfl rfl rfl ?_ | refine oFldR (n := 0) (m := 0) rfl rfl rfl ?_ | refine oFldD (n := 0) (m := 0) rfl rfl rfl ?_
          first | refine oLdX rfl hc39 rfl rfl ?_ | refine oLdXA rfl hc39 rfl (by repeat (first | exact SubL.done | apply SubL.take | apply SubL.drop)) ?_ | (refine oLdR1 rfl (by repeat (first | exact Pick.here | apply Pick.there)) (by omega) rfl (fun u41 hu41 => ?_))
          refine oMove rfl ?_
          refine oIdx rfl rfl (g0) rfl (by omega) rfl rfl (fun e43 u43 cs43 hu43 hk43 hc43 => ?_)
          obtain rfl := kApiSymbol_open hk43
          first | refine oLdX rfl hc43 rfl rfl ?_ | refine oLdXA rfl hc43 rfl (by repeat (first | exact SubL.done | apply SubL.take | apply SubL.drop)) ?_ | (refine oLdR1 rfl (by repeat (first | exact Pick.here | apply Pick.there)) (by omega) rfl (fun u44 hu44 => ?_))
          refine oAlloc rfl (by first | exact CellsOf.agg | exact CellsOf.one rfl) (fun b10 => ?_)
          refine oStA rfl rfl rfl rfl (by repeat (first | exact Pick.here | apply Pick.there)) (by rfl) ?_
          refine oNil ?_
          refine thn_n ?_
          refine wSeq ?_
          refine wSeq ?_
          refine wRegion' ?_
          refine oFld (n := 4) (m := 4) rfl rfl rfl ?_
          refine oLd rfl (by repeat (first | exact Pick.here | apply Pick.there)) rfl rfl ?_
          refine oNeq rfl rfl ?_
          refine oNil ?_
          refine thn_n ?_
          first | refine wCond rfl (fun h47 => ?_) (fun h47 => ?_) | refine wCondB rfl (fun h47 => ?_) (fun h47 => ?_)
          ·
            refine wSeq ?_
            refine wRegion' ?_
            refine oMove rfl ?_
            refine oMove rfl ?_
            refine oBuild (Parts.cons rfl (Parts.cons rfl Parts.nil)) rfl rfl (Built.cons (off := 0) (s := 1) rfl (by first | exact CellsOf.agg | exact CellsOf.one rfl) rfl (by repeat (first | exact PutL.done | apply PutL.put | apply PutL.skip)) (Built.cons (off := 1) (s := 1) rfl (by first | exact CellsOf.agg | exact CellsOf.one rfl) rfl (by repeat (first | exact PutL.done | apply PutL.put | apply PutL.skip)) Built.nil)) ?_
            refine oStA rfl rfl rfl rfl (by repeat (first | exact Pick.here | apply Pick.there)) (by rfl) ?_
            refine oAssign rfl ?_
            refine oNil ?_
            refine thn_n ?_
            refine wRet ?_
            refine thn_r ?_
            refine fin_r ?_
            refine ⟨rfl, _, (ResL.cons (by first | exact ResR.cell rfl (by repeat (first | exact Pick.here | apply Pick.there)) rfl | exact ResR.agg rfl (by repeat (first | exact Pick.here | apply Pick.there)) rfl rfl) (ResL.cons (ResR.tmp rfl) ResL.nil)), ?_⟩
            exact ⟨(), trivial, by rw [bound_good hu30 hu43, if_pos h47]; rfl, (Leads.has (by repeat' (first | exact Has.nil | exact Pick.here | apply Has.cons | apply Pick.there)))⟩
          ·
            have hb := bound_good hu30 hu43
            rw [if_neg h47] at hb
            refine wSkip ?_
            refine thn_n ?_
            refine wSeq ?_
            refine wRegion' ?_
            refine oMove rfl ?_
            refine oFld (n := 0) (m := 0) rfl rfl rfl ?_
            refine oLd rfl (by repeat (first | exact Pick.here | apply Pick.there)) rfl rfl ?_
            refine oLookOk (ev := placeV) (m := firstOf l) keyE_str rfl rfl rfl (by repeat (first | exact Pick.here | apply Pick.there)) (r := placeV ((firstOf l u43.fName).getD (0, 0))) (by cases firstOf l u43.fName <;> rfl) ?_
            refine oMove rfl ?_
            refine oExt rfl (by repeat (first | exact GetAt.here | apply GetAt.there)) ?_
            refine oExt rfl (by repeat (first | exact GetAt.here | apply GetAt.there)) ?_
            refine oAlloc rfl (by first | exact CellsOf.agg | exact CellsOf.one rfl) (fun b11 => ?_)
            refine oStA rfl rfl rfl rfl (by repeat (first | exact Pick.here | apply Pick.there)) (by rfl) ?_
            refine oAssign rfl ?_
            refine oNil ?_
            refine thn_n ?_
            refine wSeq ?_
            refine wSeq ?_
            refine wRegion' ?_
            refine oMove rfl ?_
            first | refine oNot rfl ?_ | refine oNotB rfl ?_
            refine oNil ?_
            refine thn_n ?_
            first | refine wCond rfl (fun h59 => ?_) (fun h59 => ?_) | refine wCondB rfl (fun h59 => ?_) (fun h59 => ?_)
            ·
              refine wSeq ?_
              refine wRegion' ?_
              refine oBuild Parts.nil rfl rfl Built.nil ?_
              refine oStA rfl rfl rfl rfl (by repeat (first | exact Pick.here | apply Pick.there)) (by rfl) ?_
              refine oAssign rfl ?_
              refine oNil ?_
              refine thn_n ?_
              refine wRet ?_
              refine thn_r ?_
              refine fin_r ?_
              refine ⟨rfl, _, (ResL.cons (by first | exact ResR.cell rfl (by repeat (first | exact Pick.here | apply Pick.there)) rfl | exact ResR.agg rfl (by repeat (first | exact Pick.here | apply Pick.there)) rfl rfl) (ResL.cons (ResR.tmp rfl) ResL.nil)), ?_⟩
              exact ⟨(), trivial, by rw [hb, show firstOf l u43.fName = none by simpa using h59]; rfl, (Leads.has (by repeat' (first | exact Has.nil | exact Pick.here | apply Has.cons | apply Pick.there)))⟩
            ·
              have hf : firstOf l u43.fName = some ((firstOf l u43.fName).getD (0, 0)) := by
                cases hq : firstOf l u43.fName with
                | none => simp [hq] at h59
                | some p => rfl
              obtain ⟨y, hy, hyg, hyn⟩ := first_some hf
              obtain ⟨hp1, hp2, _⟩ := mem_syms.1 hy
              refine wSkip ?_
              refine thn_n ?_
              refine wSeq ?_
              refine wSeq ?_
              refine wDrawA rfl rfl [0] [1, 2, 3, 4, 5, 6, 7, 8, 9] 10 rfl rfl (by kernel_rfl) rfl rfl rfl rfl (fun w0 => ?_)
              refine oFld (n := 0) (m := 0) rfl rfl rfl ?_
              refine oLd rfl (by repeat (first | exact Pick.here | apply Pick.there)) rfl rfl ?_
              refine oIdx rfl rfl (hC) rfl (by omega) rfl rfl (fun e64 u64 cs64 hu64 hk64 hc64 => ?_)
              obtain ⟨A0, c0, A1, c1, A2, c2, rfl, l0, g0, l1, g1, l2, g2⟩ := kApiObject_open hk64
              first | refine oFldX (n := 0) (m := 0) rfl rfl rfl ?_ | refine oFldR (n := 0) (m := 0) rfl rfl rfl ?_ | refine oFldD (n := 0) (m := 0) rfl rfl rfl ?_
              first | refine oLdX rfl hc64 rfl rfl ?_ | refine oLdXA rfl hc64 rfl (by repeat (first | exact SubL.done | apply SubL.take | apply SubL.drop)) ?_ | (refine oLdR1 rfl (by repeat (first | exact Pick.here | apply Pick.there)) (by omega) rfl (fun u66 hu66 => ?_))
              refine oFld (n := 1) (m := 1) rfl rfl rfl ?_
              refine oLd rfl (by repeat (first | exact Pick.here | apply Pick.there)) rfl rfl ?_
              refine oIdx rfl rfl (g0) rfl (by rw [getD_of hu64] at hp2; exact hp2) rfl rfl (fun e69 u69 cs69 hu69 hk69 hc69 => ?_)
              obtain rfl := kApiSymbol_open hk69
              first | refine oLdX rfl hc69 rfl rfl ?_ | refine oLdXA rfl hc69 rfl (by repeat (first | exact SubL.done | apply SubL.take | apply SubL.drop)) ?_ | (refine oLdR1 rfl (by repeat (first | exact Pick.here | apply Pick.there)) (by rw [getD_of hu64] at hp2; exact hp2) rfl (fun u70 hu70 => ?_))
              have hs : symAt l ((firstOf l u43.fName).getD (0, 0)).1 ((firstOf l u43.fName).getD (0, 0)).2 = u69 := by unfold symAt; rw [Int.toNat_natCast, Int.toNat_natCast, getD_of hu64, getD_of hu69]
              refine oHead ?_
              refine oAlloc rfl (by first | exact CellsOf.agg | exact CellsOf.one rfl) (fun b13 => ?_)
              refine oStA rfl rfl rfl rfl (by repeat (first | exact Pick.here | apply Pick.there)) (by rfl) ?_
              refine oNilT ?_
              refine thn_n ?_
              refine wSeq ?_
              refine wRegion' ?_
              refine oFld (n := 2) (m := 2) rfl rfl rfl ?_
              refine oLd rfl (by repeat (first | exact Pick.here | apply Pick.there)) rfl rfl ?_
              refine oFld (n := 2) (m := 2) rfl rfl rfl ?_
              refine oLd rfl (by repeat (first | exact Pick.here | apply Pick.there)) rfl rfl ?_
              refine oNeq rfl rfl ?_
              refine oMove rfl ?_
              first | refine oSplit (t := 76) rfl (fun h76 => ?_) (fun h76 => ?_) | refine oSplitB (t := 76) rfl (fun h76 => ?_) (fun h76 => ?_)
              ·
                refine oSkip rfl rfl rfl rfl ?_
                refine oSkip rfl rfl rfl rfl ?_
                refine oSkip rfl rfl rfl rfl ?_
                refine oSkip rfl rfl rfl rfl ?_
                refine oSkip rfl rfl rfl rfl ?_
                refine oPickT rfl rfl ?_
                refine oNil ?_
                refine thn_n ?_
                refine wCondT rfl ?_
                refine wSeq ?_
                refine wRegion' ?_
                refine oBuild Parts.nil rfl rfl Built.nil ?_
                refine oStA rfl rfl rfl rfl (by repeat (first | exact Pick.here | apply Pick.there)) (by rfl) ?_
                refine oAssign rfl ?_
                refine oNil ?_
                refine thn_n ?_
                refine wRet ?_
                refine thn_r ?_
                refine fin_r ?_
                refine ⟨rfl, _, (ResL.cons (by first | exact ResR.cell rfl (by repeat (first | exact Pick.here | apply Pick.there)) rfl | exact ResR.agg rfl (by repeat (first | exact Pick.here | apply Pick.there)) rfl rfl) (ResL.cons (ResR.tmp rfl) ResL.nil)), ?_⟩
                exact ⟨(), trivial, by rw [hb, hf]; dsimp only; rw [hs, if_pos (.inl h76)]; rfl, (Leads.has (by repeat' (first | exact Has.nil | exact Pick.here | apply Has.cons | apply Pick.there)))⟩
              ·
                refine oWant rfl rfl ?_
                refine oFld (n := 3) (m := 3) rfl rfl rfl ?_
                refine oWant rfl rfl ?_
                refine oLd rfl (by repeat (first | exact Pick.here | apply Pick.there)) rfl rfl ?_
                refine oWant rfl rfl ?_
                refine oFld (n := 3) (m := 3) rfl rfl rfl ?_
                refine oWant rfl rfl ?_
                refine oLd rfl (by repeat (first | exact Pick.here | apply Pick.there)) rfl rfl ?_
                refine oWant rfl rfl ?_
                refine oNeq rfl rfl ?_
                refine oPickF rfl rfl ?_
                refine oNil ?_
                refine thn_n ?_
                first | refine wCond rfl (fun h82 => ?_) (fun h82 => ?_) | refine wCondB rfl (fun h82 => ?_) (fun h82 => ?_)
                ·
                  refine wSeq ?_
                  refine wRegion' ?_
                  refine oBuild Parts.nil rfl rfl Built.nil ?_
                  refine oStA rfl rfl rfl rfl (by repeat (first | exact Pick.here | apply Pick.there)) (by rfl) ?_
                  refine oAssign rfl ?_
                  refine oNil ?_
                  refine thn_n ?_
                  refine wRet ?_
                  refine thn_r ?_
                  refine fin_r ?_
                  refine ⟨rfl, _, (ResL.cons (by first | exact ResR.cell rfl (by repeat (first | exact Pick.here | apply Pick.there)) rfl | exact ResR.agg rfl (by repeat (first | exact Pick.here | apply Pick.there)) rfl rfl) (ResL.cons (ResR.tmp rfl) ResL.nil)), ?_⟩
                  exact ⟨(), trivial, by rw [hb, hf]; dsimp only; rw [hs, if_pos (.inr h82)]; rfl, (Leads.has (by repeat' (first | exact Has.nil | exact Pick.here | apply Has.cons | apply Pick.there)))⟩
                ·
                  refine wSkip ?_
                  refine thn_n ?_
                  refine wSeq ?_
                  refine wRegion' ?_
                  refine oLdA rfl (by repeat (first | exact Pick.here | apply Pick.there)) rfl (by repeat (first | exact SubL.done | apply SubL.take | apply SubL.drop)) ?_
                  refine oStA rfl rfl rfl rfl (by repeat (first | exact Pick.here | apply Pick.there)) (by rfl) ?_
                  refine oAssign rfl ?_
                  refine oNil ?_
                  refine thn_n ?_
                  refine wRet ?_
                  refine fin_r ?_
                  refine ⟨rfl, _, (ResL.cons (by first | exact ResR.cell rfl (by repeat (first | exact Pick.here | apply Pick.there)) rfl | exact ResR.agg rfl (by repeat (first | exact Pick.here | apply Pick.there)) rfl rfl) (ResL.cons (ResR.tmp rfl) ResL.nil)), ?_⟩
                  exact ⟨(), trivial, by rw [hb, hf]; dsimp only; rw [hs, if_neg (by rintro (h | h); exact h76 h; exact h82 h)]; rfl, (Leads.has (by repeat' (first | exact Has.nil | exact Pick.here | apply Has.cons | apply Pick.there)))⟩
end Go.Proofs.YtnidmlngkpkmlaaS
