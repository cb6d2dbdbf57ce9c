/-
  sheerleglaw11: CycleLess.
-/
import Derived.Test.YtnidmlngkpkmlaaGs
import Derived.Test.YtnidmlngkpkmlaaGt
namespace Go.Proofs.YtnidmlngkpkmlaaG
set_option linter.unusedVariables false
set_option linter.unusedSimpArgs false
open Go.RowKit Go.Proofs.YtnidmlngkpkmlaaK Go.Proofs.YtnidmlngkpkmlaaT Go.Proofs.YtnidmlngkpkmlaaL

theorem less_mem {g : Graph} {ib : List Bool} {k : Nat} {x : Int} (h : memF g (ib.set k false) x = true) : memF g ib x = true ∧ x ≠ (k : Int) := by
  unfold memF at *
  simp only [Bool.and_eq_true, decide_eq_true_eq, List.length_set] at *
  obtain ⟨⟨⟨h1, h2⟩, h3⟩, h4⟩ := h
  obtain ⟨c, rfl⟩ := Int.eq_ofNat_of_zero_le h1
  rw [Int.toNat_natCast] at h4 ⊢
  rw [set_getD] at h4
  simp only [Bool.and_eq_true, bne_iff_ne, ne_eq] at h4
  exact ⟨⟨⟨⟨h1, h2⟩, h3⟩, h4.1⟩, by omega⟩
theorem less_ed {g : Graph} {ib : List Bool} {k : Nat} (a b : Nat) (h : edE g (ib.set k false) a b = true) : edE g ib a b = true := by
  obtain ⟨h1, h2, h3, h4, h5⟩ := edE_iff.1 h
  exact edE_iff.2 ⟨h1, h2, h3, (less_mem h4).1, (less_mem h5).1⟩
theorem less_ok {g : Graph} {ib : List Bool} {k : Nat} (h : okO g ib = true) : okO g (ib.set k false) = true := by
  rw [ok_iff] at *
  exact fun a hp => h a (hp.mono less_ed)
theorem less_on {g : Graph} {ib : List Bool} {k : Nat} {x : Int} (h : x ∈ onL g (ib.set k false)) : x ∈ onL g ib ∧ x ≠ (k : Int) := by
  obtain ⟨c, rfl, hp⟩ := on_mem.1 h
  refine ⟨on_mem.2 ⟨c, rfl, hp.mono less_ed⟩, ?_⟩
  have hm : memF g (ib.set k false) (c : Int) = true := by
    cases hp with
    | one h => exact (edE_iff.1 h).2.2.2.1
    | snoc _ h => exact (edE_iff.1 h).2.2.2.2
  exact (less_mem hm).2
theorem onL_len (g : Graph) (ib : List Bool) : (onL g ib).length ≤ g.length := selTo_len _ _

set_option maxRecDepth 100000 in
set_option maxHeartbeats 1000000 in
theorem cycleLess {B : Base} {w : World} (hS : St B [] w) (A : Option Addr) (cp : Nat) (g : Graph) (hC : kII.C B.e A g) (A1 : Option Addr) (cp1 : Nat) (ib : List Bool) (hC1 : Kd.bool.C B.e A1 ib) (at_ : Int) :
    CallsIn Fence.wide 0 Try.prog 12 #[.slice A g.length cp, .slice A1 ib.length cp1, .int .i64 at_] w (Ret B (fun _ : Unit => True) (fun _ => .bool true) (fun _ => [])) := by
  have m1 := hC1.1
  (refine enter Try.func12 rfl rfl hS ?_; simp only [List.zipIdx_cons, List.zipIdx_nil, List.map_cons, List.map_nil, Nat.reduceAdd, Nat.zero_add])
  refine wSeq ?_
  refine wRegion' ?_
  refine oAssign rfl ?_
  refine oNil ?_
  refine thn_n ?_
  refine wSeq ?_
  refine wSeq ?_
  refine wRegion' ?_
  refine oMove rfl ?_
  (refine oCall rfl (by kernel_rfl) (fun w hS => frame hS (by repeat' (first | exact Split.nil | exact Pick.here | apply Split.cons | apply Pick.there)) (fun B' hB hS' => few10 hS' A cp g (Kd.C_grow hB hC))) ?_; rintro r16 h16')
  first | refine oNot rfl ?_ | refine oNotB rfl ?_
  refine oMove rfl ?_
  first | refine oSplit (t := 18) rfl (fun h18 => ?_) (fun h18 => ?_) | refine oSplitB (t := 18) rfl (fun h18 => ?_) (fun h18 => ?_)
  ·
    refine oSkip rfl rfl rfl rfl ?_
    refine oSkip rfl rfl rfl rfl ?_
    refine oSkip rfl rfl rfl rfl ?_
    refine oPickT rfl rfl ?_
    refine oMove rfl ?_
    refine oSkip rfl rfl rfl rfl ?_
    refine oSkip rfl rfl rfl rfl ?_
    refine oPickT rfl rfl ?_
    refine oMove rfl ?_
    refine oSkip rfl rfl rfl rfl ?_
    refine oSkip rfl rfl rfl rfl ?_
    refine oSkip rfl rfl rfl rfl ?_
    refine oSkip rfl rfl rfl rfl ?_
    refine oPickT rfl rfl ?_
    refine oNil ?_
    refine thn_n ?_
    refine wCondT rfl ?_
    refine wSeq ?_
    refine wRegion' ?_
    (refine oCall rfl (by kernel_rfl) (fun w hS => frame hS (by repeat' (first | exact Split.nil | exact Pick.here | apply Split.cons | apply Pick.there)) (fun B' hB hS' => known11 hS')) ?_; rintro ⟨⟩ -)
    refine oAssign rfl ?_
    refine oNil ?_
    refine thn_n ?_
    refine wRet ?_
    refine thn_r ?_
    refine fin_r ?_
    refine ⟨rfl, _, (ResL.cons (ResR.tmp rfl) ResL.nil), ?_⟩
    exact ⟨(), trivial, rfl, (Leads.has (by repeat' (first | exact Has.nil | exact Pick.here | apply Has.cons | apply Pick.there)))⟩
  ·
    refine oWant rfl rfl ?_
    refine oMove rfl ?_
    refine oWant rfl rfl ?_
    refine oLenS rfl rfl ?_
    refine oWant rfl rfl ?_
    refine oGtr rfl rfl ?_
    refine oPickF rfl rfl ?_
    refine oMove rfl ?_
    first | refine oSplit (t := 23) rfl (fun h23 => ?_) (fun h23 => ?_) | refine oSplitB (t := 23) rfl (fun h23 => ?_) (fun h23 => ?_)
    ·
      refine oSkip rfl rfl rfl rfl ?_
      refine oSkip rfl rfl rfl rfl ?_
      refine oPickT rfl rfl ?_
      refine oMove rfl ?_
      refine oSkip rfl rfl rfl rfl ?_
      refine oSkip rfl rfl rfl rfl ?_
      refine oSkip rfl rfl rfl rfl ?_
      refine oSkip rfl rfl rfl rfl ?_
      refine oPickT rfl rfl ?_
      refine oNil ?_
      refine thn_n ?_
      refine wCondT rfl ?_
      refine wSeq ?_
      refine wRegion' ?_
      (refine oCall rfl (by kernel_rfl) (fun w hS => frame hS (by repeat' (first | exact Split.nil | exact Pick.here | apply Split.cons | apply Pick.there)) (fun B' hB hS' => known11 hS')) ?_; rintro ⟨⟩ -)
      refine oAssign rfl ?_
      refine oNil ?_
      refine thn_n ?_
      refine wRet ?_
      refine thn_r ?_
      refine fin_r ?_
      refine ⟨rfl, _, (ResL.cons (ResR.tmp rfl) ResL.nil), ?_⟩
      exact ⟨(), trivial, rfl, (Leads.has (by repeat' (first | exact Has.nil | exact Pick.here | apply Has.cons | apply Pick.there)))⟩
    ·
      refine oWant rfl rfl ?_
      refine oMove rfl ?_
      refine oWant rfl rfl ?_
      refine oLss rfl rfl ?_
      refine oPickF rfl rfl ?_
      refine oMove rfl ?_
      first | refine oSplit (t := 27) rfl (fun h27 => ?_) (fun h27 => ?_) | refine oSplitB (t := 27) rfl (fun h27 => ?_) (fun h27 => ?_)
      ·
        refine oSkip rfl rfl rfl rfl ?_
        refine oSkip rfl rfl rfl rfl ?_
        refine oSkip rfl rfl rfl rfl ?_
        refine oSkip rfl rfl rfl rfl ?_
        refine oPickT rfl rfl ?_
        refine oNil ?_
        refine thn_n ?_
        refine wCondT rfl ?_
        refine wSeq ?_
        refine wRegion' ?_
        (refine oCall rfl (by kernel_rfl) (fun w hS => frame hS (by repeat' (first | exact Split.nil | exact Pick.here | apply Split.cons | apply Pick.there)) (fun B' hB hS' => known11 hS')) ?_; rintro ⟨⟩ -)
        refine oAssign rfl ?_
        refine oNil ?_
        refine thn_n ?_
        refine wRet ?_
        refine thn_r ?_
        refine fin_r ?_
        refine ⟨rfl, _, (ResL.cons (ResR.tmp rfl) ResL.nil), ?_⟩
        exact ⟨(), trivial, rfl, (Leads.has (by repeat' (first | exact Has.nil | exact Pick.here | apply Has.cons | apply Pick.there)))⟩
      ·
        refine oWant rfl rfl ?_
        refine oMove rfl ?_
        refine oWant rfl rfl ?_
        refine oMove rfl ?_
        refine oWant rfl rfl ?_
        refine oLenS rfl rfl ?_
        refine oWant rfl rfl ?_
        refine oGeq rfl rfl ?_
        refine oPickF rfl rfl ?_
        refine oNil ?_
        refine thn_n ?_
        first | refine wCond rfl (fun h32 => ?_) (fun h32 => ?_) | refine wCondB rfl (fun h32 => ?_) (fun h32 => ?_)
        ·
          refine wSeq ?_
          refine wRegion' ?_
          (refine oCall rfl (by kernel_rfl) (fun w hS => frame hS (by repeat' (first | exact Split.nil | exact Pick.here | apply Split.cons | apply Pick.there)) (fun B' hB hS' => known11 hS')) ?_; rintro ⟨⟩ -)
          refine oAssign rfl ?_
          refine oNil ?_
          refine thn_n ?_
          refine wRet ?_
          refine thn_r ?_
          refine fin_r ?_
          refine ⟨rfl, _, (ResL.cons (ResR.tmp rfl) ResL.nil), ?_⟩
          exact ⟨(), trivial, rfl, (Leads.has (by repeat' (first | exact Has.nil | exact Pick.here | apply Has.cons | apply Pick.there)))⟩
        ·
          have hsm := few_small (h16' (by simpa using h18))
          obtain ⟨k, rfl⟩ := Int.eq_ofNat_of_zero_le (show 0 ≤ at_ by omega)
          have hkl : k < ib.length := by omega
          refine wSkip ?_
          refine thn_n ?_
          refine wSeq ?_
          refine wRegion' ?_
          refine oAssign rfl ?_
          refine oNil ?_
          refine thn_n ?_
          refine wSeq ?_
          refine wRegion' ?_
          refine oMove rfl ?_
          refine oMove rfl ?_
          refine oConv (Leads.nilrow (kd := Kd.bool) (W := B.e) (e := 4)) ?_
          refine oAppA (kd := Kd.bool) (W := B.e) (ys := ib) rfl rfl rfl rfl (by repeat (first | exact Pick.here | apply Pick.there)) rfl (fun w hw => src_C hC1 (Base.grow hw.ok)) (by simp only [List.length_nil]; omega) rfl (fun A36 c36 hc36 => ?_)
          rw [List.nil_append ib, show ([] : List Bool).length + ib.length = ib.length by simp]
          refine oAssign rfl ?_
          refine oNil ?_
          refine thn_n ?_
          refine wSeq ?_
          refine wRegion' ?_
          refine oMove rfl ?_
          refine oMove rfl ?_
          refine oIdxR rfl rfl (by repeat (first | exact Pick.here | apply Pick.there)) (by omega) rfl rfl (fun g39 hg39 => ?_)
          first | subst hg39 | (injection hg39 with hg39; injection hg39 with hg39; subst hg39)
          refine oStR _ rfl rfl rfl rfl (by repeat (first | exact Pick.here | apply Pick.there)) (by first | omega | (simp only [List.length_set]; omega)) ?_
          refine oNil ?_
          refine thn_n ?_
          refine wSeq ?_
          refine wRegion' ?_
          refine oMove rfl ?_
          refine oMove rfl ?_
          (refine oCall rfl (by kernel_rfl) (fun w hS => frame hS (by repeat' (first | exact Split.nil | exact Pick.here | apply Split.cons | apply Pick.there)) (fun B' hB hS' => on_any hS' g A cp (Kd.C_grow hB hC) hsm ib A1 cp1 (Kd.C_grow hB hC1) (by omega) B.e)) ?_; rintro ⟨A42, c42⟩ -)
          refine oAssign rfl ?_
          refine oNil ?_
          refine thn_n ?_
          refine wSeq ?_
          refine wRegion' ?_
          refine oMove rfl ?_
          refine oMove rfl ?_
          refine oSet (t := 44) (v' := .slice (some ⟨g39, 0, none⟩) (ib.set k false).length c36) rfl (by rw [List.length_set]) ?_
          (refine oCall rfl (by kernel_rfl) (fun w hS => frame' hS .nil (fun B' hB hR hS' => on_any hS' g A cp (Kd.C_grow hB hC) hsm (ib.set k false) (some ⟨g39, 0, none⟩) c36 (row_C (kd := Kd.bool) (W := B.e) (e := 4) (A := some ⟨g39, 0, none⟩) (n := ib.length) (cp := c36) (xs := ib.set k false) (hR _ _ (by repeat (first | exact Pick.here | apply Pick.there))) hB).2.2.1 (by rw [List.length_set]; omega) B.e)) ?_; rintro ⟨A45, c45⟩ -)
          refine oAssign rfl ?_
          refine oNil ?_
          refine thn_n ?_
          refine wSeq ?_
          refine wSeq ?_
          refine wRegion' ?_
          refine oAssign rfl ?_
          refine oNil ?_
          refine thn_n ?_
          refine wBlock ?_
          refine wLoop (ι := Nat) (fun i => [(0, .slice A g.length cp), (1, .slice A1 ib.length cp1), (2, .int .i64 (k : Int)), (7, .slice (some ⟨g39, 0, none⟩) ib.length c36), (8, .slice A42 (onL g ib).length c42), (9, .slice A45 (onL g (ib.set k false)).length c45), (10, .int .i64 (i : Int))]) (fun i => [row Kd.bool B.e 4 (.slice (some ⟨g39, 0, none⟩) ib.length c36) (ib.set k false), row (Kd.int .i64) B.e 3 (.slice A42 (onL g ib).length c42) (onL g ib), row (Kd.int .i64) B.e 3 (.slice A45 (onL g (ib.set k false)).length c45) (onL g (ib.set k false))]) (fun i => i ≤ (onL g (ib.set k false)).length) (fun i => (onL g (ib.set k false)).length - i) 0 ?_ (by repeat (first | exact trivial | refine And.intro rfl ?_)) (Leads.has (by repeat' (first | exact Has.nil | exact Pick.here | apply Has.cons | apply Pick.there))) ?_
          ·
            exact Nat.zero_le _
          ·
            rintro i hi
            have hol := onL_len g (ib.set k false)
            have hn := hsm.1
            dsimp only
            refine wSeq ?_
            refine wSeq ?_
            refine wRegion' ?_
            refine oMove rfl ?_
            refine oMove rfl ?_
            refine oLenS rfl rfl ?_
            refine oLss rfl rfl ?_
            refine oNil ?_
            refine thn_n ?_
            first | refine wCond rfl (fun h49 => ?_) (fun h49 => ?_) | refine wCondB rfl (fun h49 => ?_) (fun h49 => ?_)
            ·
              refine wSkip ?_
              refine thn_n ?_
              refine wSeq ?_
              refine wBlock ?_
              refine wSeq ?_
              refine wRegion' ?_
              refine oMove rfl ?_
              refine oMove rfl ?_
              refine oMove rfl ?_
              refine oIdxR rfl rfl (by repeat (first | exact Pick.here | apply Pick.there)) (by omega) rfl rfl (fun g55 hg55 => ?_)
              first | subst hg55 | (injection hg55 with hg55; injection hg55 with hg55; subst hg55)
              first | refine oLdX rfl hc55 rfl rfl ?_ | refine oLdXA rfl hc55 rfl (by repeat (first | exact SubL.done | apply SubL.take | apply SubL.drop)) ?_ | (refine oLdR1 rfl (by repeat (first | exact Pick.here | apply Pick.there)) (by omega) rfl (fun u56 hu56 => ?_))
              have hlo := less_on (List.mem_of_getElem? hu56)
              (refine oCall rfl (by kernel_rfl) (fun w hS => frame' hS .nil (fun B' hB hR hS' => in_any hS' A42 c42 (onL g ib) (row_C (kd := Kd.int .i64) (W := B.e) (e := 3) (hR _ _ (by repeat (first | exact Pick.here | apply Pick.there))) hB).2.2.1 _)) ?_; rintro ⟨⟩ -)
              first | refine oNot rfl ?_ | refine oNotB rfl ?_
              refine oMove rfl ?_
              first | refine oSplit (t := 59) rfl (fun h59 => ?_) (fun h59 => ?_) | refine oSplitB (t := 59) rfl (fun h59 => ?_) (fun h59 => ?_)
              ·
                exact absurd h59 (by simp [hlo.1])
              ·
                refine oWant rfl rfl ?_
                refine oMove rfl ?_
                refine oWant rfl rfl ?_
                refine oMove rfl ?_
                refine oWant rfl rfl ?_
                refine oIdxR rfl rfl (by repeat (first | exact Pick.here | apply Pick.there)) (by omega) rfl rfl (fun g62 hg62 => ?_)
                first | subst hg62 | (injection hg62 with hg62; injection hg62 with hg62; subst hg62)
                refine oWant rfl rfl ?_
                first | refine oLdX rfl hc62 rfl rfl ?_ | refine oLdXA rfl hc62 rfl (by repeat (first | exact SubL.done | apply SubL.take | apply SubL.drop)) ?_ | (refine oLdR1 rfl (by repeat (first | exact Pick.here | apply Pick.there)) (by omega) rfl (fun u63 hu63 => ?_))
                refine oWant rfl rfl ?_
                refine oMove rfl ?_
                refine oWant rfl rfl ?_
                refine oEql rfl rfl ?_
                refine oPickF rfl rfl ?_
                refine oNil ?_
                refine thn_n ?_
                first | refine wCond rfl (fun h66 => ?_) (fun h66 => ?_) | refine wCondB rfl (fun h66 => ?_) (fun h66 => ?_)
                ·
                  obtain rfl := Option.some.inj (hu56.symm.trans hu63)
                  exact absurd h66 hlo.2
                ·
                  refine wSkip ?_
                  refine blk_n ?_
                  refine thn_n ?_
                  refine wRegion' ?_
                  refine oMove rfl ?_
                  refine oSucc rfl rfl (by omega) ?_
                  refine oAssign rfl ?_
                  refine oNil ?_
                  refine thn_n ?_
                  exact ⟨rfl, i + 1, by omega, by omega, (by repeat (first | exact trivial | refine And.intro rfl ?_)), (Leads.has (by repeat' (first | exact Has.nil | exact Pick.here | apply Has.cons | apply Pick.there)))⟩
            ·
              refine wExit ?_
              refine thn_x ?_
              refine thn_x ?_
              refine blk_x ?_
              refine thn_n ?_
              refine wSeq ?_
              refine wRegion' ?_
              refine oMove rfl ?_
              refine oMove rfl ?_
              (refine oCall rfl (by kernel_rfl) (fun w hS => frame hS (by repeat' (first | exact Split.nil | exact Pick.here | apply Split.cons | apply Pick.there)) (fun B' hB hS' => orderP hS' g A cp (Kd.C_grow hB hC) hsm ib A1 cp1 (Kd.C_grow hB hC1) (by omega) B.e)) ?_; rintro ⟨A70, c70⟩ -)
              refine oMove rfl ?_
              refine oExt rfl (by repeat (first | exact GetAt.here | apply GetAt.there)) ?_
              refine oExt rfl (by repeat (first | exact GetAt.here | apply GetAt.there)) ?_
              refine oAssign rfl ?_
              refine oAssign rfl ?_
              refine oNil ?_
              refine thn_n ?_
              refine wSeq ?_
              refine wRegion' ?_
              refine oMove rfl ?_
              refine oMove rfl ?_
              refine oSet (t := 75) (v' := .slice (some ⟨g39, 0, none⟩) (ib.set k false).length c36) rfl (by rw [List.length_set]) ?_
              (refine oCall rfl (by kernel_rfl) (fun w hS => frame' hS .nil (fun B' hB hR hS' => orderP hS' g A cp (Kd.C_grow hB hC) hsm (ib.set k false) (some ⟨g39, 0, none⟩) c36 (row_C (kd := Kd.bool) (W := B.e) (e := 4) (A := some ⟨g39, 0, none⟩) (n := ib.length) (cp := c36) (xs := ib.set k false) (hR _ _ (by repeat (first | exact Pick.here | apply Pick.there))) hB).2.2.1 (by rw [List.length_set]; omega) B.e)) ?_; rintro ⟨A76, c76⟩ -)
              refine oMove rfl ?_
              refine oExt rfl (by repeat (first | exact GetAt.here | apply GetAt.there)) ?_
              refine oExt rfl (by repeat (first | exact GetAt.here | apply GetAt.there)) ?_
              refine oAssign rfl ?_
              refine oAssign rfl ?_
              refine oNil ?_
              refine thn_n ?_
              refine wSeq ?_
              refine wRegion' ?_
              refine oMove rfl ?_
              first | refine oNot rfl ?_ | refine oNotB rfl ?_
              refine oMove rfl ?_
              first | refine oSplit (t := 81) rfl (fun h81 => ?_) (fun h81 => ?_) | refine oSplitB (t := 81) rfl (fun h81 => ?_) (fun h81 => ?_)
              ·
                refine oSkip rfl rfl rfl rfl ?_
                refine oPickT rfl rfl ?_
                refine oMove rfl ?_
                refine oWant rfl rfl ?_
                (refine oCall rfl (by kernel_rfl) (fun w hS => frame hS (by repeat' (first | exact Split.nil | exact Pick.here | apply Split.cons | apply Pick.there)) (fun B' hB hS' => known11 hS')) ?_; rintro ⟨⟩ -)
                refine oPickT rfl rfl ?_
                refine oAssign rfl ?_
                refine oNil ?_
                refine thn_n ?_
                refine wRet ?_
                refine fin_r ?_
                refine ⟨rfl, _, (ResL.cons (ResR.tmp rfl) ResL.nil), ?_⟩
                exact ⟨(), trivial, rfl, (Leads.has (by repeat' (first | exact Has.nil | exact Pick.here | apply Has.cons | apply Pick.there)))⟩
              ·
                refine oWant rfl rfl ?_
                refine oMove rfl ?_
                refine oPickF rfl rfl ?_
                refine oMove rfl ?_
                first | refine oSplit (t := 84) rfl (fun h84 => ?_) (fun h84 => ?_) | refine oSplitB (t := 84) rfl (fun h84 => ?_) (fun h84 => ?_)
                ·
                  refine oWant rfl rfl ?_
                  (refine oCall rfl (by kernel_rfl) (fun w hS => frame hS (by repeat' (first | exact Split.nil | exact Pick.here | apply Split.cons | apply Pick.there)) (fun B' hB hS' => known11 hS')) ?_; rintro ⟨⟩ -)
                  refine oPickT rfl rfl ?_
                  refine oAssign rfl ?_
                  refine oNil ?_
                  refine thn_n ?_
                  refine wRet ?_
                  refine fin_r ?_
                  refine ⟨rfl, _, (ResL.cons (ResR.tmp rfl) ResL.nil), ?_⟩
                  exact ⟨(), trivial, rfl, (Leads.has (by repeat' (first | exact Has.nil | exact Pick.here | apply Has.cons | apply Pick.there)))⟩
                ·
                  have := less_ok (k := k) (show okO g ib = true from decide_eq_true (Classical.not_not.1 h81))
                  exact absurd (of_decide_eq_true this) h84
end Go.Proofs.YtnidmlngkpkmlaaG
