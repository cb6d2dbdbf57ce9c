/-
  sheerleglaw06.QueueDrops, walked.
-/
import Derived.Test.YtnidmlngkpkmlaaQj
namespace Go.Proofs.YtnidmlngkpkmlaaQ
set_option linter.unusedVariables false
set_option linter.unusedSimpArgs false
open Go.RowKit Go.Proofs.YtnidmlngkpkmlaaK Go.Proofs.YtnidmlngkpkmlaaT

theorem qdel_cons_eq {x : Int × Int} {W : List (Int × Int)} {id : Int} (h : ((x :: W).map (·.1)).Nodup) (e : x.1 = id) : qdel (x :: W) id = W := by
  subst e
  rw [List.map_cons, List.nodup_cons] at h
  unfold qdel
  rw [List.filter_cons_of_neg (by simp), List.filter_eq_self.2]
  intro y hy
  have : y.1 ≠ x.1 := fun e => h.1 (List.mem_map.2 ⟨y, hy, e⟩)
  simpa using this
theorem qdel_cons_ne {x : Int × Int} {W : List (Int × Int)} {id : Int} (e : x.1 ≠ id) : qdel (x :: W) id = x :: qdel W id := by
  unfold qdel
  rw [List.filter_cons_of_pos (by simpa using e)]
theorem qdel_le (W : List (Int × Int)) (id : Int) : (qdel W id).length ≤ W.length := List.length_filter_le _ _
theorem qdel_not {x : Int × Int} {W : List (Int × Int)} {id : Int} (h : ((x :: W).map (·.1)).Nodup) (e : x.1 = id) : qdel W id = W := by
  have := qdel_cons_eq h e
  unfold qdel at this ⊢
  rwa [List.filter_cons_of_neg (by simp [e])] at this
theorem qdel_tail {W : List (Int × Int)} {id : Int} (h : qdel W id = W) : qdel W.tail id = W.tail := by
  cases W with
  | nil => rfl
  | cons y W =>
    unfold qdel at h ⊢
    rw [List.filter_eq_self] at h
    exact List.filter_eq_self.2 (fun z hz => h z (List.mem_cons_of_mem _ hz))

set_option maxRecDepth 100000 in
set_option maxHeartbeats 1000000 in
theorem Drops {B : Base} {w : World} (hS : St B [] w) (A : Option Addr) (cp : Nat) (l : List Law06Move) (hC : kLaw06Move.C B.e A l) (id : Int) :
    CallsIn Fence.wide 0 Try.prog 9 #[.slice A l.length cp, .int .i64 id] w (Ret B (fun _ : Unit => True) (fun _ => .bool true) (fun _ => [])) := by
  (refine enter Try.func9 rfl rfl hS ?_; simp only [List.zipIdx_cons, List.zipIdx_nil, List.map_cons, List.map_nil, Nat.reduceAdd, Nat.zero_add])
  refine wSeq ?_
  refine wRegion' ?_
  refine oAssign rfl ?_
  refine oNil ?_
  refine thn_n ?_
  refine wSeq ?_
  refine wSeq ?_
  refine wRegion' ?_
  refine oMove rfl ?_
  refine oLenS rfl rfl ?_
  refine oGtr rfl rfl ?_
  refine oNil ?_
  refine thn_n ?_
  first | refine wCond rfl (fun h19 => ?_) (fun h19 => ?_) | refine wCondB rfl (fun h19 => ?_) (fun h19 => ?_)
  ·
    refine wSeq ?_
    refine wRegion' ?_
    (refine oCall rfl (by kernel_rfl) (fun w hS => frame hS (by repeat' (first | exact Split.nil | exact Pick.here | apply Split.cons | apply Pick.there)) (fun B' hB hS' => known06 hS')) ?_; rintro ⟨⟩ -)
    refine oAssign rfl ?_
    refine oNil ?_
    refine thn_n ?_
    refine wRet ?_
    refine thn_r ?_
    refine fin_r ?_
    refine ⟨rfl, _, (ResL.cons (ResR.tmp rfl) ResL.nil), ?_⟩
    exact ⟨(), trivial, rfl, fun _ h => h.has .nil⟩
  ·
    refine wSkip ?_
    refine thn_n ?_
    refine wSeq ?_
    refine wRegion' ?_
    (refine oCall rfl (by kernel_rfl) (fun w hS => frame hS (by repeat' (first | exact Split.nil | exact Pick.here | apply Split.cons | apply Pick.there)) (fun B' hB hS' => queue_New hS')) ?_; rintro ⟨q, p, s0⟩ h0)
    dsimp only at h0
    refine oAssign rfl ?_
    refine oNil ?_
    refine thn_n ?_
    refine wSeq ?_
    refine wRegion' ?_
    (refine oCall rfl (by kernel_rfl) (fun w hS => frame hS (by repeat' (first | exact Split.nil | exact Pick.here | apply Split.cons | apply Pick.there)) (fun B' hB hS' => queue_New hS')) ?_; rintro ⟨q', p', s0'⟩ h0')
    dsimp only at h0'
    refine oAssign rfl ?_
    refine oNil ?_
    refine thn_n ?_
    refine wSeq ?_
    refine wSeq ?_
    refine wRegion' ?_
    refine oAssign rfl ?_
    refine oNil ?_
    refine thn_n ?_
    refine wBlock ?_
    refine wLoop (ι := Nat × Pile × Pile × List (Int × Int)) (fun z => [(0, .slice A l.length cp), (1, .int .i64 id), (5, ptrV q), (6, ptrV q'), (7, .int .i64 (z.1 : Int))]) (fun z => queueR q p z.2.1 ++ queueR q' p' z.2.2.1) (fun z => z.1 ≤ l.length ∧ QOk z.2.1 z.2.2.2 ∧ QOk z.2.2.1 z.2.2.2 ∧ z.2.2.2.length ≤ z.1) (fun z => l.length - z.1) (0, s0, s0', []) ?_ (by repeat (first | exact trivial | refine And.intro rfl ?_)) (Leads.has (by repeat' (first | exact Has.nil | exact Pick.here | apply Has.cons | apply Pick.there))) ?_
    ·
      exact ⟨Nat.zero_le _, h0, h0', Nat.le_refl _⟩
    ·
      rintro ⟨i, s, s', W⟩ ⟨hi, hq, hq', hW⟩
      dsimp only at hi hq hq' hW
      dsimp only
      refine wSeq ?_
      refine wSeq ?_
      refine wRegion' ?_
      refine oMove rfl ?_
      refine oMove rfl ?_
      refine oLenS rfl rfl ?_
      refine oLss rfl rfl ?_
      refine oNil ?_
      refine thn_n ?_
      first | refine wCond rfl (fun h26 => ?_) (fun h26 => ?_) | refine wCondB rfl (fun h26 => ?_) (fun h26 => ?_)
      ·
        refine wSkip ?_
        refine thn_n ?_
        refine wSeq ?_
        refine wBlock ?_
        refine wSeq ?_
        refine wDraw2 rfl rfl [0, 1, 2, 6, 7] [3, 4, 5, 8, 9, 10] 11 (by kernel_rfl) rfl rfl rfl (fun w0 => ?_)
        refine oIdx rfl rfl (hC) rfl (by omega) rfl rfl (fun e32 u32 cs32 hu32 hk32 hc32 => ?_)
        obtain rfl := kLaw06Move_open hk32
        first | refine oFldX (n := 1) (m := 1) rfl rfl rfl ?_ | refine oFldR (n := 1) (m := 1) rfl rfl rfl ?_
        first | refine oLdX rfl hc32 rfl rfl ?_ | refine oLdXA rfl hc32 rfl (by repeat (first | exact SubL.done | apply SubL.take | apply SubL.drop)) ?_ | (refine oLdR1 rfl (by repeat (first | exact Pick.here | apply Pick.there)) (by omega) rfl (fun u34 hu34 => ?_))
        refine oIdx rfl rfl (hC) rfl (by omega) rfl rfl (fun e37 u37 cs37 hu37 hk37 hc37 => ?_)
        obtain rfl := kLaw06Move_open hk37
        first | refine oFldX (n := 2) (m := 2) rfl rfl rfl ?_ | refine oFldR (n := 2) (m := 2) rfl rfl rfl ?_
        first | refine oLdX rfl hc37 rfl rfl ?_ | refine oLdXA rfl hc37 rfl (by repeat (first | exact SubL.done | apply SubL.take | apply SubL.drop)) ?_ | (refine oLdR1 rfl (by repeat (first | exact Pick.here | apply Pick.there)) (by omega) rfl (fun u39 hu39 => ?_))
        refine oHead ?_
        (refine oCall rfl (by kernel_rfl) (fun w hS => frame hS (by repeat' (first | exact Split.nil | exact Pick.here | apply Split.cons | apply Pick.there)) (fun B' hB hS' => queue_Put (p := p) (s := s) hS' hq _ _ (by omega))) ?_; rintro s1 h1)
        refine oNilT ?_
        refine thn_n ?_
        refine wDraw2 rfl rfl [0, 1, 2, 6, 7] [3, 4, 5, 8, 9, 10] 11 (by kernel_rfl) rfl rfl rfl (fun w0 => ?_)
        refine oIdx rfl rfl (hC) rfl (by omega) rfl rfl (fun e44 u44 cs44 hu44 hk44 hc44 => ?_)
        obtain rfl := kLaw06Move_open hk44
        first | refine oFldX (n := 1) (m := 1) rfl rfl rfl ?_ | refine oFldR (n := 1) (m := 1) rfl rfl rfl ?_
        first | refine oLdX rfl hc44 rfl rfl ?_ | refine oLdXA rfl hc44 rfl (by repeat (first | exact SubL.done | apply SubL.take | apply SubL.drop)) ?_ | (refine oLdR1 rfl (by repeat (first | exact Pick.here | apply Pick.there)) (by omega) rfl (fun u46 hu46 => ?_))
        refine oIdx rfl rfl (hC) rfl (by omega) rfl rfl (fun e49 u49 cs49 hu49 hk49 hc49 => ?_)
        obtain rfl := kLaw06Move_open hk49
        first | refine oFldX (n := 2) (m := 2) rfl rfl rfl ?_ | refine oFldR (n := 2) (m := 2) rfl rfl rfl ?_
        first | refine oLdX rfl hc49 rfl rfl ?_ | refine oLdXA rfl hc49 rfl (by repeat (first | exact SubL.done | apply SubL.take | apply SubL.drop)) ?_ | (refine oLdR1 rfl (by repeat (first | exact Pick.here | apply Pick.there)) (by omega) rfl (fun u51 hu51 => ?_))
        refine oHead ?_
        (refine oCall rfl (by kernel_rfl) (fun w hS => frame hS (by repeat' (first | exact Split.nil | exact Pick.here | apply Split.cons | apply Pick.there)) (fun B' hB hS' => queue_Put (p := p') (s := s') hS' hq' _ _ (by omega))) ?_; rintro s2 h2)
        obtain rfl := Option.some.inj (hu32.symm.trans hu37)
        obtain rfl := Option.some.inj (hu32.symm.trans hu44)
        obtain rfl := Option.some.inj (hu32.symm.trans hu49)
        have hlen : (if qhas W u32.fID then W else qins (u32.fID, u32.fKey) W).length ≤ i + 1 := by split <;> first | omega | (rw [qins_len]; omega)
        refine oNilT ?_
        refine blk_n ?_
        refine thn_n ?_
        refine wRegion' ?_
        refine oMove rfl ?_
        refine oSucc rfl rfl (by omega) ?_
        refine oAssign rfl ?_
        refine oNil ?_
        refine thn_n ?_
        exact ⟨rfl, (i + 1, s1, s2, _), ⟨by show i + 1 ≤ _; omega, h1, h2, hlen⟩, by show l.length - (i + 1) < l.length - i; omega, (by repeat (first | exact trivial | refine And.intro rfl ?_)), (Leads.has (by repeat' (first | exact Has.nil | exact Pick.here | apply Has.cons | apply Pick.there)))⟩
      ·
        refine wExit ?_
        refine thn_x ?_
        refine thn_x ?_
        refine blk_x ?_
        refine thn_n ?_
        refine wSeq ?_
        refine wRegion' ?_
        refine oMove rfl ?_
        refine oMove rfl ?_
        (refine oCall rfl (by kernel_rfl) (fun w hS => frame hS (by repeat' (first | exact Split.nil | exact Pick.here | apply Split.cons | apply Pick.there)) (fun B' hB hS' => queue_Key (p := p) (s := s) hS' hq id)) ?_; rintro ⟨⟩ -)
        refine oMove rfl ?_
        refine oExt rfl (by repeat (first | exact GetAt.here | apply GetAt.there)) ?_
        refine oExt rfl (by repeat (first | exact GetAt.here | apply GetAt.there)) ?_
        refine oAssign rfl ?_
        refine oAssign rfl ?_
        refine oNil ?_
        refine thn_n ?_
        refine wSeq ?_
        refine wSeq ?_
        refine wRegion' ?_
        refine oMove rfl ?_
        refine oMove rfl ?_
        (refine oCall rfl (by kernel_rfl) (fun w hS => frame hS (by repeat' (first | exact Split.nil | exact Pick.here | apply Split.cons | apply Pick.there)) (fun B' hB hS' => queue_Drop (p := p') (s := s') hS' hq' id)) ?_; rintro s3 h3)
        refine oMove rfl ?_
        refine oNeqBool rfl rfl rfl ?_
        refine oNil ?_
        refine thn_n ?_
        first | refine wCond rfl (fun h63 => ?_) (fun h63 => ?_) | refine wCondB rfl (fun h63 => ?_) (fun h63 => ?_)
        ·
          exact absurd rfl h63
        ·
          refine wSkip ?_
          refine thn_n ?_
          refine wSeq ?_
          refine wSeq ?_
          refine wRegion' ?_
          refine oAssign rfl ?_
          refine oNil ?_
          refine thn_n ?_
          refine wBlock ?_
          refine wLoop (ι := Nat × Pile × Pile × List (Int × Int)) (fun z => [(0, .slice A l.length cp), (1, .int .i64 id), (5, ptrV q), (6, ptrV q'), (10, .int .i64 (z.1 : Int))]) (fun z => queueR q p z.2.1 ++ queueR q' p' z.2.2.1) (fun z => z.1 ≤ l.length + 1 ∧ QOk z.2.1 z.2.2.2 ∧ QOk z.2.2.1 (qdel z.2.2.2 id) ∧ (qdel z.2.2.2 id).length ≤ l.length - z.1) (fun z => l.length + 1 - z.1) (0, s, s3, W) ?_ (by repeat (first | exact trivial | refine And.intro rfl ?_)) (Leads.has (by repeat' (first | exact Has.nil | exact Pick.here | apply Has.cons | apply Pick.there))) ?_
          ·
            exact ⟨Nat.zero_le _, hq, h3, by have := qdel_le W id; dsimp only; omega⟩
          ·
            rintro ⟨j, a, b, Wa⟩ ⟨hj, ha, hb, hjl⟩
            dsimp only at hj ha hb hjl
            have hnd := ids_W ha
            dsimp only
            refine wSeq ?_
            refine wSeq ?_
            refine wRegion' ?_
            refine oMove rfl ?_
            refine oMove rfl ?_
            refine oLenS rfl rfl ?_
            refine oLeq rfl rfl ?_
            refine oNil ?_
            refine thn_n ?_
            first | refine wCond rfl (fun h67 => ?_) (fun h67 => ?_) | refine wCondB rfl (fun h67 => ?_) (fun h67 => ?_)
            ·
              refine wSkip ?_
              refine thn_n ?_
              refine wSeq ?_
              refine wBlock ?_
              refine wSeq ?_
              refine wRegion' ?_
              refine oMove rfl ?_
              (refine oCall rfl (by kernel_rfl) (fun w hS => frame hS (by repeat' (first | exact Split.nil | exact Pick.here | apply Split.cons | apply Pick.there)) (fun B' hB hS' => queue_Take (p := p) (s := a) hS' ha)) ?_; rintro a1 ha1)
              refine oMove rfl ?_
              refine oExt rfl (by repeat (first | exact GetAt.here | apply GetAt.there)) ?_
              refine oExt rfl (by repeat (first | exact GetAt.here | apply GetAt.there)) ?_
              refine oExt rfl (by repeat (first | exact GetAt.here | apply GetAt.there)) ?_
              refine oAssign rfl ?_
              refine oAssign rfl ?_
              refine oAssign rfl ?_
              refine oNil ?_
              refine thn_n ?_
              refine wSeq ?_
              refine wSeq ?_
              refine wRegion' ?_
              refine oMove rfl ?_
              refine oMove rfl ?_
              first | refine oSplit (t := 77) rfl (fun h77 => ?_) (fun h77 => ?_) | refine oSplitB (t := 77) rfl (fun h77 => ?_) (fun h77 => ?_)
              ·
                obtain ⟨x, Wt, rfl⟩ : ∃ x Wt, Wa = x :: Wt := by cases Wa with | nil => cases h77 | cons x Wt => exact ⟨x, Wt, rfl⟩
                refine oWant rfl rfl ?_
                refine oMove rfl ?_
                refine oWant rfl rfl ?_
                refine oMove rfl ?_
                refine oWant rfl rfl ?_
                refine oEql rfl rfl ?_
                refine oPickT rfl rfl ?_
                refine oNil ?_
                refine thn_n ?_
                first | refine wCond rfl (fun h81 => ?_) (fun h81 => ?_) | refine wCondB rfl (fun h81 => ?_) (fun h81 => ?_)
                ·
                  have hx : x.1 = id := h81
                  have heq : qdel (x :: Wt) id = Wt := qdel_cons_eq hnd hx
                  have heq1 : hd1 (qdel (x :: Wt) id) = hd1 Wt ∧ hd2 (qdel (x :: Wt) id) = hd2 Wt ∧ hd3 (qdel (x :: Wt) id) = hd3 Wt := by rw [heq]; exact ⟨rfl, rfl, rfl⟩
                  refine wRegion' ?_
                  refine oMove rfl ?_
                  (refine oCall rfl (by kernel_rfl) (fun w hS => frame hS (by repeat' (first | exact Split.nil | exact Pick.here | apply Split.cons | apply Pick.there)) (fun B' hB hS' => queue_Take (p := p) (s := a1) hS' ha1)) ?_; rintro a2 ha2)
                  refine oMove rfl ?_
                  refine oExt rfl (by repeat (first | exact GetAt.here | apply GetAt.there)) ?_
                  refine oExt rfl (by repeat (first | exact GetAt.here | apply GetAt.there)) ?_
                  refine oExt rfl (by repeat (first | exact GetAt.here | apply GetAt.there)) ?_
                  refine oAssign rfl ?_
                  refine oAssign rfl ?_
                  refine oAssign rfl ?_
                  refine oNil ?_
                  refine thn_n ?_
                  refine wSeq ?_
                  refine wRegion' ?_
                  refine oMove rfl ?_
                  (refine oCall rfl (by kernel_rfl) (fun w hS => frame hS (by repeat' (first | exact Split.nil | exact Pick.here | apply Split.cons | apply Pick.there)) (fun B' hB hS' => queue_Take (p := p') (s := b) hS' hb)) ?_; rintro b1 hb1)
                  refine oMove rfl ?_
                  refine oExt rfl (by repeat (first | exact GetAt.here | apply GetAt.there)) ?_
                  refine oExt rfl (by repeat (first | exact GetAt.here | apply GetAt.there)) ?_
                  refine oExt rfl (by repeat (first | exact GetAt.here | apply GetAt.there)) ?_
                  refine oAssign rfl ?_
                  refine oAssign rfl ?_
                  refine oAssign rfl ?_
                  refine oNil ?_
                  refine thn_n ?_
                  refine wSeq ?_
                  refine wRegion' ?_
                  refine oMove rfl ?_
                  refine oMove rfl ?_
                  refine oNeq rfl rfl ?_
                  refine oMove rfl ?_
                  first | refine oSplit (t := 97) rfl (fun h97 => ?_) (fun h97 => ?_) | refine oSplitB (t := 97) rfl (fun h97 => ?_) (fun h97 => ?_)
                  ·
                    exact absurd (by first | rfl | exact heq1.1.symm) h97
                  ·
                    refine oWant rfl rfl ?_
                    refine oMove rfl ?_
                    refine oWant rfl rfl ?_
                    refine oMove rfl ?_
                    refine oWant rfl rfl ?_
                    refine oNeq rfl rfl ?_
                    refine oPickF rfl rfl ?_
                    refine oMove rfl ?_
                    first | refine oSplit (t := 102) rfl (fun h102 => ?_) (fun h102 => ?_) | refine oSplitB (t := 102) rfl (fun h102 => ?_) (fun h102 => ?_)
                    ·
                      exact absurd (by first | rfl | exact heq1.2.1.symm) h102
                    ·
                      refine oWant rfl rfl ?_
                      refine oMove rfl ?_
                      refine oWant rfl rfl ?_
                      refine oMove rfl ?_
                      refine oWant rfl rfl ?_
                      refine oNeqBool rfl rfl rfl ?_
                      refine oPickF rfl rfl ?_
                      refine oNil ?_
                      refine thn_n ?_
                      first | refine wCond rfl (fun h106 => ?_) (fun h106 => ?_) | refine wCondB rfl (fun h106 => ?_) (fun h106 => ?_)
                      ·
                        exact absurd (by first | rfl | exact heq1.2.2.symm) h106
                      ·
                        refine wSkip ?_
                        refine blk_n ?_
                        refine thn_n ?_
                        refine wRegion' ?_
                        refine oMove rfl ?_
                        refine oSucc rfl rfl (by omega) ?_
                        refine oAssign rfl ?_
                        refine oNil ?_
                        refine thn_n ?_
                        have e1 := qdel_cons_eq hnd hx
                        have e2 := qdel_tail (qdel_not hnd hx)
                        refine ⟨rfl, (j + 1, a2, b1, Wt.tail), ⟨by show j + 1 ≤ _; omega, ha2, by show QOk b1 (qdel Wt.tail id); rw [e2]; rw [e1] at hb1; exact hb1, ?_⟩, by show l.length + 1 - (j + 1) < l.length + 1 - j; omega, (by repeat (first | exact trivial | refine And.intro rfl ?_)), (Leads.has (by repeat' (first | exact Has.nil | exact Pick.here | apply Has.cons | apply Pick.there)))⟩
                        show (qdel Wt.tail id).length ≤ l.length - (j + 1)
                        rw [e1] at hjl; rw [e2, List.length_tail]; omega
                ·
                  have hx : x.1 ≠ id := h81
                  have heq1 : hd1 (qdel (x :: Wt) id) = x.1 ∧ hd2 (qdel (x :: Wt) id) = x.2 ∧ hd3 (qdel (x :: Wt) id) = true := by rw [qdel_cons_ne hx]; exact ⟨rfl, rfl, rfl⟩
                  refine wSkip ?_
                  refine thn_n ?_
                  refine wSeq ?_
                  refine wRegion' ?_
                  refine oMove rfl ?_
                  (refine oCall rfl (by kernel_rfl) (fun w hS => frame hS (by repeat' (first | exact Split.nil | exact Pick.here | apply Split.cons | apply Pick.there)) (fun B' hB hS' => queue_Take (p := p') (s := b) hS' hb)) ?_; rintro b1 hb1)
                  refine oMove rfl ?_
                  refine oExt rfl (by repeat (first | exact GetAt.here | apply GetAt.there)) ?_
                  refine oExt rfl (by repeat (first | exact GetAt.here | apply GetAt.there)) ?_
                  refine oExt rfl (by repeat (first | exact GetAt.here | apply GetAt.there)) ?_
                  refine oAssign rfl ?_
                  refine oAssign rfl ?_
                  refine oAssign rfl ?_
                  refine oNil ?_
                  refine thn_n ?_
                  refine wSeq ?_
                  refine wRegion' ?_
                  refine oMove rfl ?_
                  refine oMove rfl ?_
                  refine oNeq rfl rfl ?_
                  refine oMove rfl ?_
                  first | refine oSplit (t := 97) rfl (fun h97 => ?_) (fun h97 => ?_) | refine oSplitB (t := 97) rfl (fun h97 => ?_) (fun h97 => ?_)
                  ·
                    exact absurd (by first | rfl | exact heq1.1.symm) h97
                  ·
                    refine oWant rfl rfl ?_
                    refine oMove rfl ?_
                    refine oWant rfl rfl ?_
                    refine oMove rfl ?_
                    refine oWant rfl rfl ?_
                    refine oNeq rfl rfl ?_
                    refine oPickF rfl rfl ?_
                    refine oMove rfl ?_
                    first | refine oSplit (t := 102) rfl (fun h102 => ?_) (fun h102 => ?_) | refine oSplitB (t := 102) rfl (fun h102 => ?_) (fun h102 => ?_)
                    ·
                      exact absurd (by first | rfl | exact heq1.2.1.symm) h102
                    ·
                      refine oWant rfl rfl ?_
                      refine oMove rfl ?_
                      refine oWant rfl rfl ?_
                      refine oMove rfl ?_
                      refine oWant rfl rfl ?_
                      refine oNeqBool rfl rfl rfl ?_
                      refine oPickF rfl rfl ?_
                      refine oNil ?_
                      refine thn_n ?_
                      first | refine wCond rfl (fun h106 => ?_) (fun h106 => ?_) | refine wCondB rfl (fun h106 => ?_) (fun h106 => ?_)
                      ·
                        exact absurd (by first | rfl | exact heq1.2.2.symm) h106
                      ·
                        refine wSkip ?_
                        refine blk_n ?_
                        refine thn_n ?_
                        refine wRegion' ?_
                        refine oMove rfl ?_
                        refine oSucc rfl rfl (by omega) ?_
                        refine oAssign rfl ?_
                        refine oNil ?_
                        refine thn_n ?_
                        have e1 := qdel_cons_ne (W := Wt) hx
                        refine ⟨rfl, (j + 1, a1, b1, Wt), ⟨by show j + 1 ≤ _; omega, ha1, by show QOk b1 (qdel Wt id); rw [e1] at hb1; exact hb1, ?_⟩, by show l.length + 1 - (j + 1) < l.length + 1 - j; omega, (by repeat (first | exact trivial | refine And.intro rfl ?_)), (Leads.has (by repeat' (first | exact Has.nil | exact Pick.here | apply Has.cons | apply Pick.there)))⟩
                        show (qdel Wt id).length ≤ l.length - (j + 1)
                        rw [e1, List.length_cons] at hjl; omega
              ·
                obtain rfl : Wa = [] := by cases Wa with | nil => rfl | cons x Wt => cases h77
                refine oSkip rfl rfl rfl rfl ?_
                refine oSkip rfl rfl rfl rfl ?_
                refine oSkip rfl rfl rfl rfl ?_
                refine oPickF rfl rfl ?_
                refine oNil ?_
                refine thn_n ?_
                refine wCondF rfl ?_
                refine wSkip ?_
                refine thn_n ?_
                refine wSeq ?_
                refine wRegion' ?_
                refine oMove rfl ?_
                (refine oCall rfl (by kernel_rfl) (fun w hS => frame hS (by repeat' (first | exact Split.nil | exact Pick.here | apply Split.cons | apply Pick.there)) (fun B' hB hS' => queue_Take (p := p') (s := b) hS' hb)) ?_; rintro b1 hb1)
                refine oMove rfl ?_
                refine oExt rfl (by repeat (first | exact GetAt.here | apply GetAt.there)) ?_
                refine oExt rfl (by repeat (first | exact GetAt.here | apply GetAt.there)) ?_
                refine oExt rfl (by repeat (first | exact GetAt.here | apply GetAt.there)) ?_
                refine oAssign rfl ?_
                refine oAssign rfl ?_
                refine oAssign rfl ?_
                refine oNil ?_
                refine thn_n ?_
                refine wSeq ?_
                refine wRegion' ?_
                refine oMove rfl ?_
                refine oMove rfl ?_
                refine oNeq rfl rfl ?_
                refine oMove rfl ?_
                first | refine oSplit (t := 97) rfl (fun h97 => ?_) (fun h97 => ?_) | refine oSplitB (t := 97) rfl (fun h97 => ?_) (fun h97 => ?_)
                ·
                  exact absurd (by first | rfl | exact heq1.1.symm) h97
                ·
                  refine oWant rfl rfl ?_
                  refine oMove rfl ?_
                  refine oWant rfl rfl ?_
                  refine oMove rfl ?_
                  refine oWant rfl rfl ?_
                  refine oNeq rfl rfl ?_
                  refine oPickF rfl rfl ?_
                  refine oMove rfl ?_
                  first | refine oSplit (t := 102) rfl (fun h102 => ?_) (fun h102 => ?_) | refine oSplitB (t := 102) rfl (fun h102 => ?_) (fun h102 => ?_)
                  ·
                    exact absurd (by first | rfl | exact heq1.2.1.symm) h102
                  ·
                    refine oWant rfl rfl ?_
                    refine oMove rfl ?_
                    refine oWant rfl rfl ?_
                    refine oMove rfl ?_
                    refine oWant rfl rfl ?_
                    refine oNeqBool rfl rfl rfl ?_
                    refine oPickF rfl rfl ?_
                    refine oNil ?_
                    refine thn_n ?_
                    first | refine wCond rfl (fun h106 => ?_) (fun h106 => ?_) | refine wCondB rfl (fun h106 => ?_) (fun h106 => ?_)
                    ·
                      exact absurd (by first | rfl | exact heq1.2.2.symm) h106
                    ·
                      refine wSkip ?_
                      refine blk_n ?_
                      refine thn_n ?_
                      refine wRegion' ?_
                      refine oMove rfl ?_
                      refine oSucc rfl rfl (by omega) ?_
                      refine oAssign rfl ?_
                      refine oNil ?_
                      refine thn_n ?_
                      exact ⟨rfl, (j + 1, a1, b1, []), ⟨by show j + 1 ≤ _; omega, ha1, hb1, Nat.zero_le _⟩, by show l.length + 1 - (j + 1) < l.length + 1 - j; omega, (by repeat (first | exact trivial | refine And.intro rfl ?_)), (Leads.has (by repeat' (first | exact Has.nil | exact Pick.here | apply Has.cons | apply Pick.there)))⟩
            ·
              have hz : (qdel Wa id).length = 0 := by omega
              refine wExit ?_
              refine thn_x ?_
              refine thn_x ?_
              refine blk_x ?_
              refine thn_n ?_
              refine wSeq ?_
              refine wRegion' ?_
              refine oMove rfl ?_
              (refine oCall rfl (by kernel_rfl) (fun w hS => frame hS (by repeat' (first | exact Split.nil | exact Pick.here | apply Split.cons | apply Pick.there)) (fun B' hB hS' => queue_Len (p := p') (s := b) hS' hb)) ?_; rintro ⟨⟩ -)
              refine oEql rfl rfl ?_
              refine oMove rfl ?_
              first | refine oSplit (t := 110) rfl (fun h110 => ?_) (fun h110 => ?_) | refine oSplitB (t := 110) rfl (fun h110 => ?_) (fun h110 => ?_)
              ·
                refine oWant rfl rfl ?_
                (refine oCall rfl (by kernel_rfl) (fun w hS => frame hS (by repeat' (first | exact Split.nil | exact Pick.here | apply Split.cons | apply Pick.there)) (fun B' hB hS' => known06 hS')) ?_; rintro ⟨⟩ -)
                refine oPickT rfl rfl ?_
                refine oAssign rfl ?_
                refine oNil ?_
                refine thn_n ?_
                refine wRet ?_
                refine fin_r ?_
                refine ⟨rfl, _, (ResL.cons (ResR.tmp rfl) ResL.nil), ?_⟩
                exact ⟨(), trivial, rfl, fun _ h => h.has .nil⟩
              ·
                exact absurd (by rw [hz]; rfl) h110
end Go.Proofs.YtnidmlngkpkmlaaQ
