/-
  sheerleglaw06.QueueRises, walked.
-/
import Derived.Test.YtnidmlngkpkmlaaQi
namespace Go.Proofs.YtnidmlngkpkmlaaQ
set_option linter.unusedVariables false
set_option linter.unusedSimpArgs false
open Go.RowKit Go.Proofs.YtnidmlngkpkmlaaK Go.Proofs.YtnidmlngkpkmlaaT

theorem qins_len (x : Int × Int) (W : List (Int × Int)) : (qins x W).length = W.length + 1 := by rw [(qins_perm x W).length_eq]; rfl
theorem map_at {α β : Type} {f : α → β} {l : List α} {k : Nat} {u : β} (h : (l.map f)[k]? = some u) : ∃ y, l[k]? = some y ∧ f y = u := by
  rw [List.getElem?_map] at h
  exact Option.map_eq_some_iff.1 h

set_option maxRecDepth 100000 in
set_option maxHeartbeats 1000000 in
theorem Rises {B : Base} {w : World} (hS : St B [] w) (A : Option Addr) (cp : Nat) (l : List Law06Move) (hC : kLaw06Move.C B.e A l) :
    CallsIn Fence.wide 0 Try.prog 6 #[.slice A l.length cp] w (Ret B (fun _ : Unit => True) (fun _ => .bool true) (fun _ => [])) := by
  (refine enter Try.func6 rfl rfl hS ?_; simp only [List.zipIdx_cons, List.zipIdx_nil, List.map_cons, List.map_nil, Nat.reduceAdd, Nat.zero_add])
  refine wSeq ?_
  refine wRegion' ?_
  refine oAssign rfl ?_
  refine oNil ?_
  refine thn_n ?_
  refine wSeq ?_
  refine wSeq ?_
  refine wRegion' ?_
  refine oMove rfl ?_
  refine oLenS rfl rfl ?_
  refine oGtr rfl rfl ?_
  refine oNil ?_
  refine thn_n ?_
  first | refine wCond rfl (fun h17 => ?_) (fun h17 => ?_) | refine wCondB rfl (fun h17 => ?_) (fun h17 => ?_)
  ·
    refine wSeq ?_
    refine wRegion' ?_
    (refine oCall rfl (by kernel_rfl) (fun w hS => frame hS (by repeat' (first | exact Split.nil | exact Pick.here | apply Split.cons | apply Pick.there)) (fun B' hB hS' => known06 hS')) ?_; rintro ⟨⟩ -)
    refine oAssign rfl ?_
    refine oNil ?_
    refine thn_n ?_
    refine wRet ?_
    refine thn_r ?_
    refine fin_r ?_
    refine ⟨rfl, _, (ResL.cons (ResR.tmp rfl) ResL.nil), ?_⟩
    exact ⟨(), trivial, rfl, fun _ h => h.has .nil⟩
  ·
    refine wSkip ?_
    refine thn_n ?_
    refine wSeq ?_
    refine wRegion' ?_
    (refine oCall rfl (by kernel_rfl) (fun w hS => frame hS (by repeat' (first | exact Split.nil | exact Pick.here | apply Split.cons | apply Pick.there)) (fun B' hB hS' => queue_New hS')) ?_; rintro ⟨q, p, s0⟩ h0)
    dsimp only at h0
    refine oAssign rfl ?_
    refine oNil ?_
    refine thn_n ?_
    refine wSeq ?_
    refine wRegion' ?_
    refine oAssign rfl ?_
    refine oNil ?_
    refine thn_n ?_
    refine wSeq ?_
    refine wSeq ?_
    refine wRegion' ?_
    refine oAssign rfl ?_
    refine oNil ?_
    refine thn_n ?_
    refine wBlock ?_
    refine wLoop (ι := Nat × Pile × List (Int × Int)) (fun z => [(0, .slice A l.length cp), (3, ptrV q), (4, .int .i64 (z.2.2.length : Int)), (5, .int .i64 (z.1 : Int))]) (fun z => queueR q p z.2.1) (fun z => z.1 ≤ l.length ∧ QOk z.2.1 z.2.2 ∧ z.2.2.length ≤ z.1) (fun z => l.length - z.1) (0, s0, []) ?_ (by repeat (first | exact trivial | refine And.intro rfl ?_)) (Leads.has (by repeat' (first | exact Has.nil | exact Pick.here | apply Has.cons | apply Pick.there))) ?_
    ·
      exact ⟨Nat.zero_le _, h0, Nat.le_refl _⟩
    ·
      rintro ⟨i, s, W⟩ ⟨hi, hq, hW⟩
      dsimp only at hi hq hW
      dsimp only
      refine wSeq ?_
      refine wSeq ?_
      refine wRegion' ?_
      refine oMove rfl ?_
      refine oMove rfl ?_
      refine oLenS rfl rfl ?_
      refine oLss rfl rfl ?_
      refine oNil ?_
      refine thn_n ?_
      first | refine wCond rfl (fun h23 => ?_) (fun h23 => ?_) | refine wCondB rfl (fun h23 => ?_) (fun h23 => ?_)
      ·
        refine wSkip ?_
        refine thn_n ?_
        refine wSeq ?_
        refine wBlock ?_
        refine wSeq ?_
        refine wDraw2 rfl rfl [0, 1, 2, 6, 7] [3, 4, 5, 8, 9, 10] 11 (by kernel_rfl) rfl rfl rfl (fun w0 => ?_)
        refine oIdx rfl rfl (hC) rfl (by omega) rfl rfl (fun e29 u29 cs29 hu29 hk29 hc29 => ?_)
        obtain rfl := kLaw06Move_open hk29
        first | refine oFldX (n := 1) (m := 1) rfl rfl rfl ?_ | refine oFldR (n := 1) (m := 1) rfl rfl rfl ?_
        first | refine oLdX rfl hc29 rfl rfl ?_ | refine oLdXA rfl hc29 rfl (by repeat (first | exact SubL.done | apply SubL.take | apply SubL.drop)) ?_ | (refine oLdR1 rfl (by repeat (first | exact Pick.here | apply Pick.there)) (by omega) rfl (fun u31 hu31 => ?_))
        refine oIdx rfl rfl (hC) rfl (by omega) rfl rfl (fun e34 u34 cs34 hu34 hk34 hc34 => ?_)
        obtain rfl := kLaw06Move_open hk34
        first | refine oFldX (n := 2) (m := 2) rfl rfl rfl ?_ | refine oFldR (n := 2) (m := 2) rfl rfl rfl ?_
        first | refine oLdX rfl hc34 rfl rfl ?_ | refine oLdXA rfl hc34 rfl (by repeat (first | exact SubL.done | apply SubL.take | apply SubL.drop)) ?_ | (refine oLdR1 rfl (by repeat (first | exact Pick.here | apply Pick.there)) (by omega) rfl (fun u36 hu36 => ?_))
        refine oHead ?_
        (refine oCall rfl (by kernel_rfl) (fun w hS => frame hS (by repeat' (first | exact Split.nil | exact Pick.here | apply Split.cons | apply Pick.there)) (fun B' hB hS' => queue_Put (p := p) (s := s) hS' hq _ _ (by omega))) ?_; rintro s1 h1)
        refine oNilT ?_
        refine thn_n ?_
        first | refine wCond rfl (fun h37 => ?_) (fun h37 => ?_) | refine wCondB rfl (fun h37 => ?_) (fun h37 => ?_)
        ·
          replace h1 : QOk s1 (qins (u29.fID, u34.fKey) W) := by rw [show qhas W u29.fID = false by simpa using h37] at h1; exact h1
          refine wRegion' ?_
          refine oMove rfl ?_
          refine oSucc rfl rfl (by omega) ?_
          refine oAssign rfl ?_
          refine oNil ?_
          refine blk_n ?_
          refine thn_n ?_
          refine wRegion' ?_
          refine oMove rfl ?_
          refine oSucc rfl rfl (by omega) ?_
          refine oAssign rfl ?_
          refine oNil ?_
          refine thn_n ?_
          exact ⟨rfl, (i + 1, s1, qins (u29.fID, u34.fKey) W), ⟨by show i + 1 ≤ _; omega, h1, by show (qins _ W).length ≤ i + 1; rw [qins_len]; omega⟩, by show l.length - (i + 1) < l.length - i; omega, ⟨rfl, rfl, by rw [show ((qins (u29.fID, u34.fKey) W).length : Int) = (W.length : Int) + 1 by rw [qins_len]; omega]; rfl, rfl, trivial⟩, (Leads.has (by repeat' (first | exact Has.nil | exact Pick.here | apply Has.cons | apply Pick.there)))⟩
        ·
          replace h1 : QOk s1 W := by rw [show qhas W u29.fID = true by simpa using h37] at h1; exact h1
          refine wSkip ?_
          refine blk_n ?_
          refine thn_n ?_
          refine wRegion' ?_
          refine oMove rfl ?_
          refine oSucc rfl rfl (by omega) ?_
          refine oAssign rfl ?_
          refine oNil ?_
          refine thn_n ?_
          exact ⟨rfl, (i + 1, s1, W), ⟨by show i + 1 ≤ _; omega, h1, by show W.length ≤ i + 1; omega⟩, by show l.length - (i + 1) < l.length - i; omega, ⟨rfl, rfl, rfl, rfl, trivial⟩, (Leads.has (by repeat' (first | exact Has.nil | exact Pick.here | apply Has.cons | apply Pick.there)))⟩
      ·
        refine wExit ?_
        refine thn_x ?_
        refine thn_x ?_
        refine blk_x ?_
        refine thn_n ?_
        refine wSeq ?_
        refine wRegion' ?_
        refine oAssign rfl ?_
        refine oAssign rfl ?_
        refine oNil ?_
        refine thn_n ?_
        refine wSeq ?_
        refine wSeq ?_
        refine wRegion' ?_
        refine oAssign rfl ?_
        refine oNil ?_
        refine thn_n ?_
        refine wBlock ?_
        refine wLoop (ι := List (Int × Int) × List (Int × Int) × Pile × (Option Addr × Nat) × (Option Addr × Nat)) (fun z => [(3, ptrV q), (4, .int .i64 (W.length : Int)), (8, .int .i64 (z.1.length : Int)), (6, .slice z.2.2.2.1.1 z.1.length z.2.2.2.1.2), (7, .slice z.2.2.2.2.1 z.1.length z.2.2.2.2.2)]) (fun z => [row (Kd.int .i64) default 3 (.slice z.2.2.2.1.1 z.1.length z.2.2.2.1.2) (z.1.map (·.1)), row (Kd.int .i64) default 3 (.slice z.2.2.2.2.1 z.1.length z.2.2.2.2.2) (z.1.map (·.2))] ++ queueR q p z.2.2.1) (fun z => W = z.1 ++ z.2.1 ∧ QOk z.2.2.1 z.2.1) (fun z => z.2.1.length) ([], W, s, (none, 0), (none, 0)) ?_ (by repeat (first | exact trivial | refine And.intro rfl ?_)) (Leads.nilrow.trans Leads.nilrow) ?_
        ·
          exact ⟨rfl, hq⟩
        ·
          rintro ⟨tk, Wr, s2, ⟨A6, c6⟩, ⟨A7, c7⟩⟩ ⟨hsp, hq2⟩
          dsimp only at hsp hq2
          have hlen : W.length = tk.length + Wr.length := by rw [hsp, List.length_append]
          have hl6 : (tk.map (·.1)).length = tk.length := List.length_map _
          have hl7 : (tk.map (·.2)).length = tk.length := List.length_map _
          dsimp only
          refine wSeq ?_
          refine wSeq ?_
          refine wRegion' ?_
          refine oMove rfl ?_
          refine oMove rfl ?_
          refine oLss rfl rfl ?_
          refine oNil ?_
          refine thn_n ?_
          first | refine wCond rfl (fun h42 => ?_) (fun h42 => ?_) | refine wCondB rfl (fun h42 => ?_) (fun h42 => ?_)
          ·
            obtain ⟨x, Wt, rfl⟩ : ∃ x Wt, Wr = x :: Wt := by cases Wr with | nil => simp at hlen; omega | cons x Wt => exact ⟨x, Wt, rfl⟩
            have hsx : ∀ y ∈ tk, lt2 y x := fun y hy => (List.pairwise_append.1 (hsp ▸ hq.sorted)).2.2 y hy x List.mem_cons_self
            refine wSkip ?_
            refine thn_n ?_
            refine wSeq ?_
            refine wBlock ?_
            refine wSeq ?_
            refine wRegion' ?_
            refine oMove rfl ?_
            (refine oCall rfl (by kernel_rfl) (fun w hS => frame hS (by repeat' (first | exact Split.nil | exact Pick.here | apply Split.cons | apply Pick.there)) (fun B' hB hS' => queue_Take (p := p) (s := s2) hS' hq2)) ?_; rintro s3 h3)
            refine oMove rfl ?_
            refine oExt rfl (by repeat (first | exact GetAt.here | apply GetAt.there)) ?_
            refine oExt rfl (by repeat (first | exact GetAt.here | apply GetAt.there)) ?_
            refine oExt rfl (by repeat (first | exact GetAt.here | apply GetAt.there)) ?_
            refine oAssign rfl ?_
            refine oAssign rfl ?_
            refine oAssign rfl ?_
            refine oNil ?_
            refine thn_n ?_
            refine wSeq ?_
            refine wSeq ?_
            refine wRegion' ?_
            refine oMove rfl ?_
            refine oNotT rfl ?_
            refine oMove rfl ?_
            refine oWant rfl rfl ?_
            refine oMove rfl ?_
            refine oWant rfl rfl ?_
            refine oGtr rfl rfl ?_
            refine oWant rfl rfl ?_
            refine oMove rfl ?_
            first | refine oSplit (t := 56) rfl (fun h56 => ?_) (fun h56 => ?_) | refine oSplitB (t := 56) rfl (fun h56 => ?_) (fun h56 => ?_)
            ·
              refine oWant rfl rfl ?_
              refine oMove rfl ?_
              refine oWant rfl rfl ?_
              refine oMove rfl ?_
              refine oWant rfl rfl ?_
              refine oMove rfl ?_
              refine oWant rfl rfl ?_
              first | refine oSub rfl rfl (by omega) ?_ | refine oSubW rfl rfl ?_
              refine oSet (t := 60) (v' := .int .i64 ((tk.length - 1 : Nat) : Int)) rfl (by congr 1; omega) ?_
              refine oWant rfl rfl ?_
              refine oIdxR rfl rfl (by repeat (first | exact Pick.here | apply Pick.there)) (by omega) rfl rfl (fun g61 hg61 => ?_)
              first | subst hg61 | (injection hg61 with hg61; injection hg61 with hg61; subst hg61)
              refine oWant rfl rfl ?_
              first | refine oLdX rfl hc61 rfl rfl ?_ | refine oLdXA rfl hc61 rfl (by repeat (first | exact SubL.done | apply SubL.take | apply SubL.drop)) ?_ | (refine oLdR1 rfl (by repeat (first | exact Pick.here | apply Pick.there)) (by omega) rfl (fun u62 hu62 => ?_))
              refine oWant rfl rfl ?_
              refine oLss rfl rfl ?_
              refine oWant rfl rfl ?_
              refine oMove rfl ?_
              first | refine oSplit (t := 64) rfl (fun h64 => ?_) (fun h64 => ?_) | refine oSplitB (t := 64) rfl (fun h64 => ?_) (fun h64 => ?_)
              ·
                obtain ⟨y, hy, rfl⟩ := map_at hu62
                have := hsx y (List.mem_of_getElem? hy)
                dsimp only [hd1, hd2] at h64
                unfold lt2 at this; omega
              ·
                refine oWant rfl rfl ?_
                refine oMove rfl ?_
                refine oWant rfl rfl ?_
                refine oMove rfl ?_
                refine oWant rfl rfl ?_
                refine oMove rfl ?_
                refine oWant rfl rfl ?_
                first | refine oSub rfl rfl (by omega) ?_ | refine oSubW rfl rfl ?_
                refine oSet (t := 68) (v' := .int .i64 ((tk.length - 1 : Nat) : Int)) rfl (by congr 1; omega) ?_
                refine oWant rfl rfl ?_
                refine oIdxR rfl rfl (by repeat (first | exact Pick.here | apply Pick.there)) (by omega) rfl rfl (fun g69 hg69 => ?_)
                first | subst hg69 | (injection hg69 with hg69; injection hg69 with hg69; subst hg69)
                refine oWant rfl rfl ?_
                first | refine oLdX rfl hc69 rfl rfl ?_ | refine oLdXA rfl hc69 rfl (by repeat (first | exact SubL.done | apply SubL.take | apply SubL.drop)) ?_ | (refine oLdR1 rfl (by repeat (first | exact Pick.here | apply Pick.there)) (by omega) rfl (fun u70 hu70 => ?_))
                refine oWant rfl rfl ?_
                refine oEql rfl rfl ?_
                refine oWant rfl rfl ?_
                refine oMove rfl ?_
                first | refine oSplit (t := 72) rfl (fun h72 => ?_) (fun h72 => ?_) | refine oSplitB (t := 72) rfl (fun h72 => ?_) (fun h72 => ?_)
                ·
                  refine oWant rfl rfl ?_
                  refine oMove rfl ?_
                  refine oWant rfl rfl ?_
                  refine oMove rfl ?_
                  refine oWant rfl rfl ?_
                  refine oMove rfl ?_
                  refine oWant rfl rfl ?_
                  first | refine oSub rfl rfl (by omega) ?_ | refine oSubW rfl rfl ?_
                  refine oSet (t := 76) (v' := .int .i64 ((tk.length - 1 : Nat) : Int)) rfl (by congr 1; omega) ?_
                  refine oWant rfl rfl ?_
                  refine oIdxR rfl rfl (by repeat (first | exact Pick.here | apply Pick.there)) (by omega) rfl rfl (fun g77 hg77 => ?_)
                  first | subst hg77 | (injection hg77 with hg77; injection hg77 with hg77; subst hg77)
                  refine oWant rfl rfl ?_
                  first | refine oLdX rfl hc77 rfl rfl ?_ | refine oLdXA rfl hc77 rfl (by repeat (first | exact SubL.done | apply SubL.take | apply SubL.drop)) ?_ | (refine oLdR1 rfl (by repeat (first | exact Pick.here | apply Pick.there)) (by omega) rfl (fun u78 hu78 => ?_))
                  refine oWant rfl rfl ?_
                  refine oLeq rfl rfl ?_
                  refine oWant rfl rfl ?_
                  refine oPickT rfl rfl ?_
                  refine oWant rfl rfl ?_
                  refine oPickF rfl rfl ?_
                  refine oWant rfl rfl ?_
                  refine oPickT rfl rfl ?_
                  refine oPickF rfl rfl ?_
                  refine oNil ?_
                  refine thn_n ?_
                  first | refine wCond rfl (fun h83 => ?_) (fun h83 => ?_) | refine wCondB rfl (fun h83 => ?_) (fun h83 => ?_)
                  ·
                    obtain ⟨y, hy, rfl⟩ := map_at hu70
                    obtain ⟨y', hy', rfl⟩ := map_at hu78
                    obtain rfl := Option.some.inj (hy.symm.trans hy')
                    have := hsx y (List.mem_of_getElem? hy)
                    dsimp only [hd1, hd2] at h72 h83
                    unfold lt2 at this; omega
                  ·
                    refine wSkip ?_
                    refine thn_n ?_
                    refine wSeq ?_
                    refine wRegion' ?_
                    refine oMove rfl ?_
                    refine oMove rfl ?_
                    refine oBuildSlice1 rfl rfl rfl rfl rfl (by first | exact CellsOf.agg | exact CellsOf.one rfl) rfl (fun b86 => ?_)
                    refine oApp1 _ rfl rfl rfl rfl (by repeat (first | exact Pick.here | apply Pick.there)) (by repeat (first | exact Pick.here | apply Pick.there)) rfl (by omega) rfl (fun g87 cp87 => ?_)
                    refine oAssign rfl ?_
                    refine oNil ?_
                    refine thn_n ?_
                    refine wRegion' ?_
                    refine oMove rfl ?_
                    refine oMove rfl ?_
                    refine oBuildSlice1 rfl rfl rfl rfl rfl (by first | exact CellsOf.agg | exact CellsOf.one rfl) rfl (fun b90 => ?_)
                    refine oApp1 _ rfl rfl rfl rfl (by repeat (first | exact Pick.here | apply Pick.there)) (by repeat (first | exact Pick.here | apply Pick.there)) rfl (by omega) rfl (fun g91 cp91 => ?_)
                    refine oAssign rfl ?_
                    refine oNil ?_
                    refine blk_n ?_
                    refine thn_n ?_
                    refine wRegion' ?_
                    refine oMove rfl ?_
                    refine oSucc rfl rfl (by omega) ?_
                    refine oAssign rfl ?_
                    refine oNil ?_
                    refine thn_n ?_
                    refine ⟨rfl, (tk ++ [x], Wt, s3, (some ⟨g87, 0, none⟩, cp87), (some ⟨g91, 0, none⟩, cp91)), ⟨by rw [hsp]; simp, h3⟩, by show Wt.length < (x :: Wt).length; simp, ?_, ?_⟩
                    · simp only [List.map_append, List.length_append, List.map_cons, List.map_nil, List.length_cons, List.length_nil, List.length_map, Nat.zero_add]
                      exact (by repeat (first | exact trivial | refine And.intro rfl ?_))
                    · simp only [List.map_append, List.length_append, List.map_cons, List.map_nil, List.length_cons, List.length_nil, List.length_map, Nat.zero_add]
                      exact (Leads.has (by repeat' (first | exact Has.nil | exact Pick.here | apply Has.cons | apply Pick.there)))
                ·
                  refine oSkip rfl rfl rfl rfl ?_
                  refine oSkip rfl rfl rfl rfl ?_
                  refine oSkip rfl rfl rfl rfl ?_
                  refine oSkip rfl rfl rfl rfl ?_
                  refine oSkip rfl rfl rfl rfl ?_
                  refine oSkip rfl rfl rfl rfl ?_
                  refine oSkip rfl rfl rfl rfl ?_
                  refine oWant rfl rfl ?_
                  refine oPickF rfl rfl ?_
                  refine oWant rfl rfl ?_
                  refine oPickF rfl rfl ?_
                  refine oWant rfl rfl ?_
                  refine oPickT rfl rfl ?_
                  refine oPickF rfl rfl ?_
                  refine oNil ?_
                  refine thn_n ?_
                  refine wCondF rfl ?_
                  refine wSkip ?_
                  refine thn_n ?_
                  refine wSeq ?_
                  refine wRegion' ?_
                  refine oMove rfl ?_
                  refine oMove rfl ?_
                  refine oBuildSlice1 rfl rfl rfl rfl rfl (by first | exact CellsOf.agg | exact CellsOf.one rfl) rfl (fun b86 => ?_)
                  refine oApp1 _ rfl rfl rfl rfl (by repeat (first | exact Pick.here | apply Pick.there)) (by repeat (first | exact Pick.here | apply Pick.there)) rfl (by omega) rfl (fun g87 cp87 => ?_)
                  refine oAssign rfl ?_
                  refine oNil ?_
                  refine thn_n ?_
                  refine wRegion' ?_
                  refine oMove rfl ?_
                  refine oMove rfl ?_
                  refine oBuildSlice1 rfl rfl rfl rfl rfl (by first | exact CellsOf.agg | exact CellsOf.one rfl) rfl (fun b90 => ?_)
                  refine oApp1 _ rfl rfl rfl rfl (by repeat (first | exact Pick.here | apply Pick.there)) (by repeat (first | exact Pick.here | apply Pick.there)) rfl (by omega) rfl (fun g91 cp91 => ?_)
                  refine oAssign rfl ?_
                  refine oNil ?_
                  refine blk_n ?_
                  refine thn_n ?_
                  refine wRegion' ?_
                  refine oMove rfl ?_
                  refine oSucc rfl rfl (by omega) ?_
                  refine oAssign rfl ?_
                  refine oNil ?_
                  refine thn_n ?_
                  refine ⟨rfl, (tk ++ [x], Wt, s3, (some ⟨g87, 0, none⟩, cp87), (some ⟨g91, 0, none⟩, cp91)), ⟨by rw [hsp]; simp, h3⟩, by show Wt.length < (x :: Wt).length; simp, ?_, ?_⟩
                  · simp only [List.map_append, List.length_append, List.map_cons, List.map_nil, List.length_cons, List.length_nil, List.length_map, Nat.zero_add]
                    exact (by repeat (first | exact trivial | refine And.intro rfl ?_))
                  · simp only [List.map_append, List.length_append, List.map_cons, List.map_nil, List.length_cons, List.length_nil, List.length_map, Nat.zero_add]
                    exact (Leads.has (by repeat' (first | exact Has.nil | exact Pick.here | apply Has.cons | apply Pick.there)))
            ·
              refine oSkip rfl rfl rfl rfl ?_
              refine oSkip rfl rfl rfl rfl ?_
              refine oSkip rfl rfl rfl rfl ?_
              refine oSkip rfl rfl rfl rfl ?_
              refine oSkip rfl rfl rfl rfl ?_
              refine oSkip rfl rfl rfl rfl ?_
              refine oSkip rfl rfl rfl rfl ?_
              refine oSkip rfl rfl rfl rfl ?_
              refine oSkipU rfl rfl rfl ?_
              refine oSkipU rfl rfl rfl ?_
              refine oSkipU rfl rfl rfl ?_
              refine oSkipU rfl rfl rfl ?_
              refine oSkipU rfl rfl rfl ?_
              refine oSkipU rfl rfl rfl ?_
              refine oSkipU rfl rfl rfl ?_
              refine oSkipU rfl rfl rfl ?_
              refine oSkipU rfl rfl rfl ?_
              refine oSkipU rfl rfl rfl ?_
              refine oSkipU rfl rfl rfl ?_
              refine oSkipU rfl rfl rfl ?_
              refine oSkipU rfl rfl rfl ?_
              refine oSkipU rfl rfl rfl ?_
              refine oSkipU rfl rfl rfl ?_
              refine oSkipU rfl rfl rfl ?_
              refine oSkip rfl rfl rfl rfl ?_
              refine oWant rfl rfl ?_
              refine oPickF rfl rfl ?_
              refine oPickF rfl rfl ?_
              refine oNil ?_
              refine thn_n ?_
              refine wCondF rfl ?_
              refine wSkip ?_
              refine thn_n ?_
              refine wSeq ?_
              refine wRegion' ?_
              refine oMove rfl ?_
              refine oMove rfl ?_
              refine oBuildSlice1 rfl rfl rfl rfl rfl (by first | exact CellsOf.agg | exact CellsOf.one rfl) rfl (fun b86 => ?_)
              refine oApp1 _ rfl rfl rfl rfl (by repeat (first | exact Pick.here | apply Pick.there)) (by repeat (first | exact Pick.here | apply Pick.there)) rfl (by omega) rfl (fun g87 cp87 => ?_)
              refine oAssign rfl ?_
              refine oNil ?_
              refine thn_n ?_
              refine wRegion' ?_
              refine oMove rfl ?_
              refine oMove rfl ?_
              refine oBuildSlice1 rfl rfl rfl rfl rfl (by first | exact CellsOf.agg | exact CellsOf.one rfl) rfl (fun b90 => ?_)
              refine oApp1 _ rfl rfl rfl rfl (by repeat (first | exact Pick.here | apply Pick.there)) (by repeat (first | exact Pick.here | apply Pick.there)) rfl (by omega) rfl (fun g91 cp91 => ?_)
              refine oAssign rfl ?_
              refine oNil ?_
              refine blk_n ?_
              refine thn_n ?_
              refine wRegion' ?_
              refine oMove rfl ?_
              refine oSucc rfl rfl (by omega) ?_
              refine oAssign rfl ?_
              refine oNil ?_
              refine thn_n ?_
              refine ⟨rfl, (tk ++ [x], Wt, s3, (some ⟨g87, 0, none⟩, cp87), (some ⟨g91, 0, none⟩, cp91)), ⟨by rw [hsp]; simp, h3⟩, by show Wt.length < (x :: Wt).length; simp, ?_, ?_⟩
              · simp only [List.map_append, List.length_append, List.map_cons, List.map_nil, List.length_cons, List.length_nil, List.length_map, Nat.zero_add]
                exact (by repeat (first | exact trivial | refine And.intro rfl ?_))
              · simp only [List.map_append, List.length_append, List.map_cons, List.map_nil, List.length_cons, List.length_nil, List.length_map, Nat.zero_add]
                exact (Leads.has (by repeat' (first | exact Has.nil | exact Pick.here | apply Has.cons | apply Pick.there)))
          ·
            obtain rfl : Wr = [] := List.eq_nil_of_length_eq_zero (by omega)
            refine wExit ?_
            refine thn_x ?_
            refine thn_x ?_
            refine blk_x ?_
            refine thn_n ?_
            refine wSeq ?_
            refine wRegion' ?_
            refine oMove rfl ?_
            (refine oCall rfl (by kernel_rfl) (fun w hS => frame hS (by repeat' (first | exact Split.nil | exact Pick.here | apply Split.cons | apply Pick.there)) (fun B' hB hS' => queue_Take (p := p) (s := s2) hS' hq2)) ?_; rintro s4 h4)
            refine oMove rfl ?_
            refine oExt rfl (by repeat (first | exact GetAt.here | apply GetAt.there)) ?_
            refine oExt rfl (by repeat (first | exact GetAt.here | apply GetAt.there)) ?_
            refine oExt rfl (by repeat (first | exact GetAt.here | apply GetAt.there)) ?_
            refine oAssign rfl ?_
            refine oAssign rfl ?_
            refine oAssign rfl ?_
            refine oNil ?_
            refine thn_n ?_
            refine wSeq ?_
            refine wRegion' ?_
            refine oMove rfl ?_
            refine oNotF rfl ?_
            refine oMove rfl ?_
            refine oWant rfl rfl ?_
            refine oMove rfl ?_
            refine oWant rfl rfl ?_
            (refine oCall rfl (by kernel_rfl) (fun w hS => frame hS (by repeat' (first | exact Split.nil | exact Pick.here | apply Split.cons | apply Pick.there)) (fun B' hB hS' => queue_Len (p := p) (s := s4) hS' h4)) ?_; rintro ⟨⟩ -)
            refine oWant rfl rfl ?_
            refine oEql rfl rfl ?_
            refine oPickT rfl rfl ?_
            refine oMove rfl ?_
            first | refine oSplit (t := 105) rfl (fun h105 => ?_) (fun h105 => ?_) | refine oSplitB (t := 105) rfl (fun h105 => ?_) (fun h105 => ?_)
            ·
              refine oWant rfl rfl ?_
              (refine oCall rfl (by kernel_rfl) (fun w hS => frame hS (by repeat' (first | exact Split.nil | exact Pick.here | apply Split.cons | apply Pick.there)) (fun B' hB hS' => known06 hS')) ?_; rintro ⟨⟩ -)
              refine oPickT rfl rfl ?_
              refine oAssign rfl ?_
              refine oNil ?_
              refine thn_n ?_
              refine wRet ?_
              refine fin_r ?_
              refine ⟨rfl, _, (ResL.cons (ResR.tmp rfl) ResL.nil), ?_⟩
              exact ⟨(), trivial, rfl, fun _ h => h.has .nil⟩
            ·
              exact absurd rfl h105
end Go.Proofs.YtnidmlngkpkmlaaQ
