/-
  Package cycle: Order, Back; the reference's Back.
-/
import Derived.Test.YtnidmlngkpkmlaaGp
import Derived.Test.YtnidmlngkpkmlaaGj
namespace Go.Proofs.YtnidmlngkpkmlaaG
set_option linter.unusedVariables false
set_option linter.unusedSimpArgs false
open Go.RowKit Go.Proofs.YtnidmlngkpkmlaaK Go.Proofs.YtnidmlngkpkmlaaT Go.Proofs.YtnidmlngkpkmlaaL

theorem withinP_out {g : Graph} {ib : List Bool} {b : Nat} (h : ¬ b < g.length) : (withinP g ib).getD b [] = [] := by
  rw [List.getD_eq_getElem?_getD, List.getElem?_eq_none (by rw [withinP_len]; omega)]; rfl
theorem memF_getD {g : Graph} {ib : List Bool} {x : Int} (h : memF g ib x = true) : ∃ c : Nat, x = (c : Int) ∧ (memL g ib).getD c false = true := by
  have h0 := h
  unfold memF at h
  simp only [Bool.and_eq_true, decide_eq_true_eq] at h
  obtain ⟨c, rfl⟩ := Int.eq_ofNat_of_zero_le h.1.1.1
  exact ⟨c, rfl, by rw [memL_getD (by omega)]; exact h0⟩
theorem wok {g : Graph} (hsm : SmallG g) (ib : List Bool) : WOk (withinP g ib) (memL g ib) := by
  refine ⟨by rw [withinP_len, memL_len], by rw [withinP_len]; exact hsm.1, fun b => ?_, fun b x hx => ?_, fun b x hx => ?_⟩
  · by_cases h : b < g.length
    · rw [withinP_at h]; exact wp_nodup g ib b
    · rw [withinP_out h]; exact List.Pairwise.nil
  · by_cases h : b < g.length
    · rw [withinP_at h] at hx
      rw [memL_getD h]; exact (wp_mem hx).1
    · rw [withinP_out h] at hx; cases hx
  · by_cases h : b < g.length
    · rw [withinP_at h] at hx
      exact memF_getD (wp_mem hx).2.1
    · rw [withinP_out h] at hx; cases hx
theorem fre_congr {ed ed' : Nat → Nat → Bool} {left : List Bool} {c : Nat} (hc : c < left.length) (h : ∀ b a, b < left.length → a < left.length → ed b a = ed' b a) : fre ed left c = fre ed' left c := by
  unfold fre
  congr 1
  rw [Bool.eq_iff_iff, List.all_eq_true, List.all_eq_true]
  constructor
  · intro hh b hb; rw [← h b c (List.mem_range.1 hb) hc]; exact hh b hb
  · intro hh b hb; rw [h b c (List.mem_range.1 hb) hc]; exact hh b hb
theorem find_congr {α : Type} {p q : α → Bool} : ∀ {l : List α}, (∀ a ∈ l, p a = q a) → l.find? p = l.find? q
  | [], _ => rfl
  | x :: l, h => by
    rw [List.find?_cons, List.find?_cons, h x List.mem_cons_self, find_congr (fun a ha => h a (List.mem_cons_of_mem _ ha))]
theorem gr_congr {ed ed' : Nat → Nat → Bool} {n : Nat} (h : ∀ b a, b < n → a < n → ed b a = ed' b a) : ∀ (f : Nat) (left : List Bool), left.length = n → gr ed f left = gr ed' f left
  | 0, _, _ => rfl
  | f + 1, left, hl => by
    have hn : nxt ed left = nxt ed' left := find_congr (fun a ha => fre_congr (List.mem_range.1 ha) (fun b a hb ha => h b a (hl ▸ hb) (hl ▸ ha)))
    unfold gr
    rw [hn]
    cases nxt ed' left with
    | none => rfl
    | some a => simp only; rw [gr_congr h f (left.set a false) (by rw [List.length_set]; exact hl)]
theorem kahn_seq (g : Graph) (ib : List Bool) : kahn (withinP g ib) (memL g ib) = seqN g ib := gr_congr (n := g.length) (fun b a hb ha => by
  rw [Bool.eq_iff_iff, edR_iff ha hb]
  unfold edW
  rw [decide_eq_true_eq, withinP_at hb]) _ _ (memL_len g ib)
theorem kok_ok (g : Graph) (ib : List Bool) : kok (withinP g ib) (memL g ib) = okO g ib := by unfold kok okO; rw [kahn_seq]
theorem kL_ord (g : Graph) (ib : List Bool) : kL (withinP g ib) (memL g ib) = ordL g ib := by unfold kL ordL; rw [kok_ok, kahn_seq]

set_option maxRecDepth 100000 in
set_option maxHeartbeats 1000000 in
theorem orderP {B : Base} {w : World} (hS : St B [] w) (g : Graph) (A : Option Addr) (cp : Nat) (hC : kII.C B.e A g) (hsm : SmallG g) (ib : List Bool) (A1 : Option Addr) (cp1 : Nat) (hC1 : Kd.bool.C B.e A1 ib) (hib : ib.length ≤ 1000) (W0 : World) :
    CallsIn Fence.wide 0 Try.prog 35 #[.slice A g.length cp, .slice A1 ib.length cp1] w
      (Ret B (fun _ : Option Addr × Nat => True) (fun z => .tuple #[.slice z.1 (ordL g ib).length z.2, .bool (okO g ib)]) (fun z => [row (Kd.int .i64) W0 3 (.slice z.1 (ordL g ib).length z.2) (ordL g ib)])) := by
  have hn := hsm.1
  (refine enter Try.func35 rfl rfl hS ?_; simp only [List.zipIdx_cons, List.zipIdx_nil, List.map_cons, List.map_nil, Nat.reduceAdd, Nat.zero_add])
  refine wSeq ?_
  refine wRegion' ?_
  refine oAssign rfl ?_
  refine oAssign rfl ?_
  refine oNil ?_
  refine thn_n ?_
  refine wSeq ?_
  refine wRegion' ?_
  refine oMove rfl ?_
  refine oMove rfl ?_
  (refine oCall rfl (by kernel_rfl) (fun w hS => frame hS (by repeat' (first | exact Split.nil | exact Pick.here | apply Split.cons | apply Pick.there)) (fun B' hB hS' => within_any hS' g A cp (Kd.C_grow hB hC) hsm ib A1 cp1 (Kd.C_grow hB hC1) hib B.e)) ?_; rintro ⟨⟨A8, c8, hs8⟩, A6, c6⟩ hl8)
  dsimp only at hl8 ⊢
  refine oExt rfl (by repeat (first | exact GetAt.here | apply GetAt.there)) ?_
  refine oSet (t := 9) (v' := .slice A8 (withinP g ib).length c8) rfl (by rw [withinP_len]) ?_
  refine oExt rfl (by repeat (first | exact GetAt.here | apply GetAt.there)) ?_
  refine oSet (t := 10) (v' := .slice A6 (memL g ib).length c6) rfl (by rw [memL_len]) ?_
  (refine oCall rfl (by kernel_rfl) (fun w hS => frame' hS .nil (fun B' hB hR hS' => order_any hS' (withinP g ib) (memL g ib) (wok hsm ib) A8 c8 (grid_C (hR _ _ (by repeat (first | exact Pick.here | apply Pick.there))) (hR _ _ (by repeat (first | exact Pick.here | apply Pick.there))) (by rw [withinP_len]; exact hl8) hB) A6 c6 (row_C (kd := Kd.bool) (W := B.e) (e := 4) (A := A6) (n := g.length) (cp := c6) (xs := memL g ib) (hR _ _ (by repeat (first | exact Pick.here | apply Pick.there))) hB).2.2.1 W0)) ?_; rintro ⟨A11, c11⟩ -)
  rw [kL_ord, kok_ok]
  dsimp only
  refine oExt rfl (by repeat (first | exact GetAt.here | apply GetAt.there)) ?_
  refine oExt rfl (by repeat (first | exact GetAt.here | apply GetAt.there)) ?_
  refine oAssign rfl ?_
  refine oAssign rfl ?_
  refine oNil ?_
  refine thn_n ?_
  refine wRet ?_
  refine fin_r ?_
  refine ⟨rfl, _, (ResL.cons (ResR.tmp rfl) (ResL.cons (ResR.tmp rfl) ResL.nil)), ?_⟩
  exact ⟨(A11, c11), trivial, rfl, (Leads.has (by repeat' (first | exact Has.nil | exact Pick.here | apply Has.cons | apply Pick.there)))⟩
set_option maxRecDepth 100000 in
set_option maxHeartbeats 1000000 in
theorem backP {B : Base} {w : World} (hS : St B [] w) (g : Graph) (A : Option Addr) (cp : Nat) (hC : kII.C B.e A g) (hsm : SmallG g) (ib : List Bool) (A1 : Option Addr) (cp1 : Nat) (hC1 : Kd.bool.C B.e A1 ib) (hib : ib.length ≤ 1000) (W0 : World) :
    CallsIn Fence.wide 0 Try.prog 37 #[.slice A g.length cp, .slice A1 ib.length cp1] w
      (Ret B (fun _ : Option Addr × Nat => True) (fun z => .tuple #[.slice z.1 (ordL (turnG g) ib).length z.2, .bool (okO (turnG g) ib)]) (fun z => [row (Kd.int .i64) W0 3 (.slice z.1 (ordL (turnG g) ib).length z.2) (ordL (turnG g) ib)])) := by
  have hn := hsm.1
  have hst := turnG_small hsm
  have htl := turnG_len g
  (refine enter Try.func37 rfl rfl hS ?_; simp only [List.zipIdx_cons, List.zipIdx_nil, List.map_cons, List.map_nil, Nat.reduceAdd, Nat.zero_add])
  refine wSeq ?_
  refine wRegion' ?_
  refine oAssign rfl ?_
  refine oAssign rfl ?_
  refine oNil ?_
  refine thn_n ?_
  refine wSeq ?_
  refine wRegion' ?_
  refine oMove rfl ?_
  (refine oCall rfl (by kernel_rfl) (fun w hS => frame hS (by repeat' (first | exact Split.nil | exact Pick.here | apply Split.cons | apply Pick.there)) (fun B' hB hS' => turn_any hS' g A cp (Kd.C_grow hB hC) hsm B.e)) ?_; rintro ⟨A7, c7, hs7⟩ hl7)
  dsimp only at hl7 ⊢
  refine oSet (t := 7) (v' := .slice A7 (turnG g).length c7) rfl (by rw [htl]) ?_
  refine oMove rfl ?_
  (refine oCall rfl (by kernel_rfl) (fun w hS => frame' hS .nil (fun B' hB hR hS' => within_any hS' (turnG g) A7 c7 (grid_C (hR _ _ (by repeat (first | exact Pick.here | apply Pick.there))) (hR _ _ (by repeat (first | exact Pick.here | apply Pick.there))) (by rw [htl]; exact hl7) hB) hst ib A1 cp1 (Kd.C_grow hB hC1) hib B.e)) ?_; rintro ⟨⟨A8, c8, hs8⟩, A6, c6⟩ hl8)
  dsimp only at hl8 ⊢
  refine oExt rfl (by repeat (first | exact GetAt.here | apply GetAt.there)) ?_
  refine oSet (t := 10) (v' := .slice A8 (withinP (turnG g) ib).length c8) rfl (by rw [withinP_len]) ?_
  refine oExt rfl (by repeat (first | exact GetAt.here | apply GetAt.there)) ?_
  refine oSet (t := 11) (v' := .slice A6 (memL (turnG g) ib).length c6) rfl (by rw [memL_len]) ?_
  (refine oCall rfl (by kernel_rfl) (fun w hS => frame' hS .nil (fun B' hB hR hS' => order_any hS' (withinP (turnG g) ib) (memL (turnG g) ib) (wok hst ib) A8 c8 (grid_C (hR _ _ (by repeat (first | exact Pick.here | apply Pick.there))) (hR _ _ (by repeat (first | exact Pick.here | apply Pick.there))) (by rw [withinP_len]; exact hl8) hB) A6 c6 (row_C (kd := Kd.bool) (W := B.e) (e := 4) (A := A6) (n := (turnG g).length) (cp := c6) (xs := memL (turnG g) ib) (hR _ _ (by repeat (first | exact Pick.here | apply Pick.there))) hB).2.2.1 W0)) ?_; rintro ⟨A11, c11⟩ -)
  rw [kL_ord, kok_ok]
  dsimp only
  refine oExt rfl (by repeat (first | exact GetAt.here | apply GetAt.there)) ?_
  refine oExt rfl (by repeat (first | exact GetAt.here | apply GetAt.there)) ?_
  refine oAssign rfl ?_
  refine oAssign rfl ?_
  refine oNil ?_
  refine thn_n ?_
  refine wRet ?_
  refine fin_r ?_
  refine ⟨rfl, _, (ResL.cons (ResR.tmp rfl) (ResL.cons (ResR.tmp rfl) ResL.nil)), ?_⟩
  exact ⟨(A11, c11), trivial, rfl, (Leads.has (by repeat' (first | exact Has.nil | exact Pick.here | apply Has.cons | apply Pick.there)))⟩
set_option maxRecDepth 100000 in
set_option maxHeartbeats 1000000 in
theorem refBack {B : Base} {w : World} (hS : St B [] w) (g : Graph) (A : Option Addr) (cp : Nat) (hC : kII.C B.e A g) (hsm : SmallG g) (ib : List Bool) (A1 : Option Addr) (cp1 : Nat) (hC1 : Kd.bool.C B.e A1 ib) (W0 : World) :
    CallsIn Fence.wide 0 Try.prog 38 #[.slice A g.length cp, .slice A1 ib.length cp1] w
      (Ret B (fun _ : Option Addr × Nat => True) (fun z => .tuple #[.slice z.1 (ordL (turnG g) ib).length z.2, .bool (okO (turnG g) ib)]) (fun z => [row (Kd.int .i64) W0 3 (.slice z.1 (ordL (turnG g) ib).length z.2) (ordL (turnG g) ib)])) := by
  have hn := hsm.1
  have htl := turnG_len g
  (refine enter Try.func38 rfl rfl hS ?_; simp only [List.zipIdx_cons, List.zipIdx_nil, List.map_cons, List.map_nil, Nat.reduceAdd, Nat.zero_add])
  refine wSeq ?_
  refine wRegion' ?_
  refine oAssign rfl ?_
  refine oAssign rfl ?_
  refine oNil ?_
  refine thn_n ?_
  refine wSeq ?_
  refine wRegion' ?_
  refine oMove rfl ?_
  (refine oCall rfl (by kernel_rfl) (fun w hS => frame hS (by repeat' (first | exact Split.nil | exact Pick.here | apply Split.cons | apply Pick.there)) (fun B' hB hS' => refTurn hS' g A cp (Kd.C_grow hB hC) hsm B.e)) ?_; rintro ⟨A7, c7, hs7⟩ hl7)
  dsimp only at hl7 ⊢
  refine oSet (t := 7) (v' := .slice A7 (turnG g).length c7) rfl (by rw [htl]) ?_
  refine oMove rfl ?_
  (refine oCall rfl (by kernel_rfl) (fun w hS => frame' hS .nil (fun B' hB hR hS' => refOrder hS' (turnG g) A7 c7 (grid_C (hR _ _ (by repeat (first | exact Pick.here | apply Pick.there))) (hR _ _ (by repeat (first | exact Pick.here | apply Pick.there))) (by rw [htl]; exact hl7) hB) (turnG_small hsm) ib A1 cp1 (Kd.C_grow hB hC1) W0)) ?_; rintro ⟨A11, c11⟩ -)
  dsimp only
  refine oExt rfl (by repeat (first | exact GetAt.here | apply GetAt.there)) ?_
  refine oExt rfl (by repeat (first | exact GetAt.here | apply GetAt.there)) ?_
  refine oAssign rfl ?_
  refine oAssign rfl ?_
  refine oNil ?_
  refine thn_n ?_
  refine wRet ?_
  refine fin_r ?_
  refine ⟨rfl, _, (ResL.cons (ResR.tmp rfl) (ResL.cons (ResR.tmp rfl) ResL.nil)), ?_⟩
  exact ⟨(A11, c11), trivial, rfl, (Leads.has (by repeat' (first | exact Has.nil | exact Pick.here | apply Has.cons | apply Pick.there)))⟩
end Go.Proofs.YtnidmlngkpkmlaaG
