/-
  container/heap over a pile: up and down.
-/
import Derived.Test.YtnidmlngkpkmlaaQd
namespace Go.Proofs.YtnidmlngkpkmlaaQ
set_option linter.unusedVariables false
set_option linter.unusedSimpArgs false
open Go.RowKit Go.Proofs.YtnidmlngkpkmlaaK

def ltB (f : Nat → It) (a b : Nat) : Prop := ltI (f a) (f b)
theorem Same.refl (f : Nat → It) : Same f f := fun _ => ⟨rfl, rfl⟩
theorem Same.trans {f g h : Nat → It} (a : Same f g) (b : Same g h) : Same f h := fun k => ⟨(b k).1.trans (a k).1, (b k).2.trans (a k).2⟩
theorem Same.lt {f g : Nat → It} (h : Same f g) : ltB g = ltB f := by
  funext a b; unfold ltB ltI; rw [(h a).1, (h a).2, (h b).1, (h b).2]
theorem lt_asy (f : Nat → It) : ∀ a b, ltB f a b → ¬ ltB f b a := by intro a b; unfold ltB ltI; omega
theorem lt_tr (f : Nat → It) : ∀ a b c, ¬ ltB f b a → ¬ ltB f c b → ¬ ltB f c a := by intro a b c; unfold ltB ltI; omega
theorem lt_ir (f : Nat → It) : ∀ a, ¬ ltB f a a := by intro a; unfold ltB ltI; omega
abbrev pileI (p : Nat) : Value := .iface 64 (ptrV p)
theorem swp_fun {l : List Nat} {i j : Nat} (hi : i < l.length) (hj : j < l.length) : at_ (swp l i j) = sw (at_ l) i j := funext (swp_at hi hj)
theorem half (j : Nat) : ((j : Int) - 1).tdiv 2 = (((j - 1) / 2 : Nat) : Int) := by
  rcases Nat.eq_zero_or_pos j with rfl | h
  · rfl
  · rw [show (j : Int) - 1 = ((j - 1 : Nat) : Int) by omega, Int.tdiv_eq_ediv_of_nonneg (by omega)]; omega

set_option maxRecDepth 100000 in
theorem heap_up {B : Base} {w : World} {p : Nat} {s : Pile} (hS : St B (pileR p s) w) (hok : POk s) (n : Nat) (hn : n ≤ s.l.length) (j : Nat) (hj : j < n) (hup : UpInv (ltB s.f) (at_ s.l) n j) :
    CallsIn Fence.wide 0 Try.prog 68 #[pileI p, .int .i64 (j : Int)] w (Ret B (fun s' => POk s' ∧ s'.l.Perm s.l ∧ Same s.f s'.f ∧ (∀ k, n ≤ k → at_ s'.l k = at_ s.l k) ∧ HeapN (ltB s.f) (at_ s'.l) n) (fun _ => .tuple #[]) (fun s' => pileR p s')) := by
  have hm := hok.sm
  (refine enter Try.func68 rfl rfl hS ?_; simp only [List.zipIdx_cons, List.zipIdx_nil, List.map_cons, List.map_nil, Nat.reduceAdd, Nat.zero_add])
  refine wBlock ?_
  refine wLoop (ι := Pile × Nat) (fun q => [(0, pileI p), (1, .int .i64 (q.2 : Int))]) (fun q => pileR p q.1) (fun q => POk q.1 ∧ q.1.l.Perm s.l ∧ Same s.f q.1.f ∧ (∀ k, n ≤ k → at_ q.1.l k = at_ s.l k) ∧ UpInv (ltB s.f) (at_ q.1.l) n q.2 ∧ q.2 < n) (fun q => q.2) (s, j) ?_ (by repeat (first | exact trivial | refine And.intro rfl ?_)) (Leads.has (by repeat' (first | exact Has.nil | exact Pick.here | apply Has.cons | apply Pick.there))) ?_
  ·
    exact ⟨hok, .refl _, Same.refl _, fun _ _ => rfl, hup, hj⟩
  ·
    rintro ⟨s1, j1⟩ ⟨hok1, hpm, hsm, hout, hup1, hj1⟩
    dsimp only at hok1 hpm hsm hout hup1 hj1
    have hl1 := hpm.length_eq
    have hh := half j1
    dsimp only
    refine wBlock ?_
    refine wSeq ?_
    refine wRegion' ?_
    refine oMove rfl ?_
    first | refine oSub rfl rfl (by omega) ?_ | refine oSubW rfl rfl ?_
    refine oQuo rfl rfl (by omega) ?_
    refine oSet (t := 7) (v' := .int .i64 (((j1 - 1) / 2 : Nat) : Int)) rfl (by rw [hh]) ?_
    refine oAssign rfl ?_
    refine oNil ?_
    refine thn_n ?_
    refine wSeq ?_
    refine wSeq ?_
    refine wRegion' ?_
    refine oMove rfl ?_
    refine oMove rfl ?_
    refine oEql rfl rfl ?_
    refine oMove rfl ?_
    first | refine oSplit (t := 11) rfl (fun h11 => ?_) (fun h11 => ?_) | refine oSplitB (t := 11) rfl (fun h11 => ?_) (fun h11 => ?_)
    ·
      refine oSkip rfl rfl rfl rfl ?_
      refine oSkip rfl rfl rfl rfl ?_
      refine oSkip rfl rfl rfl rfl ?_
      refine oSkip rfl rfl rfl rfl ?_
      refine oSkip rfl rfl rfl rfl ?_
      refine oPickT rfl rfl ?_
      refine oNil ?_
      refine thn_n ?_
      refine wCondT rfl ?_
      refine wExit ?_
      refine thn_x ?_
      refine blk_y rfl ?_
      refine thn_x ?_
      refine blk_x ?_
      refine fin_n ?_
      refine ⟨rfl, _, ResL.nil, ?_⟩
      exact ⟨s1, ⟨hok1, hpm, hsm, hout, up_end hup1 (.inl (by omega))⟩, rfl, (Leads.has (by repeat' (first | exact Has.nil | exact Pick.here | apply Has.cons | apply Pick.there)))⟩
    ·
      refine oWant rfl rfl ?_
      refine oMove rfl ?_
      refine oWant rfl rfl ?_
      refine oMove rfl ?_
      refine oWant rfl rfl ?_
      refine oMove rfl ?_
      refine oWant rfl rfl ?_
      (refine oInvoke rfl rfl (fun _ => by kernel_rfl) (g := 119) (by kernel_rfl) (fun w hS => frame hS (by repeat' (first | exact Split.nil | exact Pick.here | apply Split.cons | apply Pick.there)) (fun B' hB hS' => pile_Less hS' j1 ((j1 - 1) / 2) (at_ s1.l j1) (at_ s1.l ((j1 - 1) / 2)) (get_at (by omega)) (get_at (by omega)))) ?_; rintro ⟨⟩ -)
      refine oWant rfl rfl ?_
      first | refine oNot rfl ?_ | refine oNotB rfl ?_
      refine oPickF rfl rfl ?_
      refine oNil ?_
      refine thn_n ?_
      first | refine wCond rfl (fun h17 => ?_) (fun h17 => ?_) | refine wCondB rfl (fun h17 => ?_) (fun h17 => ?_)
      ·
        refine wExit ?_
        refine thn_x ?_
        refine blk_y rfl ?_
        refine thn_x ?_
        refine blk_x ?_
        refine fin_n ?_
        refine ⟨rfl, _, ResL.nil, ?_⟩
        exact ⟨s1, ⟨hok1, hpm, hsm, hout, up_end hup1 (.inr (by rw [← hsm.lt]; exact h17))⟩, rfl, (Leads.has (by repeat' (first | exact Has.nil | exact Pick.here | apply Has.cons | apply Pick.there)))⟩
      ·
        have hlt : ltB s1.f (at_ s1.l j1) (at_ s1.l ((j1 - 1) / 2)) := Classical.not_not.1 h17
        refine wSkip ?_
        refine thn_n ?_
        refine wSeq ?_
        refine wRegion' ?_
        refine oMove rfl ?_
        refine oMove rfl ?_
        refine oMove rfl ?_
        (refine oInvoke rfl rfl (fun _ => by kernel_rfl) (g := 122) (by kernel_rfl) (fun w hS => frame hS (by repeat' (first | exact Split.nil | exact Pick.here | apply Split.cons | apply Pick.there)) (fun B' hB hS' => pile_Swap hS' hok1 ((j1 - 1) / 2) j1 (by omega) (by omega))) ?_; rintro s2 ⟨hok2, hl2, hsm2⟩)
        refine oNil ?_
        refine thn_n ?_
        refine wRegion' ?_
        refine oMove rfl ?_
        refine oAssign rfl ?_
        refine oNil ?_
        refine blk_n ?_
        refine thn_n ?_
        exact ⟨rfl, (s2, (j1 - 1) / 2), ⟨hok2, by rw [hl2]; exact (swp_perm (by omega) (by omega)).trans hpm, hsm.trans hsm2, fun k hk => by rw [hl2, swp_at (by omega) (by omega), sw, if_neg (by omega), if_neg (by omega)]; exact hout k hk, by rw [hl2, swp_fun (by omega) (by omega)]; exact up_step (lt_asy _) (lt_tr _) hup1 (by omega) hj1 (hsm.lt ▸ hlt), by show (j1 - 1) / 2 < _; omega⟩, by show (j1 - 1) / 2 < j1; omega, (by repeat (first | exact trivial | refine And.intro rfl ?_)), (Leads.has (by repeat' (first | exact Has.nil | exact Pick.here | apply Has.cons | apply Pick.there)))⟩
theorem kids {i k : Nat} (h0 : 0 < k) (h : (k - 1) / 2 = i) : k = 2 * i + 1 ∨ k = 2 * i + 2 := by omega
set_option maxRecDepth 100000 in
theorem heap_down {B : Base} {w : World} {p : Nat} {s : Pile} (hS : St B (pileR p s) w) (hok : POk s) (i n : Nat) (hn : n ≤ s.l.length) (hi : i ≤ n) (hd : DownInv (ltB s.f) (at_ s.l) n i i) :
    CallsIn Fence.wide 0 Try.prog 69 #[pileI p, .int .i64 (i : Int), .int .i64 (n : Int)] w
      (Ret B (fun q : Pile × Nat => POk q.1 ∧ q.1.l.Perm s.l ∧ Same s.f q.1.f ∧ (∀ k, n ≤ k → at_ q.1.l k = at_ s.l k) ∧ i ≤ q.2 ∧ (i < q.2 ∨ q.2 = 0 → HeapN (ltB s.f) (at_ q.1.l) n) ∧ UpInv (ltB s.f) (at_ q.1.l) n q.2)
        (fun q => .bool (decide ((i : Int) < q.2))) (fun q => pileR p q.1)) := by
  have hm := hok.sm
  (refine enter Try.func69 rfl rfl hS ?_; simp only [List.zipIdx_cons, List.zipIdx_nil, List.map_cons, List.map_nil, Nat.reduceAdd, Nat.zero_add])
  refine wSeq ?_
  refine wRegion' ?_
  refine oAssign rfl ?_
  refine oNil ?_
  refine thn_n ?_
  refine wSeq ?_
  refine wRegion' ?_
  refine oMove rfl ?_
  refine oAssign rfl ?_
  refine oNil ?_
  refine thn_n ?_
  refine wSeq ?_
  refine wBlock ?_
  refine wLoop (ι := Pile × Nat) (fun q => [(0, pileI p), (1, .int .i64 (i : Int)), (2, .int .i64 (n : Int)), (7, .int .i64 (q.2 : Int))]) (fun q => pileR p q.1) (fun q => POk q.1 ∧ q.1.l.Perm s.l ∧ Same s.f q.1.f ∧ (∀ k, n ≤ k → at_ q.1.l k = at_ s.l k) ∧ DownInv (ltB s.f) (at_ q.1.l) n q.2 i ∧ q.2 ≤ n) (fun q => n - q.2) (s, i) ?_ (by repeat (first | exact trivial | refine And.intro rfl ?_)) (Leads.has (by repeat' (first | exact Has.nil | exact Pick.here | apply Has.cons | apply Pick.there))) ?_
  ·
    exact ⟨hok, .refl _, Same.refl _, fun _ _ => rfl, hd, hi⟩
  ·
    rintro ⟨s1, i1⟩ ⟨hok1, hpm, hsm, hout, hd1, hi1⟩
    dsimp only at hok1 hpm hsm hout hd1 hi1
    have hl1 := hpm.length_eq
    dsimp only
    refine wBlock ?_
    refine wSeq ?_
    refine wRegion' ?_
    refine oMove rfl ?_
    first | refine oMul rfl rfl (by omega) ?_ | refine oMulW rfl rfl ?_
    first | refine oAdd rfl rfl (by omega) ?_ | refine oAddW rfl rfl ?_
    refine oSet (t := 14) (v' := .int .i64 ((2 * i1 + 1 : Nat) : Int)) rfl (by simp) ?_
    refine oAssign rfl ?_
    refine oNil ?_
    refine thn_n ?_
    refine wSeq ?_
    refine wSeq ?_
    refine wRegion' ?_
    refine oMove rfl ?_
    refine oMove rfl ?_
    refine oGeq rfl rfl ?_
    refine oMove rfl ?_
    first | refine oSplit (t := 18) rfl (fun h18 => ?_) (fun h18 => ?_) | refine oSplitB (t := 18) rfl (fun h18 => ?_) (fun h18 => ?_)
    ·
      refine oSkip rfl rfl rfl rfl ?_
      refine oSkip rfl rfl rfl rfl ?_
      refine oPickT rfl rfl ?_
      refine oNil ?_
      refine thn_n ?_
      refine wCondT rfl ?_
      refine wExit ?_
      refine thn_x ?_
      refine blk_y rfl ?_
      refine thn_x ?_
      refine blk_x ?_
      refine thn_n ?_
      refine wSeq ?_
      refine wRegion' ?_
      refine oMove rfl ?_
      refine oMove rfl ?_
      refine oGtr rfl rfl ?_
      refine oAssign rfl ?_
      refine oNil ?_
      refine thn_n ?_
      refine wRet ?_
      refine fin_r ?_
      refine ⟨rfl, _, (ResL.cons (ResR.tmp rfl) ResL.nil), ?_⟩
      exact ⟨(s1, i1), ⟨hok1, hpm, hsm, hout, hd1.2.2.2, down_end hd1 (fun k k0 kn kp => by omega)⟩, rfl, (Leads.has (by repeat' (first | exact Has.nil | exact Pick.here | apply Has.cons | apply Pick.there)))⟩
    ·
      refine oWant rfl rfl ?_
      refine oMove rfl ?_
      refine oWant rfl rfl ?_
      refine oLss rfl rfl ?_
      refine oPickF rfl rfl ?_
      refine oNil ?_
      refine thn_n ?_
      first | refine wCond rfl (fun h21 => ?_) (fun h21 => ?_) | refine wCondB rfl (fun h21 => ?_) (fun h21 => ?_)
      ·
        omega
      ·
        refine wSkip ?_
        refine thn_n ?_
        refine wSeq ?_
        refine wRegion' ?_
        refine oMove rfl ?_
        refine oAssign rfl ?_
        refine oNil ?_
        refine thn_n ?_
        refine wSeq ?_
        refine wSeq ?_
        refine wRegion' ?_
        refine oMove rfl ?_
        first | refine oAdd rfl rfl (by omega) ?_ | refine oAddW rfl rfl ?_
        refine oSet (t := 24) (v' := .int .i64 ((2 * i1 + 2 : Nat) : Int)) rfl (by simp; try omega) ?_
        refine oAssign rfl ?_
        refine oNil ?_
        refine thn_n ?_
        refine wSeq ?_
        refine wRegion' ?_
        refine oMove rfl ?_
        refine oMove rfl ?_
        refine oLss rfl rfl ?_
        refine oMove rfl ?_
        first | refine oSplit (t := 28) rfl (fun h28 => ?_) (fun h28 => ?_) | refine oSplitB (t := 28) rfl (fun h28 => ?_) (fun h28 => ?_)
        ·
          refine oWant rfl rfl ?_
          refine oMove rfl ?_
          refine oWant rfl rfl ?_
          refine oMove rfl ?_
          refine oWant rfl rfl ?_
          refine oMove rfl ?_
          refine oWant rfl rfl ?_
          (refine oInvoke rfl rfl (fun _ => by kernel_rfl) (g := 119) (by kernel_rfl) (fun w hS => frame hS (by repeat' (first | exact Split.nil | exact Pick.here | apply Split.cons | apply Pick.there)) (fun B' hB hS' => pile_Less hS' _ _ (at_ s1.l _) (at_ s1.l _) (get_at (by omega)) (get_at (by omega)))) ?_; rintro ⟨⟩ -)
          refine oPickT rfl rfl ?_
          refine oNil ?_
          refine thn_n ?_
          first | refine wCond rfl (fun h33 => ?_) (fun h33 => ?_) | refine wCondB rfl (fun h33 => ?_) (fun h33 => ?_)
          ·
            have hs : ∀ k, 0 < k → k < n → (k - 1) / 2 = i1 → ¬ ltB s.f (at_ s1.l k) (at_ s1.l (2 * i1 + 2)) := fun k k0 kn kp => by
              rw [← hsm.lt]
              rcases kids k0 kp with rfl | rfl
              · exact lt_asy _ _ _ h33
              · exact lt_ir _ _
            refine wRegion' ?_
            refine oMove rfl ?_
            refine oAssign rfl ?_
            refine oNil ?_
            refine thn_n ?_
            refine wSeq ?_
            refine wSeq ?_
            refine wRegion' ?_
            refine oMove rfl ?_
            refine oMove rfl ?_
            refine oMove rfl ?_
            (refine oInvoke rfl rfl (fun _ => by kernel_rfl) (g := 119) (by kernel_rfl) (fun w hS => frame hS (by repeat' (first | exact Split.nil | exact Pick.here | apply Split.cons | apply Pick.there)) (fun B' hB hS' => pile_Less hS' _ i1 (at_ s1.l _) (at_ s1.l i1) (get_at (by omega)) (get_at (by omega)))) ?_; rintro ⟨⟩ -)
            first | refine oNot rfl ?_ | refine oNotB rfl ?_
            refine oNil ?_
            refine thn_n ?_
            first | refine wCond rfl (fun h39 => ?_) (fun h39 => ?_) | refine wCondB rfl (fun h39 => ?_) (fun h39 => ?_)
            ·
              refine wExit ?_
              refine thn_x ?_
              refine blk_y rfl ?_
              refine thn_x ?_
              refine blk_x ?_
              refine thn_n ?_
              refine wSeq ?_
              refine wRegion' ?_
              refine oMove rfl ?_
              refine oMove rfl ?_
              refine oGtr rfl rfl ?_
              refine oAssign rfl ?_
              refine oNil ?_
              refine thn_n ?_
              refine wRet ?_
              refine fin_r ?_
              refine ⟨rfl, _, (ResL.cons (ResR.tmp rfl) ResL.nil), ?_⟩
              exact ⟨(s1, i1), ⟨hok1, hpm, hsm, hout, hd1.2.2.2, down_end hd1 (fun k k0 kn kp => lt_tr _ _ _ _ (by rw [← hsm.lt]; exact h39) (hs k k0 kn kp))⟩, rfl, (Leads.has (by repeat' (first | exact Has.nil | exact Pick.here | apply Has.cons | apply Pick.there)))⟩
            ·
              refine wSkip ?_
              refine thn_n ?_
              refine wSeq ?_
              refine wRegion' ?_
              refine oMove rfl ?_
              refine oMove rfl ?_
              refine oMove rfl ?_
              (refine oInvoke rfl rfl (fun _ => by kernel_rfl) (g := 122) (by kernel_rfl) (fun w hS => frame hS (by repeat' (first | exact Split.nil | exact Pick.here | apply Split.cons | apply Pick.there)) (fun B' hB hS' => pile_Swap hS' hok1 i1 _ (by omega) (by omega))) ?_; rintro s2 ⟨hok2, hl2, hsm2⟩)
              refine oNil ?_
              refine thn_n ?_
              refine wRegion' ?_
              refine oMove rfl ?_
              refine oAssign rfl ?_
              refine oNil ?_
              refine blk_n ?_
              refine thn_n ?_
              exact ⟨rfl, (s2, _), ⟨hok2, by rw [hl2]; exact (swp_perm (by omega) (by omega)).trans hpm, hsm.trans hsm2, fun k hk => by rw [hl2, swp_at (by omega) (by omega), sw, if_neg (by omega), if_neg (by omega)]; exact hout k hk, by rw [hl2, swp_fun (by omega) (by omega)]; exact down_step (lt_asy _) hd1 (by omega) (by omega) (by omega) hs (by rw [← hsm.lt]; exact Classical.not_not.1 h39), by show _ ≤ n; omega⟩, by show n - _ < n - i1; omega, (by repeat (first | exact trivial | refine And.intro rfl ?_)), (Leads.has (by repeat' (first | exact Has.nil | exact Pick.here | apply Has.cons | apply Pick.there)))⟩
          ·
            have hs : ∀ k, 0 < k → k < n → (k - 1) / 2 = i1 → ¬ ltB s.f (at_ s1.l k) (at_ s1.l (2 * i1 + 1)) := fun k k0 kn kp => by
              rw [← hsm.lt]
              rcases kids k0 kp with rfl | rfl
              · exact lt_ir _ _
              · exact h33
            refine wSkip ?_
            refine thn_n ?_
            refine wSeq ?_
            refine wSeq ?_
            refine wRegion' ?_
            refine oMove rfl ?_
            refine oMove rfl ?_
            refine oMove rfl ?_
            (refine oInvoke rfl rfl (fun _ => by kernel_rfl) (g := 119) (by kernel_rfl) (fun w hS => frame hS (by repeat' (first | exact Split.nil | exact Pick.here | apply Split.cons | apply Pick.there)) (fun B' hB hS' => pile_Less hS' _ i1 (at_ s1.l _) (at_ s1.l i1) (get_at (by omega)) (get_at (by omega)))) ?_; rintro ⟨⟩ -)
            first | refine oNot rfl ?_ | refine oNotB rfl ?_
            refine oNil ?_
            refine thn_n ?_
            first | refine wCond rfl (fun h39 => ?_) (fun h39 => ?_) | refine wCondB rfl (fun h39 => ?_) (fun h39 => ?_)
            ·
              refine wExit ?_
              refine thn_x ?_
              refine blk_y rfl ?_
              refine thn_x ?_
              refine blk_x ?_
              refine thn_n ?_
              refine wSeq ?_
              refine wRegion' ?_
              refine oMove rfl ?_
              refine oMove rfl ?_
              refine oGtr rfl rfl ?_
              refine oAssign rfl ?_
              refine oNil ?_
              refine thn_n ?_
              refine wRet ?_
              refine fin_r ?_
              refine ⟨rfl, _, (ResL.cons (ResR.tmp rfl) ResL.nil), ?_⟩
              exact ⟨(s1, i1), ⟨hok1, hpm, hsm, hout, hd1.2.2.2, down_end hd1 (fun k k0 kn kp => lt_tr _ _ _ _ (by rw [← hsm.lt]; exact h39) (hs k k0 kn kp))⟩, rfl, (Leads.has (by repeat' (first | exact Has.nil | exact Pick.here | apply Has.cons | apply Pick.there)))⟩
            ·
              refine wSkip ?_
              refine thn_n ?_
              refine wSeq ?_
              refine wRegion' ?_
              refine oMove rfl ?_
              refine oMove rfl ?_
              refine oMove rfl ?_
              (refine oInvoke rfl rfl (fun _ => by kernel_rfl) (g := 122) (by kernel_rfl) (fun w hS => frame hS (by repeat' (first | exact Split.nil | exact Pick.here | apply Split.cons | apply Pick.there)) (fun B' hB hS' => pile_Swap hS' hok1 i1 _ (by omega) (by omega))) ?_; rintro s2 ⟨hok2, hl2, hsm2⟩)
              refine oNil ?_
              refine thn_n ?_
              refine wRegion' ?_
              refine oMove rfl ?_
              refine oAssign rfl ?_
              refine oNil ?_
              refine blk_n ?_
              refine thn_n ?_
              exact ⟨rfl, (s2, _), ⟨hok2, by rw [hl2]; exact (swp_perm (by omega) (by omega)).trans hpm, hsm.trans hsm2, fun k hk => by rw [hl2, swp_at (by omega) (by omega), sw, if_neg (by omega), if_neg (by omega)]; exact hout k hk, by rw [hl2, swp_fun (by omega) (by omega)]; exact down_step (lt_asy _) hd1 (by omega) (by omega) (by omega) hs (by rw [← hsm.lt]; exact Classical.not_not.1 h39), by show _ ≤ n; omega⟩, by show n - _ < n - i1; omega, (by repeat (first | exact trivial | refine And.intro rfl ?_)), (Leads.has (by repeat' (first | exact Has.nil | exact Pick.here | apply Has.cons | apply Pick.there)))⟩
        ·
          have hs : ∀ k, 0 < k → k < n → (k - 1) / 2 = i1 → ¬ ltB s.f (at_ s1.l k) (at_ s1.l (2 * i1 + 1)) := fun k k0 kn kp => by
            rcases kids k0 kp with rfl | rfl
            · exact lt_ir _ _
            · omega
          refine oSkip rfl rfl rfl rfl ?_
          refine oSkip rfl rfl rfl rfl ?_
          refine oSkip rfl rfl rfl rfl ?_
          refine oSkip rfl rfl rfl rfl ?_
          refine oPickF rfl rfl ?_
          refine oNil ?_
          refine thn_n ?_
          refine wCondF rfl ?_
          refine wSkip ?_
          refine thn_n ?_
          refine wSeq ?_
          refine wSeq ?_
          refine wRegion' ?_
          refine oMove rfl ?_
          refine oMove rfl ?_
          refine oMove rfl ?_
          (refine oInvoke rfl rfl (fun _ => by kernel_rfl) (g := 119) (by kernel_rfl) (fun w hS => frame hS (by repeat' (first | exact Split.nil | exact Pick.here | apply Split.cons | apply Pick.there)) (fun B' hB hS' => pile_Less hS' _ i1 (at_ s1.l _) (at_ s1.l i1) (get_at (by omega)) (get_at (by omega)))) ?_; rintro ⟨⟩ -)
          first | refine oNot rfl ?_ | refine oNotB rfl ?_
          refine oNil ?_
          refine thn_n ?_
          first | refine wCond rfl (fun h39 => ?_) (fun h39 => ?_) | refine wCondB rfl (fun h39 => ?_) (fun h39 => ?_)
          ·
            refine wExit ?_
            refine thn_x ?_
            refine blk_y rfl ?_
            refine thn_x ?_
            refine blk_x ?_
            refine thn_n ?_
            refine wSeq ?_
            refine wRegion' ?_
            refine oMove rfl ?_
            refine oMove rfl ?_
            refine oGtr rfl rfl ?_
            refine oAssign rfl ?_
            refine oNil ?_
            refine thn_n ?_
            refine wRet ?_
            refine fin_r ?_
            refine ⟨rfl, _, (ResL.cons (ResR.tmp rfl) ResL.nil), ?_⟩
            exact ⟨(s1, i1), ⟨hok1, hpm, hsm, hout, hd1.2.2.2, down_end hd1 (fun k k0 kn kp => lt_tr _ _ _ _ (by rw [← hsm.lt]; exact h39) (hs k k0 kn kp))⟩, rfl, (Leads.has (by repeat' (first | exact Has.nil | exact Pick.here | apply Has.cons | apply Pick.there)))⟩
          ·
            refine wSkip ?_
            refine thn_n ?_
            refine wSeq ?_
            refine wRegion' ?_
            refine oMove rfl ?_
            refine oMove rfl ?_
            refine oMove rfl ?_
            (refine oInvoke rfl rfl (fun _ => by kernel_rfl) (g := 122) (by kernel_rfl) (fun w hS => frame hS (by repeat' (first | exact Split.nil | exact Pick.here | apply Split.cons | apply Pick.there)) (fun B' hB hS' => pile_Swap hS' hok1 i1 _ (by omega) (by omega))) ?_; rintro s2 ⟨hok2, hl2, hsm2⟩)
            refine oNil ?_
            refine thn_n ?_
            refine wRegion' ?_
            refine oMove rfl ?_
            refine oAssign rfl ?_
            refine oNil ?_
            refine blk_n ?_
            refine thn_n ?_
            exact ⟨rfl, (s2, _), ⟨hok2, by rw [hl2]; exact (swp_perm (by omega) (by omega)).trans hpm, hsm.trans hsm2, fun k hk => by rw [hl2, swp_at (by omega) (by omega), sw, if_neg (by omega), if_neg (by omega)]; exact hout k hk, by rw [hl2, swp_fun (by omega) (by omega)]; exact down_step (lt_asy _) hd1 (by omega) (by omega) (by omega) hs (by rw [← hsm.lt]; exact Classical.not_not.1 h39), by show _ ≤ n; omega⟩, by show n - _ < n - i1; omega, (by repeat (first | exact trivial | refine And.intro rfl ?_)), (Leads.has (by repeat' (first | exact Has.nil | exact Pick.here | apply Has.cons | apply Pick.there)))⟩
end Go.Proofs.YtnidmlngkpkmlaaQ
