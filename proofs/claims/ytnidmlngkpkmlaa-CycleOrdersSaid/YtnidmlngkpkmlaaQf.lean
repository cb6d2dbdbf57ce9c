/-
  container/heap over a pile: Push, Pop, Remove.
-/
import Derived.Test.YtnidmlngkpkmlaaQe
namespace Go.Proofs.YtnidmlngkpkmlaaQ
set_option linter.unusedVariables false
set_option linter.unusedSimpArgs false
open Go.RowKit Go.Proofs.YtnidmlngkpkmlaaK

/-- What a pile holds: ids and keys. -/
def vw (s : Pile) : List (Int × Int) := s.l.map fun b => ((s.f b).id, (s.f b).key)
theorem vw_perm {s t : Pile} (h : t.l.Perm s.l) (hf : Same s.f t.f) : (vw t).Perm (vw s) := by
  unfold vw
  have : t.l.map (fun b => ((t.f b).id, (t.f b).key)) = t.l.map (fun b => ((s.f b).id, (s.f b).key)) := List.map_congr_left (fun b _ => by rw [(hf b).1, (hf b).2])
  rw [this]; exact h.map _
def Heap (s : Pile) : Prop := HeapN (ltB s.f) (at_ s.l) s.l.length
theorem at_app {l : List Nat} {k b : Nat} : at_ (l ++ [b]) k = if k < l.length then at_ l k else if k = l.length then b else 0 := by
  unfold at_
  simp only [List.getD_eq_getElem?_getD, List.getElem?_append]
  by_cases h : k < l.length
  · simp [h]
  · by_cases e : k = l.length
    · simp [h, e]
    · simp [h, e, show k - l.length ≠ 0 by omega]
theorem at_mem {l : List Nat} {k : Nat} (h : k < l.length) : at_ l k ∈ l := List.mem_of_getElem? (get_at h)
theorem push_up {s s' : Pile} {nb : Nat} {x : It} (h : Heap s) (hl : s'.l = s.l ++ [nb]) (hf : s'.f = pushF s.f nb x) (hok : POk s') : UpInv (ltB s'.f) (at_ s'.l) s'.l.length s.l.length := by
  have hnb : nb ∉ s.l := by
    have := hok.nd
    rw [hl] at this
    intro hm
    exact (List.nodup_append.1 this).2.2 nb hm nb (by simp) rfl
  have hlen : s'.l.length = s.l.length + 1 := by rw [hl]; simp
  have key : ∀ k, k < s.l.length → at_ s'.l k = at_ s.l k ∧ s'.f (at_ s.l k) = s.f (at_ s.l k) := fun k hk => ⟨by rw [hl, at_app, if_pos hk], by
    rw [hf]; unfold pushF
    rw [if_neg (by rintro e; exact hnb (e ▸ at_mem hk))]⟩
  refine ⟨fun k k0 kn kj => ?_, fun k k0 kn kp _ => by omega⟩
  have h1 := h k k0 (by omega)
  unfold ltB at h1 ⊢
  rw [(key k (by omega)).1, (key ((k - 1) / 2) (by omega)).1, (key k (by omega)).2, (key ((k - 1) / 2) (by omega)).2]
  exact h1
theorem push_vw {s s' : Pile} {nb : Nat} {x : It} (hl : s'.l = s.l ++ [nb]) (hf : s'.f = pushF s.f nb x) (hok : POk s') : vw s' = vw s ++ [(x.id, x.key)] := by
  have hnb : nb ∉ s.l := by
    have := hok.nd
    rw [hl] at this
    intro hm
    exact (List.nodup_append.1 this).2.2 nb hm nb (by simp) rfl
  unfold vw
  rw [hl, hf, List.map_append]
  congr 1
  · exact List.map_congr_left (fun b hb => by unfold pushF; rw [if_neg (by rintro rfl; exact hnb hb)])
  · simp [pushF]

set_option maxRecDepth 100000 in
theorem heap_Push {B : Base} {w : World} {p nb : Nat} {s : Pile} {x : It} (hS : St B (pileR p s ++ [blk nb 98 (itCells x)]) w) (hok : POk s) (hh : Heap s) (hid : s.m x.id = none) (hl : s.l.length < 1000000) :
    CallsIn Fence.wide 0 Try.prog 52 #[pileI p, .iface 95 (ptrV nb)] w (Ret B (fun s' => POk s' ∧ (vw s').Perm (vw s ++ [(x.id, x.key)]) ∧ Heap s') (fun _ => .tuple #[]) (fun s' => pileR p s')) := by
  (refine enter Try.func52 rfl rfl hS ?_; simp only [List.zipIdx_cons, List.zipIdx_nil, List.map_cons, List.map_nil, Nat.reduceAdd, Nat.zero_add])
  refine wSeq ?_
  refine wRegion' ?_
  refine oMove rfl ?_
  refine oMove rfl ?_
  (refine oInvoke rfl rfl (fun _ => by kernel_rfl) (g := 121) (by kernel_rfl) (fun w hS => frame hS (by repeat' (first | exact Split.nil | exact Pick.here | apply Split.cons | apply Pick.there)) (fun B' hB hS' => pile_Push hS' hok hid hl)) ?_; rintro s1 ⟨hok1, hl1, hf1⟩)
  have hv1 := push_vw hl1 hf1 hok1
  have hu1 := push_up hh hl1 hf1 hok1
  have hn1 : s1.l.length = s.l.length + 1 := by rw [hl1]; simp
  have hm1 := hok1.sm
  refine oNil ?_
  refine thn_n ?_
  refine wRegion' ?_
  refine oMove rfl ?_
  refine oMove rfl ?_
  (refine oInvoke rfl rfl (fun _ => by kernel_rfl) (g := 54) (by kernel_rfl) (fun w hS => frame hS (by repeat' (first | exact Split.nil | exact Pick.here | apply Split.cons | apply Pick.there)) (fun B' hB hS' => pile_Len hS')) ?_; rintro ⟨⟩ -)
  first | refine oSub rfl rfl (by omega) ?_ | refine oSubW rfl rfl ?_
  refine oSet (t := 10) (v' := .int .i64 ((s.l.length : Nat) : Int)) rfl (by rw [hn1]; simp) ?_
  (refine oCall rfl (by kernel_rfl) (fun w hS => frame hS (by repeat' (first | exact Split.nil | exact Pick.here | apply Split.cons | apply Pick.there)) (fun B' hB hS' => heap_up hS' hok1 _ (Nat.le_refl _) s.l.length (by omega) hu1)) ?_; rintro s2 ⟨hok2, hp2, hs2, _, hh2⟩)
  refine oNil ?_
  refine fin_n ?_
  refine ⟨rfl, _, ResL.nil, ?_⟩
  exact ⟨s2, ⟨hok2, hv1 ▸ vw_perm hp2 hs2, by unfold Heap; rw [hs2.lt, hp2.length_eq]; exact hh2⟩, rfl, (Leads.has (by repeat' (first | exact Has.nil | exact Pick.here | apply Has.cons | apply Pick.there)))⟩

theorem pop_vw {s s' : Pile} (hl : s.l ≠ []) (hl' : s'.l = s.l.take (s.l.length - 1)) (hf : s'.f = s.f) : vw s = vw s' ++ [((s.f (at_ s.l (s.l.length - 1))).id, (s.f (at_ s.l (s.l.length - 1))).key)] := by
  have h0 := List.length_pos_iff.2 hl
  have : s.l = s.l.take (s.l.length - 1) ++ [at_ s.l (s.l.length - 1)] := by
    have h1 := List.take_append_drop (s.l.length - 1) s.l
    have h2 : s.l.drop (s.l.length - 1) = [at_ s.l (s.l.length - 1)] := by
      rw [List.drop_eq_getElem_cons (by omega), List.drop_of_length_le (by omega)]
      have := last_of hl
      rw [List.getElem?_eq_getElem (by omega)] at this
      rw [Option.some.inj this]
    rw [h2] at h1; exact h1.symm
  unfold vw
  rw [hl', hf]
  conv => lhs; rw [this]
  rw [List.map_append]; rfl
theorem pop_heap {s s' : Pile} {g : Nat → It} (hs : Same g s.f) (hl' : s'.l = s.l.take (s.l.length - 1)) (hf : s'.f = s.f) (h : HeapN (ltB g) (at_ s.l) (s.l.length - 1)) : Heap s' := by
  unfold Heap
  rw [hf, hs.lt, hl', List.length_take, Nat.min_eq_left (by omega)]
  exact heap_congr h (fun k hk => by unfold at_; rw [List.getD_eq_getElem?_getD, List.getElem?_take, if_pos hk, List.getD_eq_getElem?_getD])

set_option maxRecDepth 100000 in
theorem heap_Pop {B : Base} {w : World} {p : Nat} {s : Pile} (hS : St B (pileR p s) w) (hok : POk s) (hh : Heap s) (hl : s.l ≠ []) :
    CallsIn Fence.wide 0 Try.prog 53 #[pileI p] w (Ret B (fun q : Pile × Nat × It => POk q.1 ∧ Heap q.1 ∧ (vw s).Perm ((q.2.2.id, q.2.2.key) :: vw q.1) ∧ (∀ k, k < s.l.length → ¬ ltI (s.f (at_ s.l k)) q.2.2))
      (fun q => .iface 95 (ptrV q.2.1)) (fun q => blk q.2.1 98 (itCells q.2.2) :: pileR p q.1)) := by
  have hm := hok.sm
  have h0 := List.length_pos_iff.2 hl
  (refine enter Try.func53 rfl rfl hS ?_; simp only [List.zipIdx_cons, List.zipIdx_nil, List.map_cons, List.map_nil, Nat.reduceAdd, Nat.zero_add])
  refine wSeq ?_
  refine wRegion' ?_
  refine oAssign rfl ?_
  refine oNil ?_
  refine thn_n ?_
  refine wSeq ?_
  refine wRegion' ?_
  refine oMove rfl ?_
  (refine oInvoke rfl rfl (fun _ => by kernel_rfl) (g := 54) (by kernel_rfl) (fun w hS => frame hS (by repeat' (first | exact Split.nil | exact Pick.here | apply Split.cons | apply Pick.there)) (fun B' hB hS' => pile_Len hS')) ?_; rintro ⟨⟩ -)
  first | refine oSub rfl rfl (by omega) ?_ | refine oSubW rfl rfl ?_
  refine oSet (t := 6) (v' := .int .i64 ((s.l.length - 1 : Nat) : Int)) rfl (by congr 1; omega) ?_
  refine oAssign rfl ?_
  refine oNil ?_
  refine thn_n ?_
  refine wSeq ?_
  refine wRegion' ?_
  refine oMove rfl ?_
  refine oMove rfl ?_
  (refine oInvoke rfl rfl (fun _ => by kernel_rfl) (g := 122) (by kernel_rfl) (fun w hS => frame hS (by repeat' (first | exact Split.nil | exact Pick.here | apply Split.cons | apply Pick.there)) (fun B' hB hS' => pile_Swap hS' hok 0 (s.l.length - 1) h0 (by omega))) ?_; rintro s1 ⟨hok1, hl1, hs1⟩)
  have hn1 : s1.l.length = s.l.length := by rw [hl1, swp_length]
  have hd1 : DownInv (ltB s1.f) (at_ s1.l) (s.l.length - 1) 0 0 := by
    rw [hs1.lt]
    refine heap_at (lt_tr _) hh (by omega) h0 (fun k kn k0 => ?_)
    rw [hl1, swp_at h0 (by omega), sw, if_neg k0, if_neg (by omega)]
  refine oNil ?_
  refine thn_n ?_
  refine wSeq ?_
  refine wRegion' ?_
  refine oMove rfl ?_
  refine oMove rfl ?_
  (refine oCall rfl (by kernel_rfl) (fun w hS => frame hS (by repeat' (first | exact Split.nil | exact Pick.here | apply Split.cons | apply Pick.there)) (fun B' hB hS' => heap_down hS' hok1 0 (s.l.length - 1) (by omega) (by omega) hd1)) ?_; rintro ⟨s2, i2⟩ ⟨hok2, hp2, hs2, ho2, _, hh2, _⟩)
  dsimp only at hok2 hp2 hs2 ho2 hh2
  have hn2 : s2.l.length = s.l.length := by rw [hp2.length_eq, hn1]
  have hne2 : s2.l ≠ [] := by intro e; rw [e] at hn2; simp at hn2; omega
  have hx2 : at_ s2.l (s2.l.length - 1) = at_ s.l 0 := by
    rw [hn2, ho2 _ (Nat.le_refl _), hl1, swp_at h0 (by omega), sw]
    by_cases e : s.l.length - 1 = 0
    · rw [if_pos e, e]
    · rw [if_neg e, if_pos rfl]
  refine oNil ?_
  refine thn_n ?_
  refine wSeq ?_
  refine wRegion' ?_
  refine oMove rfl ?_
  (refine oInvoke rfl rfl (fun _ => by kernel_rfl) (g := 120) (by kernel_rfl) (fun w hS => frame hS (by repeat' (first | exact Split.nil | exact Pick.here | apply Split.cons | apply Pick.there)) (fun B' hB hS' => pile_Pop hS' hok2 hne2)) ?_; rintro s3 ⟨hok3, hl3, hf3⟩)
  refine oAssign rfl ?_
  refine oNil ?_
  refine thn_n ?_
  refine wRet ?_
  refine fin_r ?_
  refine ⟨rfl, _, (ResL.cons (ResR.tmp rfl) ResL.nil), ?_⟩
  refine ⟨(s3, _, s2.f (at_ s2.l (s2.l.length - 1))), ⟨hok3, pop_heap (hs2) hl3 hf3 (by rw [hn2]; exact hh2 (by omega)), ?_, fun k hk => ?_⟩, rfl, (Leads.has (by repeat' (first | exact Has.nil | exact Pick.here | apply Has.cons | apply Pick.there)))⟩
  · have e1 := pop_vw hne2 hl3 hf3
    have e2 := vw_perm hp2 hs2
    have e3 : (vw s1).Perm (vw s) := vw_perm (hl1 ▸ swp_perm h0 (by omega)) hs1
    exact (e3.symm.trans (e2.symm.trans (e1 ▸ List.perm_append_singleton _ _)))
  · have h4 := heap_least (lt_tr _) (lt_ir _) hh k hk
    unfold ltB at h4
    rw [hx2]
    have e5 := (hs1.trans hs2) (at_ s.l 0)
    unfold ltI at h4 ⊢
    rw [e5.1, e5.2]; exact h4

set_option maxRecDepth 100000 in
theorem heap_Remove {B : Base} {w : World} {p : Nat} {s : Pile} (hS : St B (pileR p s) w) (hok : POk s) (hh : Heap s) (i : Nat) (hi : i < s.l.length) :
    CallsIn Fence.wide 0 Try.prog 55 #[pileI p, .int .i64 (i : Int)] w (Ret B (fun q : Pile × Nat × It => POk q.1 ∧ Heap q.1 ∧ (vw s).Perm ((q.2.2.id, q.2.2.key) :: vw q.1) ∧ q.2.2.id = (s.f (at_ s.l i)).id)
      (fun q => .iface 95 (ptrV q.2.1)) (fun q => blk q.2.1 98 (itCells q.2.2) :: pileR p q.1)) := by
  have hm := hok.sm
  have hne : s.l ≠ [] := by intro e; rw [e] at hi; simp at hi
  (refine enter Try.func55 rfl rfl hS ?_; simp only [List.zipIdx_cons, List.zipIdx_nil, List.map_cons, List.map_nil, Nat.reduceAdd, Nat.zero_add])
  refine wSeq ?_
  refine wRegion' ?_
  refine oAssign rfl ?_
  refine oNil ?_
  refine thn_n ?_
  refine wSeq ?_
  refine wRegion' ?_
  refine oMove rfl ?_
  (refine oInvoke rfl rfl (fun _ => by kernel_rfl) (g := 54) (by kernel_rfl) (fun w hS => frame hS (by repeat' (first | exact Split.nil | exact Pick.here | apply Split.cons | apply Pick.there)) (fun B' hB hS' => pile_Len hS')) ?_; rintro ⟨⟩ -)
  first | refine oSub rfl rfl (by omega) ?_ | refine oSubW rfl rfl ?_
  refine oSet (t := 8) (v' := .int .i64 ((s.l.length - 1 : Nat) : Int)) rfl (by congr 1; omega) ?_
  refine oAssign rfl ?_
  refine oNil ?_
  refine thn_n ?_
  refine wSeq ?_
  refine wSeq ?_
  refine wRegion' ?_
  refine oMove rfl ?_
  refine oMove rfl ?_
  refine oNeq rfl rfl ?_
  refine oNil ?_
  refine thn_n ?_
  first | refine wCond rfl (fun h11 => ?_) (fun h11 => ?_) | refine wCondB rfl (fun h11 => ?_) (fun h11 => ?_)
  ·
    refine wSeq ?_
    refine wRegion' ?_
    refine oMove rfl ?_
    refine oMove rfl ?_
    refine oMove rfl ?_
    (refine oInvoke rfl rfl (fun _ => by kernel_rfl) (g := 122) (by kernel_rfl) (fun w hS => frame hS (by repeat' (first | exact Split.nil | exact Pick.here | apply Split.cons | apply Pick.there)) (fun B' hB hS' => pile_Swap hS' hok i (s.l.length - 1) hi (by omega))) ?_; rintro s1 ⟨hok1, hl1, hs1⟩)
    have hn1 : s1.l.length = s.l.length := by rw [hl1, swp_length]
    have hd1 : DownInv (ltB s1.f) (at_ s1.l) (s.l.length - 1) i i := by
      rw [hs1.lt]
      refine heap_at (lt_tr _) hh (by omega) hi (fun k kn k0 => ?_)
      rw [hl1, swp_at hi (by omega), sw, if_neg k0, if_neg (by omega)]
    have hx1 : at_ s1.l (s.l.length - 1) = at_ s.l i := by
      rw [hl1, swp_at hi (by omega), sw, if_neg (by omega), if_pos rfl]
    have e3 : (vw s1).Perm (vw s) := vw_perm (hl1 ▸ swp_perm hi (by omega)) hs1
    refine oNil ?_
    refine thn_n ?_
    refine wSeq ?_
    refine wRegion' ?_
    refine oMove rfl ?_
    refine oMove rfl ?_
    refine oMove rfl ?_
    (refine oCall rfl (by kernel_rfl) (fun w hS => frame hS (by repeat' (first | exact Split.nil | exact Pick.here | apply Split.cons | apply Pick.there)) (fun B' hB hS' => heap_down hS' hok1 i (s.l.length - 1) (by omega) (by omega) hd1)) ?_; rintro ⟨s2, i2⟩ ⟨hok2, hp2, hs2, ho2, hi2, hh2, hu2⟩)
    dsimp only at hok2 hp2 hs2 ho2 hh2 hi2 hu2
    have hn2 : s2.l.length = s.l.length := by rw [hp2.length_eq, hn1]
    have hne2 : s2.l ≠ [] := by intro e; rw [e] at hn2; simp at hn2; omega
    have hx2 : at_ s2.l (s2.l.length - 1) = at_ s.l i := by rw [hn2, ho2 _ (Nat.le_refl _), hx1]
    have e2 := (vw_perm hp2 hs2).trans e3
    first | refine oNot rfl ?_ | refine oNotB rfl ?_
    refine oNil ?_
    refine thn_n ?_
    first | refine wCond rfl (fun h20 => ?_) (fun h20 => ?_) | refine wCondB rfl (fun h20 => ?_) (fun h20 => ?_)
    ·
      have hu3 : UpInv (ltB s2.f) (at_ s2.l) (s.l.length - 1) i := by
        have h9 : i2 = i := by dsimp only at h20; omega
        rw [hs2.lt, ← h9]; exact hu2
      refine wRegion' ?_
      refine oMove rfl ?_
      refine oMove rfl ?_
      (refine oCall rfl (by kernel_rfl) (fun w hS => frame hS (by repeat' (first | exact Split.nil | exact Pick.here | apply Split.cons | apply Pick.there)) (fun B' hB hS' => heap_up hS' hok2 (s.l.length - 1) (by omega) i (by omega) hu3)) ?_; rintro s4 ⟨hok4, hp4, hs4, ho4, hh4⟩)
      have hn4 : s4.l.length = s.l.length := by rw [hp4.length_eq, hn2]
      have hne4 : s4.l ≠ [] := by intro e; rw [e] at hn4; simp at hn4; omega
      have hx4 : at_ s4.l (s4.l.length - 1) = at_ s.l i := by rw [hn4, ho4 _ (Nat.le_refl _), ← hn2, hx2]
      have e4 := (vw_perm hp4 hs4).trans e2
      refine oNil ?_
      refine thn_n ?_
      refine wSeq ?_
      refine wRegion' ?_
      refine oMove rfl ?_
      (refine oInvoke rfl rfl (fun _ => by kernel_rfl) (g := 120) (by kernel_rfl) (fun w hS => frame hS (by repeat' (first | exact Split.nil | exact Pick.here | apply Split.cons | apply Pick.there)) (fun B' hB hS' => pile_Pop hS' hok4 hne4)) ?_; rintro s3 ⟨hok3, hl3, hf3⟩)
      refine oAssign rfl ?_
      refine oNil ?_
      refine thn_n ?_
      refine wRet ?_
      refine fin_r ?_
      refine ⟨rfl, _, (ResL.cons (ResR.tmp rfl) ResL.nil), ?_⟩
      exact ⟨(s3, _, s4.f (at_ s4.l (s4.l.length - 1))), ⟨hok3, pop_heap hs4 hl3 hf3 (by rw [hn4]; exact hh4), e4.symm.trans (pop_vw hne4 hl3 hf3 ▸ List.perm_append_singleton _ _), by rw [hx4]; exact ((hs1.trans hs2).trans hs4 _).1⟩, rfl, (Leads.has (by repeat' (first | exact Has.nil | exact Pick.here | apply Has.cons | apply Pick.there)))⟩
    ·
      refine wSkip ?_
      refine thn_n ?_
      refine wSeq ?_
      refine wRegion' ?_
      refine oMove rfl ?_
      (refine oInvoke rfl rfl (fun _ => by kernel_rfl) (g := 120) (by kernel_rfl) (fun w hS => frame hS (by repeat' (first | exact Split.nil | exact Pick.here | apply Split.cons | apply Pick.there)) (fun B' hB hS' => pile_Pop hS' hok2 hne2)) ?_; rintro s3 ⟨hok3, hl3, hf3⟩)
      refine oAssign rfl ?_
      refine oNil ?_
      refine thn_n ?_
      refine wRet ?_
      refine fin_r ?_
      refine ⟨rfl, _, (ResL.cons (ResR.tmp rfl) ResL.nil), ?_⟩
      exact ⟨(s3, _, s2.f (at_ s2.l (s2.l.length - 1))), ⟨hok3, pop_heap hs2 hl3 hf3 (by rw [hn2, hs1.lt]; exact hs1.lt ▸ hh2 (by omega)), e2.symm.trans (pop_vw hne2 hl3 hf3 ▸ List.perm_append_singleton _ _), by rw [hx2]; exact ((hs1.trans hs2) _).1⟩, rfl, (Leads.has (by repeat' (first | exact Has.nil | exact Pick.here | apply Has.cons | apply Pick.there)))⟩
  ·
    refine wSkip ?_
    refine thn_n ?_
    refine wSeq ?_
    refine wRegion' ?_
    refine oMove rfl ?_
    (refine oInvoke rfl rfl (fun _ => by kernel_rfl) (g := 120) (by kernel_rfl) (fun w hS => frame hS (by repeat' (first | exact Split.nil | exact Pick.here | apply Split.cons | apply Pick.there)) (fun B' hB hS' => pile_Pop hS' hok hne)) ?_; rintro s3 ⟨hok3, hl3, hf3⟩)
    refine oAssign rfl ?_
    refine oNil ?_
    refine thn_n ?_
    refine wRet ?_
    refine fin_r ?_
    refine ⟨rfl, _, (ResL.cons (ResR.tmp rfl) ResL.nil), ?_⟩
    exact ⟨(s3, _, s.f (at_ s.l (s.l.length - 1))), ⟨hok3, pop_heap (Same.refl _) hl3 hf3 (heap_less hh (by omega)), pop_vw hne hl3 hf3 ▸ List.perm_append_singleton _ _, by rw [show s.l.length - 1 = i by omega]⟩, rfl, (Leads.has (by repeat' (first | exact Has.nil | exact Pick.here | apply Has.cons | apply Pick.there)))⟩
end Go.Proofs.YtnidmlngkpkmlaaQ
