import Derived.Test.YtcacohoanlljhaaGr

/-
  Orders and circles, plainly.
-/
namespace Go.Proofs.YtcacohoanlljhaaG
set_option linter.unusedVariables false
set_option linter.unusedSimpArgs false
open Go.RowKit Go.Proofs.YtcacohoanlljhaaK Go.Proofs.YtcacohoanlljhaaT Go.Proofs.YtcacohoanlljhaaL

inductive Pth (ed : Nat → Nat → Bool) : Nat → Nat → Prop
  | one {a b : Nat} : ed a b = true → Pth ed a b
  | snoc {a b c : Nat} : Pth ed a b → ed b c = true → Pth ed a c
theorem Pth.trans {ed : Nat → Nat → Bool} {a b c : Nat} (h : Pth ed a b) (k : Pth ed b c) : Pth ed a c := by
  induction k with
  | one h1 => exact .snoc h h1
  | snoc _ h2 ih => exact .snoc ih h2
theorem Pth.flip {ed ed' : Nat → Nat → Bool} (hf : ∀ a b, ed a b = true → ed' b a = true) {a b : Nat} (h : Pth ed a b) : Pth ed' b a := by
  induction h with
  | one h1 => exact .one (hf _ _ h1)
  | snoc _ h2 ih => exact (Pth.one (hf _ _ h2)).trans ih
theorem Pth.mono {ed ed' : Nat → Nat → Bool} (hf : ∀ a b, ed a b = true → ed' a b = true) {a b : Nat} (h : Pth ed a b) : Pth ed' a b := by
  induction h with
  | one h1 => exact .one (hf _ _ h1)
  | snoc _ h2 ih => exact .snoc ih (hf _ _ h2)
theorem cyc {P : Nat → Nat → Prop} (ht : ∀ a b c, P a b → P b c → P a c) : ∀ L : List Nat, L ≠ [] → (∀ a ∈ L, ∃ b ∈ L, P b a) → ∃ a ∈ L, P a a
  | [], h, _ => absurd rfl h
  | a :: L, _, h => by
    by_cases haa : P a a
    · exact ⟨a, List.mem_cons_self, haa⟩
    · obtain ⟨c, hc, hca⟩ := h a List.mem_cons_self
      have hcL : c ∈ L := by
        rcases List.mem_cons.1 hc with rfl | h1
        · exact absurd hca haa
        · exact h1
      obtain ⟨x, hx, hxx⟩ := cyc ht L (List.ne_nil_of_mem hcL) (fun y hy => by
        obtain ⟨b, hb, hby⟩ := h y (List.mem_cons_of_mem _ hy)
        rcases List.mem_cons.1 hb with rfl | hb
        · exact ⟨c, hcL, ht _ _ _ hca hby⟩
        · exact ⟨b, hb, hby⟩)
      exact ⟨x, List.mem_cons_of_mem _ hx, hxx⟩
section
variable {ed : Nat → Nat → Bool} {mem : List Bool}
theorem Run.out {left : List Bool} {out : List Nat} (h : Run ed mem out left) : (∀ c : Nat, mem[c]? = some true → left[c]? = some true ∨ c ∈ out) ∧ (∀ c ∈ out, mem[c]? = some true ∧ left[c]? = some false) ∧ out.Nodup := by
  induction h with
  | nil => exact ⟨fun c hc => .inl hc, by simp, List.nodup_nil⟩
  | @snoc out left a h hn ih =>
    obtain ⟨h1, h2, h3⟩ := ih
    have ha := nxt_left hn
    have hal := (List.getElem?_eq_some_iff.1 ha).1
    have hml := h.len.1
    refine ⟨fun c hc => ?_, fun c hc => ?_, ?_⟩
    · by_cases e : a = c
      · subst e; exact .inr (by simp)
      · rcases h1 c hc with k | k
        · left; rw [List.getElem?_set, if_neg e]; exact k
        · exact .inr (List.mem_append_left _ k)
    · rcases List.mem_append.1 hc with k | k
      · obtain ⟨k1, k2⟩ := h2 c k
        refine ⟨k1, ?_⟩
        by_cases e : a = c
        · subst e; rw [List.getElem?_set, if_pos rfl, if_pos hal]
        · rw [List.getElem?_set, if_neg e]; exact k2
      · obtain rfl := List.mem_singleton.1 k
        refine ⟨?_, by rw [List.getElem?_set, if_pos rfl, if_pos hal]⟩
        have : ∀ {l l' : List Bool} {o : List Nat}, Run ed l o l' → ∀ c : Nat, l'[c]? = some true → l[c]? = some true := by
          intro l l' o hr
          induction hr with
          | nil => exact fun c h => h
          | snoc _ _ ih =>
            intro c hc
            rw [List.getElem?_set] at hc
            split at hc
            · split at hc <;> cases hc
            · exact ih c hc
        exact this h c ha
    · rw [List.nodup_append]
      refine ⟨h3, by simp, ?_⟩
      intro x hx y hy
      obtain rfl := List.mem_singleton.1 hy
      rintro rfl
      have := (h2 x hx).2
      rw [ha] at this; cases this
theorem idx_app {l : List Nat} {a x : Nat} (h : x ∈ l) : (l ++ [a]).idxOf x = l.idxOf x := by rw [List.idxOf_append, if_pos h]
theorem idx_last {l : List Nat} {a : Nat} (h : ¬ a ∈ l) : (l ++ [a]).idxOf a = l.length := by rw [List.idxOf_append, if_neg h]; simp
/-- Edges lead on. -/
theorem Run.ahead (hmem : ∀ b a, ed b a = true → mem[b]? = some true) {left : List Bool} {out : List Nat} (h : Run ed mem out left) : ∀ a ∈ out, ∀ b, ed b a = true → b ∈ out ∧ out.idxOf b < out.idxOf a := by
  induction h with
  | nil => intro a h; cases h
  | @snoc out left a h hn ih =>
    intro x hx b hb
    rcases List.mem_append.1 hx with k | k
    · obtain ⟨h1, h2⟩ := ih x k b hb
      exact ⟨List.mem_append_left _ h1, by rw [idx_app h1, idx_app k]; exact h2⟩
    · obtain rfl := List.mem_singleton.1 k
      have hfa := fre_iff.1 (List.find?_some hn)
      obtain ⟨o1, o2, o3⟩ := h.out
      have hbo : b ∈ out := by
        rcases o1 b (hmem b x hb) with k | k
        · have := hfa.2 b k; rw [hb] at this; cases this
        · exact k
      have hxo : ¬ x ∈ out := fun h => by have := (o2 x h).2; rw [hfa.1] at this; cases this
      exact ⟨List.mem_append_left _ hbo, by rw [idx_app hbo, idx_last hxo]; exact List.idxOf_lt_length_iff.2 hbo⟩
theorem run_ex (ed : Nat → Nat → Bool) : ∀ (n : Nat) {mem left : List Bool} {out : List Nat}, Run ed mem out left → trues left ≤ n → ∃ out' left', Run ed mem out' left' ∧ nxt ed left' = none
  | 0, _, left, out, h, hn => ⟨out, left, h, nxt_trues (by omega)⟩
  | n + 1, _, left, out, h, hn => by
    cases hx : nxt ed left with
    | none => exact ⟨out, left, h, hx⟩
    | some a => exact run_ex ed n (.snoc h hx) (by have := trues_lt (nxt_left hx); omega)
/-- What the order is. -/
theorem gr_run (ed : Nat → Nat → Bool) (mem : List Bool) : ∃ left, Run ed mem (gr ed (trues mem) mem) left ∧ nxt ed left = none := by
  obtain ⟨out, left, h1, h2⟩ := run_ex ed _ (Run.nil (ed := ed) (left0 := mem)) (Nat.le_refl _)
  rw [← h1.done h2]
  exact ⟨left, h1, h2⟩
theorem Pth.mem1 (hmem : ∀ b a, ed b a = true → mem[b]? = some true ∧ mem[a]? = some true) {a b : Nat} (h : Pth ed a b) : mem[a]? = some true ∧ mem[b]? = some true := by
  induction h with
  | one h => exact hmem _ _ h
  | snoc _ h ih => exact ⟨ih.1, (hmem _ _ h).2⟩
/-- An order, just if there is no circle. -/
theorem order_iff (hmem : ∀ b a, ed b a = true → mem[b]? = some true ∧ mem[a]? = some true) : (gr ed (trues mem) mem).length = trues mem ↔ ∀ a, ¬ Pth ed a a := by
  obtain ⟨left, hr, hn⟩ := gr_run ed mem
  have hl := hr.len
  obtain ⟨o1, o2, o3⟩ := hr.out
  constructor
  · intro h a hp
    have h0 : trues left = 0 := by omega
    have hin : ∀ c : Nat, mem[c]? = some true → c ∈ gr ed (trues mem) mem := fun c hc => by
      rcases o1 c hc with k | k
      · have := trues_set k; omega
      · exact k
    have key : ∀ {x y : Nat}, Pth ed x y → (gr ed (trues mem) mem).idxOf x < (gr ed (trues mem) mem).idxOf y := by
      intro x y hxy
      induction hxy with
      | one h => exact (hr.ahead (fun b a h => (hmem b a h).1) _ (hin _ (hmem _ _ h).2) _ h).2
      | snoc _ h ih => exact Nat.lt_trans ih (hr.ahead (fun b a h => (hmem b a h).1) _ (hin _ (hmem _ _ h).2) _ h).2
    exact Nat.lt_irrefl _ (key hp)
  · intro h
    apply Classical.byContradiction
    intro hne
    have h0 : 0 < trues left := by omega
    obtain ⟨a0, ha0⟩ := trues_pos h0
    have hL : ∀ a ∈ (List.range left.length).filter (fun a => left.getD a false), ∃ b ∈ (List.range left.length).filter (fun a => left.getD a false), Pth ed b a := by
      intro a ha
      obtain ⟨h1, h2⟩ := List.mem_filter.1 ha
      have hal := getD_true h2
      have hnf : ¬ fre ed left a = true := fun hf => by
        have := List.find?_eq_none.1 hn a h1
        exact this hf
      rw [fre_iff] at hnf
      have : ∃ b : Nat, left[b]? = some true ∧ ed b a = true := by
        apply Classical.byContradiction
        intro hx
        exact hnf ⟨hal, fun b hb => by
          cases he : ed b a with
          | false => rfl
          | true => exact absurd ⟨b, hb, he⟩ hx⟩
      obtain ⟨b, hb, he⟩ := this
      exact ⟨b, List.mem_filter.2 ⟨List.mem_range.2 (List.getElem?_eq_some_iff.1 hb).1, by rw [getD_at hb]⟩, .one he⟩
    obtain ⟨x, _, hx⟩ := cyc (P := Pth ed) (fun _ _ _ => Pth.trans) ((List.range left.length).filter (fun a => left.getD a false)) (List.ne_nil_of_mem (List.mem_filter.2 ⟨List.mem_range.2 (List.getElem?_eq_some_iff.1 ha0).1, by rw [getD_at ha0]⟩)) hL
    exact h x hx
end
/-! ### of graphs -/
def edE (g : Graph) (ib : List Bool) (b a : Nat) : Bool := decide ((a : Int) ∈ endsOf (withinR g ib) b)
theorem edE_iff {g : Graph} {ib : List Bool} {b a : Nat} : edE g ib b a = true ↔ b < g.length ∧ a < g.length ∧ (a : Int) ∈ g.getD b [] ∧ memF g ib (b : Int) = true ∧ memF g ib (a : Int) = true := by
  unfold edE endsOf
  rw [decide_eq_true_eq, List.mem_filter, inG_iff, withinR_len]
  by_cases hb : b < g.length
  · rw [withinR_getD hb, List.mem_filter]
    unfold inP
    rw [Bool.and_eq_true]
    constructor
    · rintro ⟨⟨h1, h2, h3⟩, h4, h5⟩; exact ⟨hb, by omega, h1, h2, h3⟩
    · rintro ⟨_, h1, h2, h3, h4⟩; exact ⟨⟨h2, h3, h4⟩, by omega, by omega⟩
  · rw [List.getD_eq_getElem?_getD, List.getElem?_eq_none (by rw [withinR_len]; omega)]
    simp [hb]
theorem memL_mem {g : Graph} {ib : List Bool} {a : Nat} (h : memF g ib (a : Int) = true) : (memL g ib)[a]? = some true := by
  obtain ⟨c, hc, hm⟩ := memF_getD h
  obtain rfl : a = c := by omega
  exact getD_true hm
theorem edE_mem {g : Graph} {ib : List Bool} (b a : Nat) (h : edE g ib b a = true) : (memL g ib)[b]? = some true ∧ (memL g ib)[a]? = some true := by
  obtain ⟨_, _, _, h1, h2⟩ := edE_iff.1 h
  exact ⟨memL_mem h1, memL_mem h2⟩
theorem seq_edE (g : Graph) (ib : List Bool) : seqN g ib = gr (edE g ib) (trues (memL g ib)) (memL g ib) := gr_congr (n := g.length) (fun b a hb ha => by
  unfold edR edE
  rw [edge_ends (by rw [withinR_len]; exact hb) (by rw [withinR_len]; exact ha)]) _ _ (memL_len g ib)
theorem ok_iff (g : Graph) (ib : List Bool) : okO g ib = true ↔ ∀ a, ¬ Pth (edE g ib) a a := by
  unfold okO
  rw [decide_eq_true_eq, seq_edE]
  exact order_iff edE_mem
theorem rp_pth {g : Graph} {ib : List Bool} {a : Nat} {x : Int} : RP (withinR g ib) ((withinR g ib).getD a []) x ↔ ∃ c : Nat, x = (c : Int) ∧ Pth (edE g ib) a c := by
  constructor
  · intro h
    induction h with
    | @start x h1 h2 =>
      obtain ⟨c, rfl⟩ := Int.eq_ofNat_of_zero_le (inG_iff.1 h2).1
      exact ⟨c, rfl, .one (decide_eq_true (List.mem_filter.2 ⟨h1, h2⟩))⟩
    | @step b x h1 h2 ih =>
      obtain ⟨c, hc, hp⟩ := ih
      obtain rfl : b = c := by omega
      obtain ⟨d, rfl⟩ := Int.eq_ofNat_of_zero_le (inG_iff.1 (ends_in h2)).1
      exact ⟨d, rfl, .snoc hp (decide_eq_true h2)⟩
  · rintro ⟨c, rfl, hp⟩
    induction hp with
    | one h => obtain ⟨h1, h2⟩ := List.mem_filter.1 (of_decide_eq_true h); exact .start h1 h2
    | snoc _ h ih => exact .step ih (of_decide_eq_true h)
theorem on_mem {g : Graph} {ib : List Bool} {x : Int} : x ∈ onL g ib ↔ ∃ c : Nat, x = (c : Int) ∧ Pth (edE g ib) c c := by
  unfold onL selTo
  simp only [List.mem_map, List.mem_filter, List.mem_range, Bool.and_eq_true, onP_iff, rp_pth]
  constructor
  · rintro ⟨c, ⟨_, _, d, hd, hp⟩, rfl⟩
    obtain rfl : c = d := by omega
    exact ⟨c, rfl, hp⟩
  · rintro ⟨c, rfl, hp⟩
    have hm : c < g.length ∧ memF g ib (c : Int) = true := by
      cases hp with
      | one h => have := edE_iff.1 h; exact ⟨this.1, this.2.2.2.1⟩
      | snoc _ h => have := edE_iff.1 h; exact ⟨this.2.1, this.2.2.2.2⟩
    exact ⟨c, ⟨hm.1, hm.2, c, rfl, hp⟩, rfl⟩
theorem on_nil {g : Graph} {ib : List Bool} : onL g ib = [] ↔ okO g ib = true := by
  rw [ok_iff]
  constructor
  · intro h a hp
    have := on_mem.2 ⟨a, rfl, hp⟩
    rw [h] at this; cases this
  · intro h
    exact List.eq_nil_iff_forall_not_mem.2 (fun x hx => by obtain ⟨c, _, hp⟩ := on_mem.1 hx; exact h c hp)
theorem memF_turn (g : Graph) (ib : List Bool) (x : Int) : memF (turnG g) ib x = memF g ib x := by unfold memF; rw [turnG_len]
theorem edE_turn {g : Graph} {ib : List Bool} {b a : Nat} : edE (turnG g) ib b a = true ↔ edE g ib a b = true := by
  rw [edE_iff, edE_iff, memF_turn, memF_turn, turnG_len]
  constructor
  · rintro ⟨h1, h2, h3, h4, h5⟩
    refine ⟨h2, h1, ?_, h5, h4⟩
    rw [getD_at (turnG_at h1)] at h3
    unfold turnTo selTo at h3
    obtain ⟨c, hc, he⟩ := List.mem_map.1 h3
    obtain ⟨hc1, hc2⟩ := List.mem_filter.1 hc
    obtain rfl : c = a := by have : (c : Int) = a := he; omega
    exact (List.mem_filter.1 (of_decide_eq_true hc2)).1
  · rintro ⟨h1, h2, h3, h4, h5⟩
    refine ⟨h2, h1, ?_, h5, h4⟩
    rw [getD_at (turnG_at h2)]
    unfold turnTo selTo
    exact List.mem_map.2 ⟨a, List.mem_filter.2 ⟨List.mem_range.2 h1, decide_eq_true (List.mem_filter.2 ⟨h3, inG_iff.2 ⟨by omega, by omega⟩⟩)⟩, rfl⟩
theorem ok_turn (g : Graph) (ib : List Bool) : okO (turnG g) ib = okO g ib := by
  rw [Bool.eq_iff_iff, ok_iff, ok_iff]
  exact ⟨fun h a hp => h a (hp.flip (fun x y k => edE_turn.2 k)), fun h a hp => h a (hp.flip (fun x y k => edE_turn.1 k))⟩
theorem memL_turn (g : Graph) (ib : List Bool) : memL (turnG g) ib = memL g ib := by unfold memL; rw [turnG_len]
theorem ordL_length (g : Graph) (ib : List Bool) : (ordL g ib).length = if okO g ib then trues (memL g ib) else 0 := by
  unfold ordL
  cases h : okO g ib with
  | false => rfl
  | true =>
    rw [if_pos rfl, if_pos rfl, List.length_map]
    exact of_decide_eq_true h
theorem ordL_turn_len (g : Graph) (ib : List Bool) : (ordL (turnG g) ib).length = (ordL g ib).length := by rw [ordL_length, ordL_length, ok_turn, memL_turn]
/-- What an order is: each member once; each edge leads on. -/
structure IsO (g : Graph) (ib : List Bool) (out : List Nat) : Prop where
  nodup : out.Nodup
  mem : ∀ c ∈ out, memF g ib (c : Int) = true
theorem seq_is (g : Graph) (ib : List Bool) : IsO g ib (seqN g ib) := by
  obtain ⟨left, hr, hn⟩ := gr_run (edE g ib) (memL g ib)
  rw [← seq_edE] at hr
  obtain ⟨o1, o2, o3⟩ := hr.out
  exact ⟨o3, fun c hc => by rw [memL_at (o2 c hc).1]⟩
theorem seq_all {g : Graph} {ib : List Bool} (h : okO g ib = true) {c : Nat} (hc : memF g ib (c : Int) = true) : c ∈ seqN g ib := by
  obtain ⟨left, hr, hn⟩ := gr_run (edE g ib) (memL g ib)
  rw [← seq_edE] at hr
  obtain ⟨o1, o2, o3⟩ := hr.out
  have hl := hr.len
  have h1 : (seqN g ib).length = trues (memL g ib) := of_decide_eq_true h
  rcases o1 c (memL_mem hc) with k | k
  · have := trues_set k; omega
  · exact k
theorem seq_on {g : Graph} {ib : List Bool} {a b : Nat} (he : edE g ib a b = true) (hb : b ∈ seqN g ib) : (seqN g ib).idxOf a < (seqN g ib).idxOf b := by
  obtain ⟨left, hr, hn⟩ := gr_run (edE g ib) (memL g ib)
  rw [← seq_edE] at hr
  exact (hr.ahead (fun b a h => (edE_mem b a h).1) b hb a he).2
theorem few_small {g : Graph} (h : g.length ≤ 24 ∧ ∀ l ∈ g, l.length ≤ 30) : SmallG g := ⟨by omega, fun l hl => by have := h.2 l hl; omega⟩
end Go.Proofs.YtcacohoanlljhaaG
