/-
  Kahn's order, plainly: how many are ahead of each; who waits.
-/
import Derived.Test.YtnidmlngkpkmlaaGl
import Derived.Test.YtnidmlngkpkmlaaQh
namespace Go.Proofs.YtnidmlngkpkmlaaG
set_option linter.unusedVariables false
set_option linter.unusedSimpArgs false
open Go.RowKit Go.Proofs.YtnidmlngkpkmlaaK Go.Proofs.YtnidmlngkpkmlaaT Go.Proofs.YtnidmlngkpkmlaaL
open Go.Proofs.YtnidmlngkpkmlaaQ (lt2 qins qhas qins_perm qins_sorted)

def edW (w : Graph) (b a : Nat) : Bool := decide ((a : Int) ∈ w.getD b [])
structure WOk (w : Graph) (mem : List Bool) : Prop where
  len : w.length = mem.length
  small : w.length ≤ 1000
  row : ∀ b, (w.getD b []).Pairwise (· < ·)
  mem1 : ∀ b x, x ∈ w.getD b [] → mem.getD b false = true
  mem2 : ∀ b x, x ∈ w.getD b [] → ∃ c : Nat, x = (c : Int) ∧ mem.getD c false = true
theorem getD_lt {l : List Bool} {a : Nat} (h : l.getD a false = true) : a < l.length := by
  rw [List.getD_eq_getElem?_getD] at h
  cases hv : l[a]? with
  | none => rw [hv] at h; cases h
  | some v => exact (List.getElem?_eq_some_iff.1 hv).1
def cnt (w : Graph) (left : List Bool) (c : Nat) : Nat := ((List.range w.length).filter fun b => left.getD b false && edW w b c).length
theorem cnt_zero {w : Graph} {left : List Bool} (hl : left.length = w.length) {c : Nat} : cnt w left c = 0 ↔ ∀ b : Nat, left[b]? = some true → edW w b c = false := by
  unfold cnt
  rw [List.length_eq_zero_iff, List.filter_eq_nil_iff]
  constructor
  · intro h b hb
    have := h b (List.mem_range.2 (by have := (List.getElem?_eq_some_iff.1 hb).1; omega))
    rw [getD_at hb] at this
    simpa using this
  · intro h b hb hp
    rw [Bool.and_eq_true] at hp
    rw [h b (getD_true hp.1)] at hp
    cases hp.2
theorem fre_cnt {w : Graph} {left : List Bool} (hl : left.length = w.length) (c : Nat) : fre (edW w) left c = (left.getD c false && decide (cnt w left c = 0)) := by
  rw [Bool.eq_iff_iff, fre_iff, Bool.and_eq_true, decide_eq_true_eq, cnt_zero hl]
  exact ⟨fun h => ⟨by rw [getD_at h.1], h.2⟩, fun h => ⟨getD_true h.1, h.2⟩⟩
theorem filt_upd {p : Nat → Bool} {a : Nat} : ∀ {n : Nat}, a < n → ((List.range n).filter p).length = ((List.range n).filter fun b => p b && b != a).length + if p a then 1 else 0
  | 0, h => by omega
  | n + 1, h => by
    rw [List.range_succ, List.filter_append, List.filter_append, List.length_append, List.length_append]
    by_cases e : a = n
    · subst e
      have : (List.range a).filter (fun b => p b && b != a) = (List.range a).filter p := List.filter_congr (fun b hb => by have := List.mem_range.1 hb; simp; intro _; omega)
      rw [this]
      cases hp : p a <;> simp [hp]
    · rw [filt_upd (p := p) (a := a) (n := n) (by omega)]
      have : (fun b => p b && b != a) n = p n := by
        show (p n && n != a) = p n
        rw [show (n != a) = true by simp; omega, Bool.and_true]
      have e2 : [n].filter (fun b => p b && b != a) = [n].filter p := by
        rw [List.filter_cons, List.filter_cons]
        rw [show (p n && n != a) = p n from this]; rfl
      rw [e2]; omega
theorem set_getD {left : List Bool} {a b : Nat} : (left.set a false).getD b false = (left.getD b false && b != a) := by
  rw [List.getD_eq_getElem?_getD, List.getD_eq_getElem?_getD, List.getElem?_set]
  by_cases e : a = b
  · subst e; rw [if_pos rfl]; split <;> simp
  · rw [if_neg e, show (b != a) = true by simp; omega, Bool.and_true]
theorem cnt_set {w : Graph} {left : List Bool} (hl : left.length = w.length) {a : Nat} (h : left[a]? = some true) (c : Nat) : cnt w left c = cnt w (left.set a false) c + if edW w a c then 1 else 0 := by
  have ha := (List.getElem?_eq_some_iff.1 h).1
  unfold cnt
  rw [filt_upd (a := a) (by omega)]
  rw [getD_at h, Bool.true_and]
  congr 2
  exact List.filter_congr (fun b hb => by rw [set_getD]; cases left.getD b false <;> cases edW w b c <;> simp)
/-! ### ahead -/
def aheadL (n : Nat) (f : Nat → Nat) : List Int := (List.range n).map fun c => ((f c : Nat) : Int)
theorem aheadL_len (n : Nat) (f : Nat → Nat) : (aheadL n f).length = n := by simp [aheadL]
theorem aheadL_at {n : Nat} {f : Nat → Nat} {c : Nat} (h : c < n) : (aheadL n f)[c]? = some (f c : Int) := by simp [aheadL, h]
theorem aheadL_set {n : Nat} {f f' : Nat → Nat} {b : Nat} {v : Int} (hv : v = (f' b : Int)) (hf : ∀ c, c ≠ b → f c = f' c) : (aheadL n f).set b v = aheadL n f' := by
  apply List.ext_getElem?
  intro c
  rw [List.getElem?_set]
  by_cases e : b = c
  · subst e
    rw [if_pos rfl, aheadL_len]
    by_cases h : b < n
    · rw [if_pos h, aheadL_at h, hv]
    · rw [if_neg h, List.getElem?_eq_none (by rw [aheadL_len]; omega)]
  · rw [if_neg e]
    by_cases h : c < n
    · rw [aheadL_at h, aheadL_at h, hf c (fun x => e x.symm)]
    · rw [List.getElem?_eq_none (by rw [aheadL_len]; omega), List.getElem?_eq_none (by rw [aheadL_len]; omega)]
theorem aheadL_congr {n : Nat} {f f' : Nat → Nat} (h : ∀ c, f c = f' c) : aheadL n f = aheadL n f' := by rw [show f = f' from funext h]
theorem aheadL_zero (n : Nat) : aheadL n (fun _ => 0) = List.replicate n 0 := by
  apply List.ext_getElem?
  intro i
  unfold aheadL
  rw [List.getElem?_map, List.getElem?_replicate]
  by_cases h : i < n <;> simp [h]
def inT (l : List Int) (c : Nat) : Nat := if (c : Int) ∈ l then 1 else 0
def bld (w : Graph) (i j c : Nat) : Nat := ((List.range i).filter fun b => edW w b c).length + inT ((w.getD i []).take j) c
theorem bld_zero (w : Graph) (c : Nat) : bld w 0 0 c = 0 := by simp [bld, inT]
theorem bld_next (w : Graph) (i c : Nat) : bld w i (w.getD i []).length c = bld w (i + 1) 0 c := by
  unfold bld
  rw [List.take_length, List.take_zero, List.range_succ, List.filter_append, List.length_append]
  unfold inT
  rw [if_neg (show ¬ (c : Int) ∈ ([] : List Int) by simp), Nat.add_zero]
  congr 1
  by_cases h : (c : Int) ∈ w.getD i []
  · rw [if_pos h, List.filter_cons_of_pos (by unfold edW; exact decide_eq_true h)]; rfl
  · rw [if_neg h, List.filter_cons_of_neg (by unfold edW; rw [decide_eq_false h]; simp)]; rfl
theorem bld_all {w : Graph} {mem : List Bool} (h : WOk w mem) (c : Nat) : bld w w.length 0 c = cnt w mem c := by
  unfold bld cnt inT
  rw [List.take_zero, if_neg (show ¬ (c : Int) ∈ ([] : List Int) by simp), Nat.add_zero]
  congr 1
  exact List.filter_congr (fun b hb => by
    cases he : edW w b c with
    | false => simp
    | true => rw [h.mem1 b c (of_decide_eq_true he)]; rfl)
theorem bld_le (w : Graph) (i j c : Nat) : bld w i j c ≤ i + 1 := by
  unfold bld inT
  have := List.length_filter_le (fun b => edW w b c) (List.range i)
  rw [List.length_range] at this
  split <;> omega
theorem cnt_le (w : Graph) (left : List Bool) (c : Nat) : cnt w left c ≤ w.length := by
  unfold cnt
  have := List.length_filter_le (fun b => left.getD b false && edW w b c) (List.range w.length)
  rw [List.length_range] at this
  omega
theorem not_before {l : List Int} (h : l.Pairwise (· < ·)) {j : Nat} {x : Int} (hx : l[j]? = some x) : ¬ x ∈ l.take j ∧ ¬ x ∈ l.drop (j + 1) := by
  obtain ⟨hj, rfl⟩ := List.getElem?_eq_some_iff.1 hx
  have h1 := List.pairwise_iff_getElem.1 h
  constructor
  · intro hm
    obtain ⟨k, hk, he⟩ := List.mem_take_iff_getElem.1 hm
    have := h1 k j (by omega) hj (by omega)
    omega
  · intro hm
    obtain ⟨k, hk, he⟩ := List.mem_drop_iff_getElem.1 hm
    have := h1 j (j + 1 + k) hj (by omega) (by omega)
    omega
theorem inT_take {l : List Int} (h : l.Pairwise (· < ·)) {j b : Nat} (hx : l[j]? = some (b : Int)) : inT (l.take j) b = 0 ∧ inT (l.take (j + 1)) b = 1 ∧ ∀ c, c ≠ b → inT (l.take j) c = inT (l.take (j + 1)) c := by
  have hj := (List.getElem?_eq_some_iff.1 hx).1
  have ht : l.take (j + 1) = l.take j ++ [(b : Int)] := by rw [List.take_add_one, hx]; rfl
  refine ⟨by unfold inT; rw [if_neg (not_before h hx).1], by unfold inT; rw [ht, if_pos (by simp)], fun c hc => ?_⟩
  unfold inT
  rw [ht]
  have : ¬ (c : Int) = (b : Int) := by omega
  simp [this]
theorem inT_drop {l : List Int} (h : l.Pairwise (· < ·)) {j b : Nat} (hx : l[j]? = some (b : Int)) : inT (l.drop j) b = 1 ∧ inT (l.drop (j + 1)) b = 0 ∧ ∀ c, c ≠ b → inT (l.drop j) c = inT (l.drop (j + 1)) c := by
  have hj := (List.getElem?_eq_some_iff.1 hx).1
  have ht : l.drop j = (b : Int) :: l.drop (j + 1) := by
    obtain ⟨_, he⟩ := List.getElem?_eq_some_iff.1 hx
    rw [← he]; exact List.drop_eq_getElem_cons hj
  refine ⟨by unfold inT; rw [ht, if_pos (by simp)], by unfold inT; rw [if_neg (not_before h hx).2], fun c hc => ?_⟩
  unfold inT
  rw [ht]
  have : ¬ (c : Int) = (b : Int) := by omega
  simp [this]
/-! ### who waits -/
def pr (c : Nat) : Int × Int := ((c : Int), (c : Int))
def wt (n : Nat) (p : Nat → Bool) : List (Int × Int) := ((List.range n).filter p).map pr
theorem wt_sorted (n : Nat) (p : Nat → Bool) : (wt n p).Pairwise lt2 := by
  unfold wt
  rw [List.pairwise_map]
  refine (List.pairwise_lt_range.sublist List.filter_sublist).imp ?_
  intro a b h
  left
  show (a : Int) < (b : Int)
  omega
theorem wt_mem {n : Nat} {p : Nat → Bool} {x : Int × Int} : x ∈ wt n p ↔ ∃ c, c < n ∧ p c = true ∧ x = pr c := by
  unfold wt
  simp only [List.mem_map, List.mem_filter, List.mem_range]
  exact ⟨fun ⟨c, ⟨h1, h2⟩, h3⟩ => ⟨c, h1, h2, h3.symm⟩, fun ⟨c, h1, h2, h3⟩ => ⟨c, ⟨h1, h2⟩, h3.symm⟩⟩
theorem lt2_irr {a b : Int × Int} (h : lt2 a b) (k : lt2 b a) : a = b := by unfold lt2 at *; omega
theorem lt2_nd {l : List (Int × Int)} (h : l.Pairwise lt2) : l.Nodup := h.imp (fun {a b} h e => by subst e; unfold lt2 at h; omega)
theorem wt_has {n : Nat} {p : Nat → Bool} {b : Nat} (hb : b < n) : qhas (wt n p) (b : Int) = p b := by
  rw [Bool.eq_iff_iff, qhas, List.any_eq_true]
  constructor
  · rintro ⟨x, hx, e⟩
    obtain ⟨c, hc, hp, rfl⟩ := wt_mem.1 hx
    have : (c : Int) = (b : Int) := by simpa [pr] using e
    rw [← show c = b by omega]; exact hp
  · intro h
    exact ⟨pr b, wt_mem.2 ⟨b, hb, h, rfl⟩, by simp [pr]⟩
theorem wt_ins {n : Nat} {p p' : Nat → Bool} {b : Nat} (hb : b < n) (h0 : p b = false) (h1 : p' b = true) (h : ∀ c, c ≠ b → p c = p' c) : qins ((b : Int), (b : Int)) (wt n p) = wt n p' := by
  have hs : (qins ((b : Int), (b : Int)) (wt n p)).Pairwise lt2 := qins_sorted (wt_sorted n p) (fun y hy => by
    obtain ⟨c, hc, hp, rfl⟩ := wt_mem.1 hy
    show (c : Int) ≠ (b : Int)
    intro e
    rw [show c = b by omega, h0] at hp; cases hp)
  refine List.Perm.eq_of_pairwise (le := lt2) (fun a b _ _ h1 h2 => lt2_irr h1 h2) hs (wt_sorted n p') ?_
  refine (qins_perm _ _).trans ?_
  rw [List.perm_ext_iff_of_nodup (((qins_perm _ _).nodup_iff).1 (lt2_nd hs)) (lt2_nd (wt_sorted n p'))]
  intro x
  rw [List.mem_cons, wt_mem, wt_mem]
  constructor
  · rintro (rfl | ⟨c, hc, hp, rfl⟩)
    · exact ⟨b, hb, h1, rfl⟩
    · refine ⟨c, hc, ?_, rfl⟩
      rw [← h c (by rintro rfl; rw [h0] at hp; cases hp)]; exact hp
  · rintro ⟨c, hc, hp, rfl⟩
    by_cases e : c = b
    · subst e; exact .inl rfl
    · exact .inr ⟨c, hc, by rw [h c e]; exact hp, rfl⟩
theorem wt_congr {n : Nat} {p p' : Nat → Bool} (h : ∀ c, c < n → p c = p' c) : wt n p = wt n p' := by
  unfold wt
  rw [List.filter_congr (fun c hc => h c (List.mem_range.1 hc))]
theorem wt_len (n : Nat) (p : Nat → Bool) : (wt n p).length ≤ n := by
  unfold wt
  rw [List.length_map]
  exact Nat.le_trans (List.length_filter_le _ _) (by simp)
/-- Who waits behind a taken one, ahead of its ends from j on. -/
def wtJ (w : Graph) (left : List Bool) (l : List Int) : List (Int × Int) := wt w.length fun c => left.getD c false && decide (cnt w left c + inT l c = 0)
def ahJ (w : Graph) (left : List Bool) (l : List Int) : List Int := aheadL w.length fun c => cnt w left c + inT l c
theorem wtJ_nil (w : Graph) {left : List Bool} (hl : left.length = w.length) : wtJ w left [] = wt w.length (fre (edW w) left) := wt_congr (fun c _ => by rw [fre_cnt hl]; simp [inT])
theorem wt_nxt {w : Graph} {left : List Bool} (hl : left.length = w.length) : (wt w.length (fre (edW w) left)).head? = (nxt (edW w) left).map pr := by
  unfold wt nxt
  rw [List.head?_map, List.head?_filter, hl]
theorem wt_take {w : Graph} {left : List Bool} (hl : left.length = w.length) {a : Nat} (hn : nxt (edW w) left = some a) : wt w.length (fre (edW w) left) = pr a :: wtJ w (left.set a false) (w.getD a []) := by
  have ha := nxt_left hn
  have hfa : fre (edW w) left a = true := List.find?_some hn
  have hal := (List.getElem?_eq_some_iff.1 ha).1
  have hh := wt_nxt hl
  rw [hn] at hh
  have hins := wt_ins (n := w.length) (p := fun c => (left.set a false).getD c false && decide (cnt w (left.set a false) c + inT (w.getD a []) c = 0)) (p' := fre (edW w) left) (b := a) (by omega) (by rw [set_getD]; simp) hfa (fun c hc => by
    rw [fre_cnt hl, set_getD, cnt_set hl ha, show (c != a) = true by simp [hc], Bool.and_true]
    congr 3
    unfold inT edW
    by_cases hm : (c : Int) ∈ w.getD a [] <;> simp [hm])
  rw [← hins] at hh ⊢
  show _ = pr a :: wt _ _
  have hp := qins_perm (pr a) (wt w.length fun c => (left.set a false).getD c false && decide (cnt w (left.set a false) c + inT (w.getD a []) c = 0))
  cases hq : qins (pr a) (wt w.length fun c => (left.set a false).getD c false && decide (cnt w (left.set a false) c + inT (w.getD a []) c = 0)) with
  | nil => rw [show qins ((a : Int), (a : Int)) _ = _ from hq] at hh; cases hh
  | cons y T =>
    rw [show qins ((a : Int), (a : Int)) _ = _ from hq] at hh
    obtain rfl : y = pr a := by simpa using hh
    show qins (pr a) _ = _
    rw [hq] at hp ⊢
    congr 1
    have hs : (pr a :: T).Pairwise lt2 := by rw [← hq]; show (qins ((a : Int), (a : Int)) _).Pairwise lt2; rw [hins]; exact wt_sorted _ _
    exact List.Perm.eq_of_pairwise (le := lt2) (fun a b _ _ h1 h2 => lt2_irr h1 h2) (List.pairwise_cons.1 hs).2 (wt_sorted _ _) hp.cons_inv
/-- A taken one has nobody left ahead of it. -/
theorem Run.clear {ed : Nat → Nat → Bool} {left0 left : List Bool} {out : List Nat} (h : Run ed left0 out left) : ∀ c : Nat, left0[c]? = some true → left[c]? = some true ∨ ∀ b : Nat, left[b]? = some true → ed b c = false := by
  induction h with
  | nil => exact fun c hc => .inl hc
  | @snoc out left a h hn ih =>
    have hfa := fre_iff.1 (List.find?_some hn)
    have hsub : ∀ b : Nat, (left.set a false)[b]? = some true → left[b]? = some true := by
      intro b hb
      rw [List.getElem?_set] at hb
      split at hb
      · split at hb <;> cases hb
      · exact hb
    intro c hc
    by_cases e : c = a
    · subst e; exact .inr (fun b hb => hfa.2 b (hsub b hb))
    · rcases ih c hc with h1 | h1
      · left; rw [List.getElem?_set, if_neg (fun x => e x.symm)]; exact h1
      · exact .inr (fun b hb => h1 b (hsub b hb))
theorem trues_sel : ∀ (mem : List Bool), ((List.range mem.length).filter fun a => mem.getD a false).length = trues mem := by
  intro mem
  unfold trues
  have h : mem = (List.range mem.length).map fun a => mem.getD a false := by
    apply List.ext_getElem?
    intro i
    rw [List.getElem?_map]
    by_cases hi : i < mem.length
    · rw [List.getElem?_range hi, List.getElem?_eq_getElem hi]; simp [List.getD_eq_getElem?_getD, hi]
    · rw [List.getElem?_eq_none (by omega), List.getElem?_eq_none (by simp; omega)]; rfl
  conv => rhs; rw [h]
  rw [List.filter_map, List.length_map]
  rfl
end Go.Proofs.YtnidmlngkpkmlaaG
