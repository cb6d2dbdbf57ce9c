/-
  A region that draws its order, once more: what is copied out of slots at any time; what only looks, in some order; then the others, one behind the other.
-/
import Derived.Test.YtnidmlngkpkmlaaKi
namespace Go.Proofs.YtnidmlngkpkmlaaK
set_option linter.unusedVariables false
set_option linter.unusedSimpArgs false
open Go.RowKit
section
variable {P : Program} {ops : Array Oper} {md : Region.Mode} {w : World}
def sinkB' (md : Region.Mode) (ops : Array Oper) (l0 : Array Bool) (n : Nat) : Bool :=
  (List.range n).all fun i => l0.getD i true || (List.range (n + 1)).any fun j => decide (i < j) && Region.waitsFor md ops j i && !(l0.getD j false)
theorem tail_waits' {n : Nat} {l0 listed : Array Bool} (hl : ∀ i, listed.getD i true = false → l0.getD i true = false) (hs : sinkB' md ops l0 n = true) (hc : Region.chainB md ops n = true) (hn : n < ops.size) (inv : HeadInv md ops n listed) :
    ∀ (d i : Nat), n - i = d → i < n → listed.getD i true = false → ∀ t, n ≤ t → t ∉ Region.ready md ops listed := by
  intro d
  induction d using Nat.strongRecOn with
  | _ d ih =>
    intro i hd hi hun t ht hr
    obtain ⟨_, ot, hot, hall⟩ := mem_ready.1 hr
    have htlt : t < ops.size := (Array.getElem?_eq_some_iff.1 hot).1
    by_cases htn : t = n
    · subst htn
      have h1 := List.all_eq_true.1 hs i (List.mem_range.2 hi)
      rw [hl i hun, Bool.false_or] at h1
      obtain ⟨j, hj, hj2⟩ := List.any_eq_true.1 h1
      simp only [Bool.and_eq_true, decide_eq_true_eq] at hj2
      obtain ⟨oj, hoj, e, he, hb, hon⟩ := Region.waitsFor_spec hj2.1.2
      have hjle : j ≤ t := by have := List.mem_range.1 hj; omega
      by_cases hjt : j = t
      · subst hjt
        have : oj = ot := Option.some.inj (hoj.symm.trans hot)
        subst this
        have h2 := hall e he hb
        rw [hon, getD_both hun] at h2
        cases h2
      · cases hlj : listed.getD j false with
        | true =>
          have h2 := inv.closed j oj hoj hlj e he hb
          rw [hon, getD_both hun] at h2
          cases h2
        | false =>
          have hjs : j < listed.size := by rw [inv.size]; omega
          exact ih (t - j) (by omega) j rfl (by omega) (getD_in hjs hlj) t (Nat.le_refl _) hr
    · have h1 := List.all_eq_true.1 hc t (List.mem_range.2 htlt)
      simp only [Bool.or_eq_true, decide_eq_true_eq] at h1
      rcases h1 with h1 | h1
      · omega
      · obtain ⟨o', ho', e, he, hb, hon⟩ := Region.waitsFor_spec h1
        have : o' = ot := Option.some.inj (ho'.symm.trans hot)
        subst this
        have h2 := hall e he hb
        rw [hon, getD_both (inv.tail (t - 1) (by omega) (by omega))] at h2
        cases h2
theorem wpAnyL_first' {n i : Nat} {oi : Oper} {v : Value} {l0 : Array Bool} {L : Array Bool → Act → Prop} (hi : ops[i]? = some oi) (hsel : ∀ (j : Nat) (o : Oper) cs b, ops[j]? = some o → o.op ≠ .select cs b)
    (hs : sinkB' md ops l0 n = true) (hc : Region.chainB md ops n = true) (hn : n < ops.size) (hin : i < n)
    (hdone : ∀ listed a, L listed a → ∀ j ∈ Region.ready md ops listed, n ≤ j) :
    ∀ (f : Nat) (listed : Array Bool) (a : Act), (∀ i, listed.getD i true = false → l0.getD i true = false) → HeadInv md ops n listed →
      (∀ j oj, ops[j]? = some oj → j ≠ i → listed.getD j true = false → (∀ e ∈ oj.after, Region.binds md e = true → e.on ≠ i) → oi.apart ops oj = true) →
      i ∈ Region.ready md ops listed → YieldsAt P ops w oi v a →
      wpAnyL P md ops w n L f (listed.setIfInBounds i true) (a.put oi.dst v) → wpAnyL P md ops w n L (f + 1) listed a := by
  intro f
  induction f with
  | zero =>
    intro listed a hl inv _ hr hy H
    have hun := (mem_ready.1 hr).1
    refine ⟨fun h => (by rw [h] at hr; cases hr), fun j hj => ?_⟩
    have hjn : j < n := by
      rcases Nat.lt_or_ge j n with h | h
      · exact h
      · exact absurd hj (tail_waits' hl hs hc hn inv _ i rfl hin hun j h)
    refine ⟨hjn, ?_⟩
    by_cases hji : j = i
    · subst hji; exact hy.stOp hi H
    · have := hdone _ _ H j (ready_mono hj hji)
      omega
  | succ f ih =>
    intro listed a hl inv hfree hr hy H
    have hun := (mem_ready.1 hr).1
    refine ⟨fun h => (by rw [h] at hr; cases hr), fun j hj => ?_⟩
    have hjn : j < n := by
      rcases Nat.lt_or_ge j n with h | h
      · exact h
      · exact absurd hj (tail_waits' hl hs hc hn inv _ i rfl hin hun j h)
    refine ⟨hjn, ?_⟩
    by_cases hji : j = i
    · subst hji; exact hy.stOp hi H
    · have h1 := (H.2 j (ready_mono hj hji)).2
      obtain ⟨hjun, oj, hoj, hall⟩ := mem_ready.1 hj
      have hnot : ∀ e ∈ oj.after, Region.binds md e = true → e.on ≠ i := fun e he hb heq => by
        have h1 := hall e he hb
        rw [heq, getD_both hun] at h1
        cases h1
      have h2 := stOp_put hoj (hfree j oj hoj hji hjun hnot) (fun cs b => hsel i oi cs b hi) (fun cs b => hsel j oj cs b hoj) hy h1
      have hfree' : ∀ k ok, ops[k]? = some ok → k ≠ i → (listed.setIfInBounds j true).getD k true = false →
          (∀ e ∈ ok.after, Region.binds md e = true → e.on ≠ i) → oi.apart ops ok = true := fun k ok hk hki hun hno => by
        refine hfree k ok hk hki ?_ hno
        by_cases hjk : j = k
        · subst hjk; exact hjun
        · rw [getD_set_ne true hjk] at hun; exact hun
      have hl' : ∀ k, (listed.setIfInBounds j true).getD k true = false → l0.getD k true = false := fun k hk => by
        by_cases hjk : j = k
        · subst hjk; exact hl j hjun
        · rw [getD_set_ne true hjk] at hk; exact hl k hk
      refine stOp_mono (fun a' h3 => ih (listed.setIfInBounds j true) a' hl' (inv.set hj hjn) hfree' (ready_mono hr (Ne.symm hji)) h3.1 ?_) h2
      rw [Array.setIfInBounds_comm _ _ hji]
      exact h3.2
/-- The looking ones, in the order of ks; then the tail. -/
def lexG (md : Region.Mode) (ops : Array Oper) (n : Nat) : List Nat → Array Bool → Bool
  | [], listed => Region.seqB md ops (ops.size - n) n listed
  | k :: ks, listed => decide (k < n) && (Region.ready md ops listed).contains k && Region.free md ops listed k && lexG md ops n ks (listed.setIfInBounds k true)
theorem wpAnyL_lexG {n : Nat} {l0 : Array Bool} {Lq : Act → Prop} (hsel : Region.noSelect ops = true) (hs : sinkB' md ops l0 n = true) (hc : Region.chainB md ops n = true) (hn : n < ops.size) :
    ∀ (ks : List Nat) (l : List Oper) (listed : Array Bool) (a : Act), ks.mapM (fun k => ops[k]?) = some l → (∀ i, listed.getD i true = false → l0.getD i true = false) → HeadInv md ops n listed →
    lexG md ops n ks listed = true → wpStill P ops w Lq l a →
    wpAnyL P md ops w n (fun listed' a' => Region.seqB md ops (ops.size - n) n listed' = true ∧ Lq a') ks.length listed a
  | [], l, listed, a, hk, hl, inv, hB, h => by
    simp at hk
    subst hk
    exact ⟨hB, h⟩
  | k :: ks, l, listed, a, hk, hl, inv, hB, h => by
    rw [List.mapM_cons] at hk
    cases h0 : ops[k]? with
    | none => rw [h0] at hk; simp at hk
    | some o =>
      rw [h0] at hk
      cases hks : ks.mapM (fun k => ops[k]?) with
      | none => rw [hks] at hk; simp at hk
      | some l' =>
        rw [hks] at hk
        simp at hk
        subst hk
        simp only [lexG, Bool.and_eq_true, decide_eq_true_eq] at hB
        obtain ⟨⟨⟨hkn, hr⟩, hf⟩, hB'⟩ := hB
        have hr' : k ∈ Region.ready md ops listed := by simpa using hr
        have hst : stOp P ops w k (wpStill P ops w Lq l') a := by unfold stOp; simp only [h0]; exact h
        obtain ⟨v, hy, hK⟩ := yieldsAt_of_stOp h0 hst
        have hl' : ∀ i, (listed.setIfInBounds k true).getD i true = false → l0.getD i true = false := fun i hi => by
          by_cases hjk : k = i
          · subst hjk; exact hl k (mem_ready.1 hr').1
          · rw [getD_set_ne true hjk] at hi; exact hl i hi
        exact wpAnyL_first' h0 (Region.noSelect_spec hsel) hs hc hn hkn (fun listed' a' hL => seqB_ready hL.1) ks.length listed a hl inv (Region.free_spec h0 hf) hr' hy
          (wpAnyL_lexG hsel hs hc hn ks l' _ _ hks hl' (inv.set hr' hkn) hB' hK)
/-- Copies out of slots: of operations that read nothing that is written here. -/
def preB (md : Region.Mode) (ops : Array Oper) (n : Nat) : List Nat → Array Bool → Option (Array Bool)
  | [], listed => some listed
  | k :: ks, listed => match ops[k]? with
    | some ⟨some _, .move _, _, _, _, none⟩ => bif decide (k < n) && (Region.ready md ops listed).contains k && Region.free md ops listed k then preB md ops n ks (listed.setIfInBounds k true) else none
    | _ => none
def preE (ops : Array Oper) : List Nat → Env → Option Env
  | [], E => some E
  | k :: ks, E => match ops[k]? with
    | some ⟨some d, .move x, _, _, _, none⟩ => match E.op x with
      | some v => preE ops ks ((d, v) :: E)
      | none => none
    | _ => none
theorem pre_take {n : Nat} {Q' : Exit → Act → World → Prop} (hsel : Region.noSelect ops = true) (hQ : ∀ c a w, ¬ Q' (.panic c) a w) {N : Nat} {D : List Deferred} (hN : ops.all (fun o => o.dst.all fun d => Nat.blt d N) = true) : ∀ (ks : List Nat) (listed l1 : Array Bool) (E E' : Env) (a : Act) (f : Nat), Ok N E D a → preB md ops n ks listed = some l1 → preE ops ks E = some E' → HeadInv md ops n listed →
    (∀ a', Ok N E' D a' → HeadInv md ops n l1 → wpAny P md ops Q' f l1 a' w) → wpAny P md ops Q' (ks.length + f) listed a w
  | [], listed, l1, E, E', a, f, ha, hb, he, inv, h => by
    simp only [preB, Option.some.injEq] at hb
    simp only [preE, Option.some.injEq] at he
    subst hb he
    rw [List.length_nil, Nat.zero_add]
    exact h a ha inv
  | k :: ks, listed, l1, E, E', a, f, ha, hb, he, inv, h => by
    simp only [preB] at hb
    simp only [preE] at he
    split at hb
    · rename_i d x ty pos af hk
      rw [hk] at he
      simp only [] at he
      split at he
      · rename_i v hv
        cases hcond : (decide (k < n) && (Region.ready md ops listed).contains k && Region.free md ops listed k) with
        | false => rw [hcond] at hb; cases hb
        | true =>
          rw [hcond] at hb
          simp only [cond_true] at hb
          simp only [Bool.and_eq_true, decide_eq_true_eq] at hcond
          obtain ⟨⟨hkn, hr⟩, hf⟩ := hcond
          have hr' : k ∈ Region.ready md ops listed := by simpa using hr
          have hd : Nat.blt d N = true := by
            have hm := Array.all_eq_true.1 hN k (Array.getElem?_eq_some_iff.1 hk).1
            rw [Array.getElem?_eq_getElem (Array.getElem?_eq_some_iff.1 hk).1] at hk
            rw [Option.some.inj hk] at hm
            simpa using hm
          rw [List.length_cons, show ks.length + 1 + f = (ks.length + f) + 1 by omega]
          refine wpAny_take (v := v) hk hsel hf hr (fun c a w h => (hQ c _ _ h).elim) (.inl ⟨rfl, fun w => by simp [execOp, ha.fit.op hv]⟩) ?_
          exact pre_take hsel hQ hN ks _ l1 _ E' _ f (ha.put hd) hb he (inv.set hr' hkn) h
      · cases he
    · cases hb
end
section
variable {c : Cx} {Q : Post} {E E' : Env} {D : List Deferred} {H : List Res}
def drawB (ops : Array Oper) (N : Nat) (ps ks : List Nat) (n : Nat) : Bool :=
  Region.noSelect ops && decide (n < ops.size) && ops.all (fun o => o.dst.all fun d => Nat.blt d N) && Nat.beq (ps.length + ks.length) n && Region.chainB .any ops n &&
    match preB .any ops n ps (Array.replicate ops.size false) with
    | some l1 => sinkB' .any ops l1 n && lexG .any ops n ks l1
    | none => false
theorem wDraw2 (hF : c.F = Fence.wide) (hm : c.P.follows .mixedOrders = true) {id : Nat} {l hd : List Oper} (ps ks : List Nat) (n : Nat) (hB : drawB l.toArray c.N ps ks n = true) (hE : preE l.toArray ps E = some E') (hk : ks.mapM (fun k => l[k]?) = some hd) {tl : List Oper} (htl : l.drop n = tl)
    (h : ∀ w0, O (Md.head c l.toArray w0 tl Q) hd E' D H) : W c (.region id l.toArray true) Q E D H := by
  subst htl
  intro a w ha hw
  rw [hF]
  refine wpIn_wide.2 ?_
  refine wp_region_any hm ?_
  simp only [drawB, Bool.and_eq_true, decide_eq_true_eq, Nat.beq_eq] at hB
  obtain ⟨⟨⟨⟨⟨hsel, hn⟩, hN⟩, hlen⟩, hc⟩, hB⟩ := hB
  split at hB
  · rename_i l1 hl1
    simp only [Bool.and_eq_true] at hB
    obtain ⟨hs, hlex⟩ := hB
    have inv0 : HeadInv .any l.toArray n (Array.replicate l.toArray.size false) :=
      ⟨by simp, fun j oj _ hl => (by rw [getD_replicate_false] at hl; cases hl), fun t _ ht => getD_in (by simpa using ht) (getD_replicate_false _ _)⟩
    have hn' : n < l.length := by simpa using hn
    have htot : l.toArray.size = ps.length + (ks.length + (l.toArray.size - n)) := by omega
    have hgo : wpAny c.P .any l.toArray (lift c Q) (ps.length + (ks.length + (l.toArray.size - n))) (Array.replicate l.toArray.size false) a w.drew := by
     refine pre_take (D := D) hsel (fun c a w ⟨E, D, H, h1, h2, h3, h4⟩ => h4) hN ps _ l1 E E' a (ks.length + (l.toArray.size - n)) ha hl1 hE inv0 (fun a' ha' inv1 => ?_)
     have hks : ks.mapM (fun k => l.toArray[k]?) = some hd := by simpa using hk
     have H1 := wpAnyL_lexG (md := .any) (w := w.drew) (Lq := fun a' => wpList c.P l.toArray (lift c Q) (l.drop n) a' w.drew) hsel hs hc hn ks hd l1 a' hks (fun i hi => hi) inv1 hlex (h w.drew a' w.drew ha' hw.drew rfl)
     refine wpAny_of_head (Q' := lift c Q) (g := l.toArray.size - n) (fun listed a' hL => ?_) _ _ _ H1
     have hdl : (l.drop n).length = l.toArray.size - n := by simp
     have := wpAny_of_seq (md := .any) (Q' := lift c Q) (l.drop n) n listed a' w.drew (fun j => by simp [List.getElem?_drop]) (by rw [hdl]; exact hL.1) hL.2
     rwa [hdl] at this
    rw [htot]
    rw [← htot] at hgo ⊢
    exact hgo
  · cases hB
end
end Go.Proofs.YtnidmlngkpkmlaaK
