/-
  A region that draws its order, with late copies too: the tail is a list of places.
-/
import Derived.Test.YtnidmlngkpkmlaaKj
namespace Go.Proofs.YtnidmlngkpkmlaaK
set_option linter.unusedVariables false
set_option linter.unusedSimpArgs false
open Go.RowKit
section
variable {P : Program} {ops : Array Oper} {md : Region.Mode} {w : World} {ts : List Nat}
def seqT (md : Region.Mode) (ops : Array Oper) : List Nat → Array Bool → Bool
  | [], listed => (Region.ready md ops listed).isEmpty
  | t :: ts, listed => decide (Region.ready md ops listed = [t]) && seqT md ops ts (listed.setIfInBounds t true)
theorem wpAny_of_seqT {Q' : Exit → Act → World → Prop} : ∀ (ts : List Nat) (l : List Oper) (listed : Array Bool) (a : Act) (w : World), ts.mapM (fun t => ops[t]?) = some l → seqT md ops ts listed = true → wpList P ops Q' l a w → wpAny P md ops Q' ts.length listed a w
  | [], l, _, _, _, hl, hB, h => by
    simp at hl; subst hl
    exact ⟨by simpa [seqT] using hB, h⟩
  | t :: ts, l, listed, a, w, hl, hB, h => by
    rw [List.mapM_cons] at hl
    cases h0 : ops[t]? with
    | none => rw [h0] at hl; simp at hl
    | some o =>
      rw [h0] at hl
      cases hts : ts.mapM (fun t => ops[t]?) with
      | none => rw [hts] at hl; simp at hl
      | some l' =>
        rw [hts] at hl
        simp at hl
        subst hl
        simp only [seqT, Bool.and_eq_true, decide_eq_true_eq] at hB
        refine ⟨fun h1 => (by rw [hB.1] at h1; cases h1), fun i hi => ?_⟩
        rw [hB.1] at hi
        have hik : i = t := by simpa using hi
        subst hik
        have hw : wpOp P ops Q' i (wpList P ops Q' l') a w := by unfold wpOp; simp only [h0]; exact h
        exact wpOp_mono (fun a' w' h' => wpAny_of_seqT ts l' _ a' w' hts hB.2 h') hw
structure HI (md : Region.Mode) (ops : Array Oper) (ts : List Nat) (listed : Array Bool) : Prop where
  size : listed.size = ops.size
  closed : ∀ j oj, ops[j]? = some oj → listed.getD j false = true → ∀ e ∈ oj.after, Region.binds md e = true → listed.getD e.on false = true
  tail : ∀ t ∈ ts, listed.getD t true = false
theorem HI.set {i : Nat} {listed : Array Bool} (inv : HI md ops ts listed) (hi : i ∈ Region.ready md ops listed) (hin : i ∉ ts) : HI md ops ts (listed.setIfInBounds i true) := by
  obtain ⟨_, oi, hoi, hall⟩ := mem_ready.1 hi
  refine ⟨by simp [inv.size], fun j oj hj hl e he hb => ?_, fun t ht => by rw [getD_set_ne true (by rintro rfl; exact hin ht)]; exact inv.tail t ht⟩
  by_cases hij : i = j
  · subst hij
    have : oj = oi := Option.some.inj (hj.symm.trans hoi)
    subst this
    exact getD_set_true (hall e he hb)
  · rw [getD_set_ne false hij] at hl
    exact getD_set_true (inv.closed j oj hj hl e he hb)
def sinkT (md : Region.Mode) (ops : Array Oper) (l0 : Array Bool) (ts : List Nat) (t0 : Nat) : Bool :=
  (List.range ops.size).all fun i => l0.getD i true || ts.contains i || (List.range ops.size).any fun j => Region.waitsFor md ops j i && (Nat.beq j t0 || (decide (i < j) && !(l0.getD j false) && !(ts.contains j)))
def chainT (md : Region.Mode) (ops : Array Oper) : List Nat → Bool
  | t :: t' :: ts => Region.waitsFor md ops t' t && chainT md ops (t' :: ts)
  | _ => true
theorem chainT_spec {t0 : Nat} : ∀ {ts : List Nat}, chainT md ops (t0 :: ts) = true → ∀ t ∈ ts, ∃ s ∈ t0 :: ts, Region.waitsFor md ops t s = true
  | [], _, t, ht => by cases ht
  | t' :: ts, h, t, ht => by
    simp only [chainT, Bool.and_eq_true] at h
    rcases List.mem_cons.1 ht with rfl | ht
    · exact ⟨t0, by simp, h.1⟩
    · obtain ⟨s, hs, hw⟩ := chainT_spec h.2 t ht
      exact ⟨s, List.mem_cons_of_mem _ hs, hw⟩
theorem tail_waitsT {t0 : Nat} {ts' : List Nat} {l0 listed : Array Bool} (hts : ts = t0 :: ts') (hl : ∀ i, listed.getD i true = false → l0.getD i true = false) (hs : sinkT md ops l0 ts t0 = true) (hc : chainT md ops ts = true) (inv : HI md ops ts listed) :
    ∀ (d i : Nat), ops.size - i = d → i < ops.size → i ∉ ts → listed.getD i true = false → ∀ t ∈ ts, t ∉ Region.ready md ops listed := by
  have later : ∀ t ∈ ts', t ∉ Region.ready md ops listed := fun t ht hr => by
    subst hts
    obtain ⟨s, hs, hw⟩ := chainT_spec hc t ht
    obtain ⟨_, ot, hot, hall⟩ := mem_ready.1 hr
    obtain ⟨o', ho', e, he, hb, hon⟩ := Region.waitsFor_spec hw
    have : o' = ot := Option.some.inj (ho'.symm.trans hot)
    subst this
    have h2 := hall e he hb
    rw [hon, getD_both (inv.tail s hs)] at h2
    cases h2
  intro d
  induction d using Nat.strongRecOn with
  | _ d ih =>
    intro i hd hi hin hun t ht hr
    have h1 := List.all_eq_true.1 hs i (List.mem_range.2 hi)
    rw [hl i hun, Bool.false_or] at h1
    rw [show ts.contains i = false by simpa using hin, Bool.false_or] at h1
    obtain ⟨j, hj, hj2⟩ := List.any_eq_true.1 h1
    rw [Bool.and_eq_true, Bool.or_eq_true] at hj2
    obtain ⟨hjw, hj2⟩ := hj2
    obtain ⟨oj, hoj, e, he, hb, hon⟩ := Region.waitsFor_spec hjw
    have ht0 : t = t0 := by
      rw [hts] at ht
      rcases List.mem_cons.1 ht with h | h
      · exact h
      · exact absurd hr (later t h)
    rcases hj2 with hj2 | hj2
    · rw [Nat.beq_eq] at hj2
      subst hj2 ht0
      obtain ⟨_, ot, hot, hall⟩ := mem_ready.1 hr
      have : oj = ot := Option.some.inj (hoj.symm.trans hot)
      subst this
      have h2 := hall e he hb
      rw [hon, getD_both hun] at h2
      cases h2
    · simp only [Bool.and_eq_true, decide_eq_true_eq] at hj2
      obtain ⟨⟨hij, _⟩, hjt⟩ := hj2
      have hjt' : j ∉ ts := by simpa using hjt
      have hjs := List.mem_range.1 hj
      cases hlj : listed.getD j false with
      | true =>
        have h2 := inv.closed j oj hoj hlj e he hb
        rw [hon, getD_both hun] at h2
        cases h2
      | false =>
        exact ih (ops.size - j) (by omega) j rfl hjs hjt' (getD_in (by rw [inv.size]; exact hjs) hlj) t ht hr
def wpAnyH (P : Program) (md : Region.Mode) (ops : Array Oper) (w : World) (ts : List Nat) (L : Array Bool → Act → Prop) : Nat → Array Bool → Act → Prop
  | 0, listed, a => L listed a
  | f + 1, listed, a => Region.ready md ops listed ≠ [] ∧ ∀ i ∈ Region.ready md ops listed, i ∉ ts ∧ stOp P ops w i (wpAnyH P md ops w ts L f (listed.setIfInBounds i true)) a
theorem wpAny_of_headH {g : Nat} {L : Array Bool → Act → Prop} {Q' : Exit → Act → World → Prop} (hL : ∀ listed a, L listed a → wpAny P md ops Q' g listed a w) :
    ∀ (f : Nat) (listed : Array Bool) (a : Act), wpAnyH P md ops w ts L f listed a → wpAny P md ops Q' (f + g) listed a w
  | 0, listed, a, h => by rw [Nat.zero_add]; exact hL _ _ h
  | f + 1, listed, a, h => by
    rw [show f + 1 + g = (f + g) + 1 by omega]
    exact ⟨fun h0 => absurd h0 h.1, fun i hi => wpOp_of_stOp (fun a' h' => wpAny_of_headH hL f _ a' h') (h.2 i hi).2⟩
theorem wpAnyH_first {i t0 : Nat} {ts' : List Nat} {oi : Oper} {v : Value} {l0 : Array Bool} {L : Array Bool → Act → Prop} (hi : ops[i]? = some oi) (hsel : ∀ (j : Nat) (o : Oper) cs b, ops[j]? = some o → o.op ≠ .select cs b)
    (hts : ts = t0 :: ts') (hs : sinkT md ops l0 ts t0 = true) (hc : chainT md ops ts = true) (hin : i ∉ ts)
    (hdone : ∀ listed a, L listed a → ∀ j ∈ Region.ready md ops listed, j ∈ ts) :
    ∀ (f : Nat) (listed : Array Bool) (a : Act), (∀ i, listed.getD i true = false → l0.getD i true = false) → HI md ops ts listed →
      (∀ j oj, ops[j]? = some oj → j ≠ i → listed.getD j true = false → (∀ e ∈ oj.after, Region.binds md e = true → e.on ≠ i) → oi.apart ops oj = true) →
      i ∈ Region.ready md ops listed → YieldsAt P ops w oi v a →
      wpAnyH P md ops w ts L f (listed.setIfInBounds i true) (a.put oi.dst v) → wpAnyH P md ops w ts L (f + 1) listed a := by
  intro f
  induction f with
  | zero =>
    intro listed a hl inv _ hr hy H
    have hun := (mem_ready.1 hr).1
    refine ⟨fun h => (by rw [h] at hr; cases hr), fun j hj => ?_⟩
    have hi' := (Array.getElem?_eq_some_iff.1 hi).1
    have hjn : j ∉ ts := fun h => tail_waitsT hts hl hs hc inv _ i rfl hi' hin hun j h hj
    refine ⟨hjn, ?_⟩
    by_cases hji : j = i
    · subst hji; exact hy.stOp hi H
    · exact absurd (hdone _ _ H j (ready_mono hj hji)) hjn
  | succ f ih =>
    intro listed a hl inv hfree hr hy H
    have hun := (mem_ready.1 hr).1
    refine ⟨fun h => (by rw [h] at hr; cases hr), fun j hj => ?_⟩
    have hi' := (Array.getElem?_eq_some_iff.1 hi).1
    have hjn : j ∉ ts := fun h => tail_waitsT hts hl hs hc inv _ i rfl hi' hin hun j h hj
    refine ⟨hjn, ?_⟩
    by_cases hji : j = i
    · subst hji; exact hy.stOp hi H
    · have h1 := (H.2 j (ready_mono hj hji)).2
      obtain ⟨hjun, oj, hoj, hall⟩ := mem_ready.1 hj
      have hnot : ∀ e ∈ oj.after, Region.binds md e = true → e.on ≠ i := fun e he hb heq => by
        have h1 := hall e he hb
        rw [heq, getD_both hun] at h1
        cases h1
      have h2 := stOp_put hoj (hfree j oj hoj hji hjun hnot) (fun cs b => hsel i oi cs b hi) (fun cs b => hsel j oj cs b hoj) hy h1
      have hfree' : ∀ k ok, ops[k]? = some ok → k ≠ i → (listed.setIfInBounds j true).getD k true = false →
          (∀ e ∈ ok.after, Region.binds md e = true → e.on ≠ i) → oi.apart ops ok = true := fun k ok hk hki hun hno => by
        refine hfree k ok hk hki ?_ hno
        by_cases hjk : j = k
        · subst hjk; exact hjun
        · rw [getD_set_ne true hjk] at hun; exact hun
      have hl' : ∀ k, (listed.setIfInBounds j true).getD k true = false → l0.getD k true = false := fun k hk => by
        by_cases hjk : j = k
        · subst hjk; exact hl j hjun
        · rw [getD_set_ne true hjk] at hk; exact hl k hk
      refine stOp_mono (fun a' h3 => ih (listed.setIfInBounds j true) a' hl' (inv.set hj hjn) hfree' (ready_mono hr (Ne.symm hji)) h3.1 ?_) h2
      rw [Array.setIfInBounds_comm _ _ hji]
      exact h3.2
theorem seqT_ready {t0 : Nat} {ts' : List Nat} {listed : Array Bool} (hts : ts = t0 :: ts') (h : seqT md ops ts listed = true) : ∀ j ∈ Region.ready md ops listed, j ∈ ts := by
  subst hts
  simp only [seqT, Bool.and_eq_true, decide_eq_true_eq] at h
  intro j hj
  rw [h.1] at hj
  simp at hj
  simp [hj]
/-- The looking ones, in the order of ks; then the tail. -/
def lexH (md : Region.Mode) (ops : Array Oper) (ts : List Nat) : List Nat → Array Bool → Bool
  | [], listed => seqT md ops ts listed
  | k :: ks, listed => !(ts.contains k) && (Region.ready md ops listed).contains k && Region.free md ops listed k && lexH md ops ts ks (listed.setIfInBounds k true)
theorem wpAnyH_lex {t0 : Nat} {ts' : List Nat} {l0 : Array Bool} {Lq : Act → Prop} (hsel : Region.noSelect ops = true) (hts : ts = t0 :: ts') (hs : sinkT md ops l0 ts t0 = true) (hc : chainT md ops ts = true) :
    ∀ (ks : List Nat) (l : List Oper) (listed : Array Bool) (a : Act), ks.mapM (fun k => ops[k]?) = some l → (∀ i, listed.getD i true = false → l0.getD i true = false) → HI md ops ts listed →
    lexH md ops ts ks listed = true → wpStill P ops w Lq l a →
    wpAnyH P md ops w ts (fun listed' a' => seqT md ops ts listed' = true ∧ Lq a') ks.length listed a
  | [], l, listed, a, hk, hl, inv, hB, h => by
    simp at hk
    subst hk
    exact ⟨hB, h⟩
  | k :: ks, l, listed, a, hk, hl, inv, hB, h => by
    rw [List.mapM_cons] at hk
    cases h0 : ops[k]? with
    | none => rw [h0] at hk; simp at hk
    | some o =>
      rw [h0] at hk
      cases hks : ks.mapM (fun k => ops[k]?) with
      | none => rw [hks] at hk; simp at hk
      | some l' =>
        rw [hks] at hk
        simp at hk
        subst hk
        simp only [lexH, Bool.and_eq_true] at hB
        obtain ⟨⟨⟨hkn, hr⟩, hf⟩, hB'⟩ := hB
        have hr' : k ∈ Region.ready md ops listed := by simpa using hr
        have hkn' : k ∉ ts := by simpa using hkn
        have hst : stOp P ops w k (wpStill P ops w Lq l') a := by unfold stOp; simp only [h0]; exact h
        obtain ⟨v, hy, hK⟩ := yieldsAt_of_stOp h0 hst
        have hl' : ∀ i, (listed.setIfInBounds k true).getD i true = false → l0.getD i true = false := fun i hi => by
          by_cases hjk : k = i
          · subst hjk; exact hl k (mem_ready.1 hr').1
          · rw [getD_set_ne true hjk] at hi; exact hl i hi
        exact wpAnyH_first h0 (Region.noSelect_spec hsel) hts hs hc hkn' (fun listed' a' hL => seqT_ready hts hL.1) ks.length listed a hl inv (Region.free_spec h0 hf) hr' hy
          (wpAnyH_lex hsel hts hs hc ks l' _ _ hks hl' (inv.set hr' hkn') hB' hK)
/-- Copies out of slots: of operations that read nothing that is written here. -/
def preT (md : Region.Mode) (ops : Array Oper) (ts : List Nat) : List Nat → Array Bool → Option (Array Bool)
  | [], listed => some listed
  | k :: ks, listed => match ops[k]? with
    | some ⟨some _, .move _, _, _, _, none⟩ => bif !(ts.contains k) && (Region.ready md ops listed).contains k && Region.free md ops listed k then preT md ops ts ks (listed.setIfInBounds k true) else none
    | _ => none
theorem pre_takeT {Q' : Exit → Act → World → Prop} (hsel : Region.noSelect ops = true) (hQ : ∀ c a w, ¬ Q' (.panic c) a w) {N : Nat} {D : List Deferred} (hN : ops.all (fun o => o.dst.all fun d => Nat.blt d N) = true) : ∀ (ks : List Nat) (listed l1 : Array Bool) (E E' : Env) (a : Act) (f : Nat), Ok N E D a → preT md ops ts ks listed = some l1 → preE ops ks E = some E' → HI md ops ts listed →
    (∀ a', Ok N E' D a' → HI md ops ts l1 → wpAny P md ops Q' f l1 a' w) → wpAny P md ops Q' (ks.length + f) listed a w
  | [], listed, l1, E, E', a, f, ha, hb, he, inv, h => by
    simp only [preT, Option.some.injEq] at hb
    simp only [preE, Option.some.injEq] at he
    subst hb he
    rw [List.length_nil, Nat.zero_add]
    exact h a ha inv
  | k :: ks, listed, l1, E, E', a, f, ha, hb, he, inv, h => by
    simp only [preT] at hb
    simp only [preE] at he
    split at hb
    · rename_i d x ty pos af hk
      rw [hk] at he
      simp only [] at he
      split at he
      · rename_i v hv
        cases hcond : (!(ts.contains k) && (Region.ready md ops listed).contains k && Region.free md ops listed k) with
        | false => rw [hcond] at hb; cases hb
        | true =>
          rw [hcond] at hb
          simp only [cond_true] at hb
          simp only [Bool.and_eq_true] at hcond
          obtain ⟨⟨hkn, hr⟩, hf⟩ := hcond
          have hr' : k ∈ Region.ready md ops listed := by simpa using hr
          have hd : Nat.blt d N = true := by
            have hm := Array.all_eq_true.1 hN k (Array.getElem?_eq_some_iff.1 hk).1
            rw [Array.getElem?_eq_getElem (Array.getElem?_eq_some_iff.1 hk).1] at hk
            rw [Option.some.inj hk] at hm
            simpa using hm
          rw [List.length_cons, show ks.length + 1 + f = (ks.length + f) + 1 by omega]
          refine wpAny_take (v := v) hk hsel hf hr (fun c a w h => (hQ c _ _ h).elim) (.inl ⟨rfl, fun w => by simp [execOp, ha.fit.op hv]⟩) ?_
          exact pre_takeT hsel hQ hN ks _ l1 _ E' _ f (ha.put hd) hb he (inv.set hr' (by simpa using hkn)) h
      · cases he
    · cases hb
end
section
variable {c : Cx} {Q : Post} {E E' : Env} {D : List Deferred} {H : List Res}
def drawT (ops : Array Oper) (N : Nat) (ps ks ts : List Nat) (t0 : Nat) : Bool :=
  Region.noSelect ops && ops.all (fun o => o.dst.all fun d => Nat.blt d N) && Nat.beq (ps.length + ks.length + ts.length) ops.size && ts.all (fun t => Nat.blt t ops.size) && chainT .any ops ts &&
    match preT .any ops ts ps (Array.replicate ops.size false) with
    | some l1 => sinkT .any ops l1 ts t0 && lexH .any ops ts ks l1
    | none => false
theorem wDrawT (hF : c.F = Fence.wide) (hm : c.P.follows .mixedOrders = true) {id : Nat} {l hd tl : List Oper} (ps ks : List Nat) (t0 : Nat) (ts : List Nat) (hB : drawT l.toArray c.N ps ks (t0 :: ts) t0 = true) (hE : preE l.toArray ps E = some E') (hk : ks.mapM (fun k => l[k]?) = some hd) (htl : (t0 :: ts).mapM (fun k => l[k]?) = some tl)
    (h : ∀ w0, O (Md.head c l.toArray w0 tl Q) hd E' D H) : W c (.region id l.toArray true) Q E D H := by
  intro a w ha hw
  rw [hF]
  refine wpIn_wide.2 ?_
  refine wp_region_any hm ?_
  simp only [drawT, Bool.and_eq_true, Nat.beq_eq] at hB
  obtain ⟨⟨⟨⟨⟨hsel, hN⟩, hlen⟩, htr⟩, hc⟩, hB⟩ := hB
  split at hB
  · rename_i l1 hl1
    simp only [Bool.and_eq_true] at hB
    obtain ⟨hs, hlex⟩ := hB
    have inv0 : HI .any l.toArray (t0 :: ts) (Array.replicate l.toArray.size false) :=
      ⟨by simp, fun j oj _ hl => (by rw [getD_replicate_false] at hl; cases hl), fun t ht => getD_in (by have := List.all_eq_true.1 htr t ht; simpa [Nat.blt_eq] using this) (getD_replicate_false _ _)⟩
    have htot : l.toArray.size = ps.length + (ks.length + (t0 :: ts).length) := by omega
    have hgo : wpAny c.P .any l.toArray (lift c Q) (ps.length + (ks.length + (t0 :: ts).length)) (Array.replicate l.toArray.size false) a w.drew := by
      refine pre_takeT (D := D) hsel (fun c a w ⟨E, D, H, h1, h2, h3, h4⟩ => h4) hN ps _ l1 E E' a (ks.length + (t0 :: ts).length) ha hl1 hE inv0 (fun a' ha' inv1 => ?_)
      have hks : ks.mapM (fun k => l.toArray[k]?) = some hd := by simpa using hk
      have htl' : (t0 :: ts).mapM (fun k => l.toArray[k]?) = some tl := by simpa using htl
      have H1 := wpAnyH_lex (md := .any) (w := w.drew) (Lq := fun a' => wpList c.P l.toArray (lift c Q) tl a' w.drew) hsel rfl hs hc ks hd l1 a' hks (fun i hi => hi) inv1 hlex (h w.drew a' w.drew ha' hw.drew rfl)
      exact wpAny_of_headH (Q' := lift c Q) (g := (t0 :: ts).length) (fun listed a' hL => wpAny_of_seqT _ tl listed a' w.drew htl' hL.1 hL.2) _ _ _ H1
    rw [htot]
    rw [← htot] at hgo ⊢
    exact hgo
  · cases hB
end
end Go.Proofs.YtnidmlngkpkmlaaK
