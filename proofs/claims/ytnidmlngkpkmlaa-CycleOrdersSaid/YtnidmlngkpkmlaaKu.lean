/-
  Draws once more: turns of the world that may be calls.
-/
import Derived.Test.YtnidmlngkpkmlaaKy
namespace Go.Proofs.YtnidmlngkpkmlaaK
set_option linter.unusedVariables false
set_option linter.unusedSimpArgs false
open Go.RowKit
def rnC (P : Program) (ops : Array Oper) (K : Act → World → Prop) : List Oper → Act → World → Prop
  | [], a, w => K a w
  | o :: rest, a, w => if Region.wanted o (yielded ops a.tmps) then ((∃ v w', (execOp a.eval o).run P w = .ok (.value v) w' ∧ rnC P ops K rest (a.put o.dst v) w') ∨ (∃ w', (execOp a.eval o).run P w = .ok .skip w' ∧ rnC P ops K rest (a.put o.dst undef) w') ∨
      (∃ g args w1, (execOp a.eval o).run P w = .ok (.enter g args) w1 ∧ CallsIn Fence.wide 0 P g args w1 (fun e w2 => ∃ v, e = .returned v ∧ rnC P ops K rest (a.put o.dst v) w2))) else rnC P ops K rest (a.put o.dst undef) w
section
variable {c : Cx} {Q : Post} {E E' : Env} {D : List Deferred} {H : List Res} {ops : Array Oper} {w0 : World}
def Me.rnC (c : Cx) (ops : Array Oper) (K : Act → World → Prop) : Me c where
  X := Go.Proofs.YtnidmlngkpkmlaaK.rnC c.P ops K
  ops := ops
  calm o rest a w v hw hp hr hK := by
    simp only [Go.Proofs.YtnidmlngkpkmlaaK.rnC, hw, if_true]
    exact .inl ⟨_, _, hr, hK⟩
  skip o rest a w hw hK := by simp only [Go.Proofs.YtnidmlngkpkmlaaK.rnC, hw]; exact hK
  want dst op ty pos af g rest a w hw h := by
    simp only [Go.Proofs.YtnidmlngkpkmlaaK.rnC] at h ⊢
    rw [if_pos hw]
    rw [if_pos (show Region.wanted { dst := dst, op := op, type := ty, pos := pos, after := af, guard := none } (yielded ops a.tmps) = true from rfl)] at h
    exact h
  eff o rest a w v w' hw hp hr hK := by
    simp only [Go.Proofs.YtnidmlngkpkmlaaK.rnC, hw, if_true]
    exact .inl ⟨_, _, hr, hK⟩
  effs o rest a w w' hw hp hr hK := by
    simp only [Go.Proofs.YtnidmlngkpkmlaaK.rnC, hw, if_true]
    exact .inr (.inl ⟨_, hr, hK⟩)
  enter o rest a w g args w1 hw hp hr hK := by
    simp only [Go.Proofs.YtnidmlngkpkmlaaK.rnC, hw, if_true]
    exact .inr (.inr ⟨_, _, _, hr, hK⟩)
def segC (c : Cx) (ops : Array Oper) (Q : Post) (tl : List Oper) : List (Nat × List Nat) → Act → World → Prop
  | [], a, w => wpListIn c.F 0 c.P ops (lift c Q) tl a w
  | (e, res) :: segs, a, w => ∃ o, ops[e]? = some o ∧ rnC c.P ops (fun a' w' => (∀ i ∈ res, lkA c.P ops a' w' w' i) ∧ segC c ops Q tl segs a' w') [o] a w
theorem oLkSegC {tl : List Oper} {segs : List (Nat × List Nat)} (h : O (Me.rnC c ops (segC c ops Q tl segs)).toMd [] E D H) : O (Md.lk c ops w0 (fun a => segC c ops Q tl segs a w0)) [] E D H := by
  rintro a w ha hw rfl
  exact h a w ha hw
theorem oSegC {tl : List Oper} {e : Nat} {res : List Nat} {segs : List (Nat × List Nat)} {o : Oper} (he : ops[e]? = some o) (h : O (Me.rnC c ops (fun a' w' => (∀ i ∈ res, lkA c.P ops a' w' w' i) ∧ segC c ops Q tl segs a' w')).toMd [o] E D H) : O (Me.rnC c ops (segC c ops Q tl ((e, res) :: segs))).toMd [] E D H :=
  fun a w ha hw => ⟨o, he, h a w ha hw⟩
theorem oAgainC {tl : List Oper} {res : List Nat} {segs : List (Nat × List Nat)} (hre : Again c ops E D H res) (h : O (Me.rnC c ops (segC c ops Q tl segs)).toMd [] E D H) : O (Me.rnC c ops (fun a' w' => (∀ i ∈ res, lkA c.P ops a' w' w' i) ∧ segC c ops Q tl segs a' w')).toMd [] E D H :=
  fun a w ha hw => ⟨hre a w ha hw, h a w ha hw⟩
theorem oTailC {tl : List Oper} (h : O (Me.list c ops Q).toMd tl E D H) : O (Me.rnC c ops (segC c ops Q tl [])).toMd [] E D H := fun a w ha hw => h a w ha hw
theorem lk_canC {N : Nat} {K : Act → Prop} (hs : Region.noSelect ops = true) {w : World} : ∀ (ks : List Nat) (hd : List Oper) (done : List Nat) (a : Act), ks.mapM (fun k => ops[k]?) = some hd → orderB ops N [] ks = true → a.tmps.size = N → (∀ i ∈ done, lkA c.P ops a w w i) → (∀ i ∈ done, ∀ j ∈ ks, keepI ops i j = true) →
      lkX c.P ops w K hd a →
      ∃ A, A.tmps.size = N ∧ A.defers = a.defers ∧ (∀ t, (∀ j ∈ ks, ∀ o, ops[j]? = some o → o.dst ≠ some t) → A.tmps.getD t undef = a.tmps.getD t undef) ∧ (∀ i ∈ done ++ ks, lkA c.P ops A w w i) ∧ K A
  | [], hd, done, a, hk, hB, hN, hdn, hkp, h => by
    simp at hk; subst hk
    exact ⟨a, hN, rfl, fun _ _ => rfl, by simpa using hdn, h⟩
  | k :: ks, hd, done, a, hk, hB, hN, hdn, hkp, h => by
    rw [List.mapM_cons] at hk
    simp only [orderB, Bool.and_eq_true] at hB
    obtain ⟨⟨⟨h1, h2⟩, h3⟩, h4⟩ := hB
    obtain ⟨o, d, ho, hd', hv, hg, hdN, hself⟩ := opB_spec h1
    rw [ho] at hk
    cases hks : ks.mapM (fun k => ops[k]?) with
    | none => rw [hks] at hk; simp at hk
    | some l' =>
      rw [hks] at hk
      simp at hk
      subst hk
      simp only [lkX] at h
      rw [if_pos (show Region.wanted o (yielded ops a.tmps) = true by unfold Region.wanted; rw [hg])] at h
      obtain ⟨n, hr, hkk⟩ := h
      obtain ⟨v, rfl⟩ := val_run hv hr
      obtain ⟨A, hA1, hA2, hA3, hA4, hA5⟩ := lk_canC hs ks l' (done ++ [k]) (a.put o.dst v) hks h4 (by rw [hd']; simpa [Act.put] using hN)
        (fun i hi => by
          rcases List.mem_append.1 hi with hi | hi
          · exact lk_keep (hkp i hi k List.mem_cons_self) ho hs (hdn i hi)
          · obtain rfl := List.mem_singleton.1 hi
            exact lk_self (a := a) ho hd' hself hs (by omega) hr)
        (fun i hi => by
          rcases List.mem_append.1 hi with hi | hi
          · exact fun j hj => hkp i hi j (List.mem_cons_of_mem _ hj)
          · obtain rfl := List.mem_singleton.1 hi
            exact fun j hj => List.all_eq_true.1 h2 j hj)
        (hkk v rfl)
      refine ⟨A, hA1, by rw [hA2, hd']; rfl, fun t ht1 => ?_, by rw [List.append_assoc] at hA4; exact hA4, hA5⟩
      rw [hA3 t (fun j hj => ht1 j (List.mem_cons_of_mem _ hj))]
      have hne : d ≠ t := by rintro rfl; exact ht1 k List.mem_cons_self o ho hd'
      rw [hd']
      simp only [Act.put, Array.getD_eq_getD_getElem?, Array.getElem?_setIfInBounds, if_neg hne]
variable {ts : List Nat} {listed : Array Bool} {f : Nat}
theorem inv_turn (hB : statB ops ts f = true) {A a : Act} (inv : Inv ops ts A listed a) {i d : Nat} {o : Oper} {v : Value} (ho : ops[i]? = some o) (hit : i ∉ ts) (hr : i ∈ Region.ready .any ops listed) (hd : o.dst = some d) (hdl : d < A.tmps.size) : Inv ops ts (A.put o.dst v) (listed.setIfInBounds i true) (a.put o.dst v) := by
  obtain ⟨_, _, h3, _⟩ := stat_op hB ho hit
  rw [hd]
  refine ⟨inv.hi.set hr hit, by simp [Act.put, inv.size], inv.dfr, fun j o' d' ho' hjt hd' hl => ?_, fun t ht => ?_⟩
  · by_cases hji : j = i
    · subst hji
      have : o' = o := Option.some.inj (ho'.symm.trans ho)
      subst this
      have : d' = d := Option.some.inj (hd'.symm.trans hd)
      subst this
      simp [Act.put, inv.size, hdl]
    · rw [getD_set_ne false (Ne.symm hji)] at hl
      have hne : d ≠ d' := by rintro rfl; exact h3 j o' ho' hjt hji (hd'.trans hd.symm)
      have := inv.v1 j o' d' ho' hjt hd' hl
      simp only [Act.put, Array.getD_eq_getD_getElem?, Array.getElem?_setIfInBounds, if_neg hne] at this ⊢
      exact this
  · have hne : d ≠ t := by rintro rfl; exact ht i o ho hit hd
    have := inv.v2 t ht
    simp only [Act.put, Array.getD_eq_getD_getElem?, Array.getElem?_setIfInBounds, if_neg hne] at this ⊢
    exact this
theorem step_turn (hB : statB ops ts f = true) {A a : Act} (inv : Inv ops ts A listed a) {Q' : Exit → Act → World → Prop} {i : Nat} {o : Oper} (ho : ops[i]? = some o) (hit : i ∉ ts) (hr : i ∈ Region.ready .any ops listed) {w : World} {K K' : Act → World → Prop} (h : rnC c.P ops K [o] A w) (hK : ∀ v w', K (A.put o.dst v) w' → K' (a.put o.dst v) w') : wpOpIn c.F 0 c.P ops Q' i K' a w := by
  have hpl : plainB ops = true := by simp only [statB, Bool.and_eq_true] at hB; exact hB.1.1.1.1
  have hg := (stat_op hB ho hit).1
  simp only [rnC] at h
  rw [if_pos (show Region.wanted o (yielded ops A.tmps) = true by unfold Region.wanted; rw [hg])] at h
  unfold wpOpIn
  simp only [ho]
  rw [if_pos (show Region.wanted o (yielded ops a.tmps) = true by unfold Region.wanted; rw [hg])]
  refine ⟨fun g _ => c.fn g, ?_⟩
  rw [semAt_plain' _ _ _ (plain_at hpl ho), inv_exec hB inv ho hit hr]
  rcases h with ⟨v, w', h1, h2⟩ | ⟨w', h1, h2⟩ | ⟨g, args, w1, h1, h2⟩
  · rw [h1]; exact hK _ _ h2
  · rw [h1]; exact hK _ _ h2
  · rw [h1]
    refine ⟨fun h => (by rw [c.dp] at h; cases h), c.call (h2.mono ?_)⟩
    rintro e w2 ⟨v, rfl, h3⟩
    exact hK _ _ h3
theorem phasesOf_e : ∀ (ls : List Nat) (segs : List (Nat × List Nat)), (phasesOf ls segs).1.map (·.2) = segs.map (·.1)
  | ls, [] => rfl
  | ls, (e, res) :: segs => by
    show e :: (phasesOf res segs).1.map (·.2) = e :: segs.map (·.1)
    rw [phasesOf_e res segs]
theorem phasesC (hB : statB ops ts f = true) {tl : List Oper} (htl : ts.mapM (fun t => ops[t]?) = some tl) (hseq : seqT .any ops ts (doneL ops ts) = true) {M : Nat} (hdl : ∀ (i : Nat) (o : Oper) (d : Nat), ops[i]? = some o → o.dst = some d → d < M) :
    ∀ (n : Nat) (segs : List (Nat × List Nat)) (ls es : List Nat) (listed : Array Bool) (A a : Act) (w : World), cnt ops ts listed = n → A.tmps.size = M → Inv ops ts A listed a → (∀ i ∈ ls, lkA c.P ops A w w i) → segC c ops Q tl segs A w → phB ops ts f es (phasesOf ls segs).1 (phasesOf ls segs).2 = true →
      (∀ e ∈ es, listed.getD e false = true) → (∀ s ∈ segs, s.1 < ops.size ∧ listed.getD s.1 true = false) → (segs.map (·.1)).Nodup → wpAnyIn c.F 0 c.P .any ops (lift c Q) (n + ts.length) listed a w := by
  have hB' := hB
  simp only [statB, Bool.and_eq_true] at hB'
  intro n
  induction n with
  | zero =>
    intro segs ls es listed A a w hc hM inv hl hcan hph hes hsegs hnd
    have hlist : ∀ i, i < ops.size → i ∉ ts → listed.getD i true = true := fun i hi hit => by
      cases hv : listed.getD i true with
      | true => rfl
      | false =>
        have hm : i ∈ (List.range ops.size).filter fun i => !(ts.contains i) && !(listed.getD i true) := List.mem_filter.2 ⟨List.mem_range.2 hi, by simp [hit, hv]⟩
        unfold cnt at hc
        rw [List.eq_nil_of_length_eq_zero hc] at hm
        cases hm
    cases segs with
    | cons s segs =>
      obtain ⟨e, res⟩ := s
      simp only [phasesOf, phB, Bool.and_eq_true] at hph
      have h1 := hsegs (e, res) List.mem_cons_self
      have h2 := hlist e h1.1 (by have := hph.1.1.1; simpa using this)
      rw [h1.2] at h2; cases h2
    | nil =>
      have hL : listed = doneL ops ts := by
        apply Array.ext
        · rw [inv.hi.size]; simp [doneL]
        · intro i h1 h2
          have hi : i < ops.size := by rw [← inv.hi.size]; exact h1
          have e1 : listed[i] = listed.getD i true := by simp [h1]
          rw [e1]
          simp only [doneL, List.getElem_toArray, List.getElem_map, List.getElem_range]
          by_cases hit : i ∈ ts
          · rw [inv.hi.tail i hit]; simp [hit]
          · rw [hlist i hi hit]; simp [hit]
      have hA : a = A := by
        obtain ⟨at_, ad⟩ := a
        obtain ⟨At, Ad⟩ := A
        have h1 := inv.dfr
        simp only at h1
        subst h1
        congr 1
        apply Array.ext
        · exact inv.size
        · intro t h1 h2
          have key : at_.getD t undef = At.getD t undef := by
            by_cases h : ∃ j o', ops[j]? = some o' ∧ j ∉ ts ∧ o'.dst = some t
            · obtain ⟨j, o', ho', hjt, hd⟩ := h
              exact inv.v1 j o' t ho' hjt hd (by
                have hj := (Array.getElem?_eq_some_iff.1 ho').1
                have := hlist j hj hjt
                simp [inv.hi.size, hj] at this ⊢
                exact this)
            · exact inv.v2 t (fun j o' ho' hjt hd => h ⟨j, o', ho', hjt, hd⟩)
          simpa [h1, h2] using key
      subst hA
      rw [Nat.zero_add]
      exact wpAnyIn_of_seqT ts tl listed a w htl (by rw [hL]; exact hseq) hcan
  | succ n ih =>
    intro segs ls es listed A a w hc hM inv hl hcan hph hes hsegs hnd
    have hdl' : ∀ (i : Nat) (o : Oper) (d : Nat), ops[i]? = some o → o.dst = some d → d < A.tmps.size := fun i o d h1 h2 => hM ▸ hdl i o d h1 h2
    rw [show n + 1 + ts.length = (n + ts.length) + 1 by omega]
    have hne : Region.ready .any ops listed ≠ [] := by
      have hex : ∃ i, i < ops.size ∧ listed.getD i true = false := by
        apply Classical.byContradiction
        intro h
        have : (List.range ops.size).filter (fun i => !(ts.contains i) && !(listed.getD i true)) = [] := List.filter_eq_nil_iff.2 (fun i hi => by
          have := List.mem_range.1 hi
          cases hv : listed.getD i true with
          | true => simp
          | false => exact absurd ⟨i, this, hv⟩ h)
        unfold cnt at hc
        rw [this] at hc
        cases hc
      have hmin : ∀ n i, i < n → i < ops.size → listed.getD i true = false → Region.ready .any ops listed ≠ [] := by
        intro n
        induction n with
        | zero => intro i hi; omega
        | succ n ihn =>
          intro i hin hi hun
          by_cases hlow : ∃ k, k < i ∧ listed.getD k true = false
          · obtain ⟨k, hk, hku⟩ := hlow
            exact ihn k (by omega) (by omega) hku
          · intro hr
            have : i ∈ Region.ready .any ops listed := mem_ready.2 ⟨hun, ops[i], Array.getElem?_eq_getElem hi, fun e he hb => by
              have h1 := List.all_eq_true.1 hB'.1.2 i (List.mem_range.2 hi)
              rw [Array.getElem?_eq_getElem hi] at h1
              simp only [Bool.and_eq_true] at h1
              have h2 := Array.all_eq_true'.1 h1.1 e he
              rw [hb] at h2
              have h3 : e.on < i := by simpa [Nat.blt_eq] using h2
              have h4 : listed.getD e.on true ≠ false := fun h => hlow ⟨e.on, h3, h⟩
              have h5 : e.on < listed.size := by rw [inv.hi.size]; omega
              simp [h5] at h4 ⊢
              exact h4⟩
            rw [hr] at this; cases this
      obtain ⟨i, hi, hun⟩ := hex
      exact hmin (i + 1) i (by omega) hi hun
    refine ⟨fun h => absurd h hne, fun i hir => ?_⟩
    obtain ⟨hun, oi, hoi, _⟩ := mem_ready.1 hir
    have hi := (Array.getElem?_eq_some_iff.1 hoi).1
    have hit : i ∉ ts := fun h => by
      have h1 := List.all_eq_true.1 hB'.2 i h
      have hz : cnt ops ts listed = 0 := by
        unfold cnt
        rw [List.length_eq_zero_iff, List.filter_eq_nil_iff]
        intro k hk
        have h2 := List.all_eq_true.1 h1 k hk
        rw [Bool.or_eq_true] at h2
        rcases h2 with h2 | h2
        · simp only [h2]; simp
        · have h3 := waitsP_ready inv.hi.closed hir h2
          have : listed.getD k true = true := by
            have hk' := List.mem_range.1 hk
            simp [inv.hi.size, hk'] at h3 ⊢; exact h3
          rw [this]; simp
      omega
    have hc' : cnt ops ts (listed.setIfInBounds i true) = n := by have := cnt_set hi inv.hi.size hit hun; omega
    have hes' : ∀ es' : List Nat, (∀ e ∈ es', listed.getD e false = true) → ∀ e ∈ es', (listed.setIfInBounds i true).getD e false = true := fun es' h e he => getD_set_true (h e he)
    have nolist : ¬ listed.getD i false = true := fun h => by rw [getD_both hun] at h; cases h
    have byes : es.any (fun e' => Nat.beq e' i || waitsP .any ops f e' i) = true → False := fun h => by
      obtain ⟨e', he', h⟩ := List.any_eq_true.1 h
      simp only [Bool.or_eq_true, Nat.beq_eq] at h
      rcases h with rfl | h
      · exact nolist (hes _ he')
      · exact nolist (waitsP_listed inv.hi.closed f e' i (hes _ he') h)
    cases segs with
    | nil =>
      have h1 := List.all_eq_true.1 hph i (List.mem_range.2 hi)
      simp only [Bool.or_eq_true] at h1
      rcases h1 with (h1 | h1) | h1
      · exact absurd (by simpa using h1) hit
      · exact step_val hB c.fn inv hit hir hdl' (hl i (by simpa [phasesOf] using h1)) (fun a' inv' => ih [] ls es _ A a' w hc' hM inv' hl hcan hph (hes' es hes) (by simp) (by simp))
      · exact (byes h1).elim
    | cons s segs =>
      obtain ⟨e, res⟩ := s
      have hph0 := hph
      simp only [phasesOf, phB, Bool.and_eq_true] at hph
      have hse := hsegs (e, res) List.mem_cons_self
      obtain ⟨hnd1, hnd2⟩ := List.nodup_cons.1 hnd
      by_cases hie : i = e
      · subst hie
        obtain ⟨o, ho, hrn⟩ := hcan
        obtain ⟨_, ⟨d, hd⟩, _⟩ := stat_op hB ho hit
        refine step_turn hB inv ho hit hir hrn (fun v w' hk => ih segs res (i :: es) _ (A.put o.dst v) _ w' hc' (by rw [hd]; simpa [Act.put] using hM) (inv_turn hB inv ho hit hir hd (hdl' i o d ho hd)) hk.1 hk.2 hph.2 (fun e he => ?_) (fun s hs => ?_) hnd2)
        · rcases List.mem_cons.1 he with rfl | he
          · simp [inv.hi.size, hi]
          · exact getD_set_true (hes e he)
        · have := hsegs s (List.mem_cons_of_mem _ hs)
          refine ⟨this.1, ?_⟩
          rw [getD_set_ne true (by rintro rfl; exact hnd1 (List.mem_map.2 ⟨s, hs, rfl⟩))]
          exact this.2
      · have h1 := List.all_eq_true.1 hph.1.1.2 i (List.mem_range.2 hi)
        simp only [Bool.or_eq_true, Nat.beq_eq] at h1
        rcases h1 with (((h1 | h1) | h1) | h1) | h1
        · exact absurd (by simpa using h1) hit
        · refine step_val hB c.fn inv hit hir hdl' (hl i (by simpa using h1)) (fun a' inv' => ih ((e, res) :: segs) ls es _ A a' w hc' hM inv' hl hcan hph0 (hes' es hes) (fun s hs => ?_) hnd)
          have := hsegs s hs
          refine ⟨this.1, ?_⟩
          rcases List.mem_cons.1 hs with rfl | hs
          · rw [getD_set_ne true hie]; exact this.2
          · by_cases hsi : i = s.1
            · have hm : s.1 ∈ (phasesOf res segs).1.map (·.2) := by rw [phasesOf_e]; exact List.mem_map.2 ⟨s, hs, rfl⟩
              obtain ⟨q, hq, hqe⟩ := List.mem_map.1 hm
              have h5 := List.all_eq_true.1 (List.all_eq_true.1 hph.1.2 i (by simpa using h1)) q hq
              rw [hsi, hqe] at h5
              simp at h5
            · rw [getD_set_ne true hsi]; exact this.2
        · exact absurd h1.symm hie
        · exact (byes h1).elim
        · have := waitsP_ready inv.hi.closed hir h1
          rw [getD_both hse.2] at this; cases this
def drawC (ops : Array Oper) (N : Nat) (ks : List Nat) (segs : List (Nat × List Nat)) (ts : List Nat) (f : Nat) : Bool :=
  statB ops ts f && orderB ops N [] ks && phB ops ts f [] (phasesOf ks segs).1 (phasesOf ks segs).2 && seqT .any ops ts (doneL ops ts) && ops.all (fun o => o.dst.all fun d => Nat.blt d N) &&
    ks.all (fun k => !(ts.contains k)) && segs.all (fun s => !(ts.contains s.1) && Nat.blt s.1 ops.size) && decide ((segs.map (·.1)).Nodup) && Nat.beq (cnt ops ts (Array.replicate ops.size false) + ts.length) ops.size
theorem wDrawC (hm : c.P.follows .mixedOrders = true) {id : Nat} {l hd tl : List Oper} (ks : List Nat) (segs : List (Nat × List Nat)) (ts : List Nat) (f : Nat) (hB : drawC l.toArray c.N ks segs ts f = true) (hk : ks.mapM (fun k => l[k]?) = some hd) (htl : ts.mapM (fun k => l[k]?) = some tl)
    (h : ∀ w0, O (Md.lk c l.toArray w0 (fun a => segC c l.toArray Q tl segs a w0)) hd E D H) : W c (.region id l.toArray true) Q E D H := by
  intro a w ha hw
  refine wpIn_region_any hm ?_
  simp only [drawC, Bool.and_eq_true, decide_eq_true_eq, Nat.beq_eq] at hB
  obtain ⟨⟨⟨⟨⟨⟨⟨⟨hst, hor⟩, hph⟩, hseq⟩, hN⟩, hkt⟩, hsg⟩, hnd⟩, hcnt⟩ := hB
  have hst' := hst
  simp only [statB, Bool.and_eq_true] at hst'
  have hsel : Region.noSelect l.toArray = true := hst'.1.1.1.2
  have htr := hst'.1.1.2
  have hks : ks.mapM (fun k => l.toArray[k]?) = some hd := by simpa using hk
  have htl' : ts.mapM (fun k => l.toArray[k]?) = some tl := by simpa using htl
  obtain ⟨A, hA1, hA2, hA3, hA4, hA5⟩ := lk_canC (c := c) hsel ks hd [] a hks hor ha.size (by simp) (by simp) (h w.drew a w.drew ha hw.drew rfl)
  rw [List.nil_append] at hA4
  have hdl : ∀ (i : Nat) (o : Oper) (d : Nat), l.toArray[i]? = some o → o.dst = some d → d < c.N := fun i o d ho hd => by
    obtain ⟨hi, he⟩ := Array.getElem?_eq_some_iff.1 ho
    have h1 := Array.all_eq_true.1 hN i hi
    rw [he, hd] at h1
    simpa [Nat.blt_eq] using h1
  have inv : Inv l.toArray ts A (Array.replicate l.toArray.size false) a := by
    refine ⟨⟨by simp, fun j oj _ hl => (by rw [getD_replicate_false] at hl; cases hl), fun t ht => getD_in (by have := List.all_eq_true.1 htr t ht; simpa [Nat.blt_eq] using this) (getD_replicate_false _ _)⟩, by rw [hA1, ha.size], hA2.symm, fun i o d ho hit hd hl => (by rw [getD_replicate_false] at hl; cases hl), fun t ht => (hA3 t (fun j hj o ho hd => ?_)).symm⟩
    have := List.all_eq_true.1 hkt j hj
    exact ht j o ho (by simpa using this) hd
  have hgo := phasesC (c := c) (Q := Q) hst htl' hseq hdl _ segs ks [] (Array.replicate l.toArray.size false) A a w.drew rfl hA1 inv hA4 hA5 hph (by simp) (fun s hs => by
    have h2 := List.all_eq_true.1 hsg s hs
    simp only [Bool.and_eq_true, Nat.blt_eq] at h2
    exact ⟨h2.2, getD_in (by simpa using h2.2) (getD_replicate_false _ _)⟩) hnd
  rw [hcnt] at hgo
  exact hgo
end
end Go.Proofs.YtnidmlngkpkmlaaK
