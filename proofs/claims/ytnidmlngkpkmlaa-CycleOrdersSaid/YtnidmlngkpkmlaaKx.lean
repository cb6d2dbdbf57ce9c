/-
  A region that draws its order, once more: what looks, at any time that the waits leave open; what turns the world (by a value), in its order; then the tail. What may look late is looked at again behind each turn.
-/
import Derived.Test.YtnidmlngkpkmlaaKw
namespace Go.Proofs.YtnidmlngkpkmlaaK
set_option linter.unusedVariables false
set_option linter.unusedSimpArgs false
open Go.RowKit
section
variable {F : Fence} {m : Nat} {P : Program} {ops : Array Oper} {md : Region.Mode} {ts : List Nat} {listed : Array Bool}
/-! ### waits -/
def waitsP (md : Region.Mode) (ops : Array Oper) : Nat → Nat → Nat → Bool
  | 0, j, i => Region.waitsFor md ops j i
  | f + 1, j, i => Region.waitsFor md ops j i || (List.range ops.size).any fun k => Region.waitsFor md ops j k && waitsP md ops f k i
abbrev Clo (md : Region.Mode) (ops : Array Oper) (listed : Array Bool) : Prop := ∀ j oj, ops[j]? = some oj → listed.getD j false = true → ∀ e ∈ oj.after, Region.binds md e = true → listed.getD e.on false = true
theorem waitsP_listed (cl : Clo md ops listed) : ∀ (f j i : Nat), listed.getD j false = true → waitsP md ops f j i = true → listed.getD i false = true := by
  have one : ∀ j i, listed.getD j false = true → Region.waitsFor md ops j i = true → listed.getD i false = true := fun j i hj h => by
    obtain ⟨oj, hoj, e, he, hb, rfl⟩ := Region.waitsFor_spec h
    exact cl j oj hoj hj e he hb
  intro f
  induction f with
  | zero => exact one
  | succ f ih =>
    intro j i hj h
    simp only [waitsP, Bool.or_eq_true] at h
    rcases h with h | h
    · exact one j i hj h
    · obtain ⟨k, _, hk⟩ := List.any_eq_true.1 h
      simp only [Bool.and_eq_true] at hk
      exact ih k i (one j k hj hk.1) hk.2
theorem waitsP_ready (cl : Clo md ops listed) {f j i : Nat} (hj : j ∈ Region.ready md ops listed) (h : waitsP md ops f j i = true) : listed.getD i false = true := by
  obtain ⟨_, oj, hoj, hall⟩ := mem_ready.1 hj
  have one : ∀ i, Region.waitsFor md ops j i = true → listed.getD i false = true := fun i h => by
    obtain ⟨o', ho', e, he, hb, rfl⟩ := Region.waitsFor_spec h
    have : o' = oj := Option.some.inj (ho'.symm.trans hoj)
    subst this
    exact hall e he hb
  cases f with
  | zero => exact one i h
  | succ f =>
    simp only [waitsP, Bool.or_eq_true] at h
    rcases h with h | h
    · exact one i h
    · obtain ⟨k, _, hk⟩ := List.any_eq_true.1 h
      simp only [Bool.and_eq_true] at hk
      exact waitsP_listed cl f k i (one k hk.1) hk.2
/-! ### what the operations give, told of the last state of the slots -/
def lkA (P : Program) (ops : Array Oper) (A : Act) (w w' : World) (i : Nat) : Prop := ∃ o d, ops[i]? = some o ∧ o.dst = some d ∧ (execOp A.eval o).run P w = .ok (.value (A.tmps.getD d undef)) w'
def canS (P : Program) (ops : Array Oper) (A : Act) (T : World → Prop) : List (List Nat × Nat) → List Nat → World → Prop
  | [], last, w => (∀ i ∈ last, lkA P ops A w w i) ∧ T w
  | (ls, e) :: segs, last, w => (∀ i ∈ ls, lkA P ops A w w i) ∧ ∃ w', lkA P ops A w w' e ∧ canS P ops A T segs last w'
def opTmps (o : Oper) : List Nat := o.op.operands.toList.filterMap fun | .tmp t => some t | _ => none
/-- What must hold of the region's text. -/
def statB (ops : Array Oper) (ts : List Nat) (f : Nat) : Bool :=
  plainB ops && Region.noSelect ops && ts.all (fun t => Nat.blt t ops.size) && (List.range ops.size).all (fun i => match ops[i]? with
    | some o => o.after.all (fun e => !(Region.binds .any e) || Nat.blt e.on i) && (ts.contains i || (o.guard.isNone && o.dst.isSome && (List.range ops.size).all (fun j => match ops[j]? with
        | some o' => ts.contains j || ((Nat.beq i j || o'.dst != o.dst) && (opTmps o).all (fun t => o'.dst != some t || waitsP .any ops f i j))
        | none => true)))
    | none => true) && ts.all (fun t => (List.range ops.size).all fun i => ts.contains i || waitsP .any ops f t i)
def phB (ops : Array Oper) (ts : List Nat) (f : Nat) : List Nat → List (List Nat × Nat) → List Nat → Bool
  | es, [], last => (List.range ops.size).all fun i => ts.contains i || last.contains i || es.any (fun e => Nat.beq e i || waitsP .any ops f e i)
  | es, (ls, e) :: segs, last => !(ts.contains e) && ((List.range ops.size).all fun i => ts.contains i || ls.contains i || Nat.beq e i || es.any (fun e' => Nat.beq e' i || waitsP .any ops f e' i) || waitsP .any ops f i e) && (ls.all fun i => segs.all fun s => !(Nat.beq i s.2)) && phB ops ts f (e :: es) segs last
variable {f : Nat}
structure Inv (ops : Array Oper) (ts : List Nat) (A : Act) (listed : Array Bool) (a : Act) : Prop where
  hi : HI .any ops ts listed
  size : a.tmps.size = A.tmps.size
  dfr : a.defers = A.defers
  v1 : ∀ i o d, ops[i]? = some o → i ∉ ts → o.dst = some d → listed.getD i false = true → a.tmps.getD d undef = A.tmps.getD d undef
  v2 : ∀ t, (∀ i o, ops[i]? = some o → i ∉ ts → o.dst ≠ some t) → a.tmps.getD t undef = A.tmps.getD t undef
def cnt (ops : Array Oper) (ts : List Nat) (listed : Array Bool) : Nat := ((List.range ops.size).filter fun i => !(ts.contains i) && !(listed.getD i true)).length
theorem filter_one {l : List Nat} {p q : Nat → Bool} {i : Nat} (hn : l.Nodup) (hi : i ∈ l) (hp : p i = true) (hq : q i = false) (h : ∀ j, j ≠ i → p j = q j) : (l.filter q).length + 1 = (l.filter p).length := by
  induction l with
  | nil => cases hi
  | cons x l ih =>
    obtain ⟨hx, hn⟩ := List.nodup_cons.1 hn
    rw [List.filter_cons, List.filter_cons]
    by_cases e : x = i
    · subst e
      rw [hp, hq]
      have : l.filter q = l.filter p := List.filter_congr (fun j hj => (h j (by rintro rfl; exact hx hj)).symm)
      simp [this]
    · rw [h x e]
      have := ih hn (by rcases List.mem_cons.1 hi with h | h; exact absurd h.symm e; exact h)
      cases q x <;> simp_all
theorem cnt_set {i : Nat} (hi : i < ops.size) (hs : listed.size = ops.size) (hit : i ∉ ts) (hun : listed.getD i true = false) : cnt ops ts (listed.setIfInBounds i true) + 1 = cnt ops ts listed := by
  unfold cnt
  refine filter_one List.nodup_range (List.mem_range.2 hi) (i := i) ?_ ?_ (fun j hj => ?_)
  · simp [hit, hun]
  · have : (listed.setIfInBounds i true).getD i true = true := by simp [hs, hi]
    simp [this]
  · rw [getD_set_ne true (Ne.symm hj)]
theorem stat_op (hB : statB ops ts f = true) {i : Nat} {o : Oper} (ho : ops[i]? = some o) (hit : i ∉ ts) : o.guard = none ∧ (∃ d, o.dst = some d) ∧ (∀ j o', ops[j]? = some o' → j ∉ ts → j ≠ i → o'.dst ≠ o.dst) ∧ (∀ t ∈ opTmps o, ∀ j o', ops[j]? = some o' → j ∉ ts → o'.dst = some t → waitsP .any ops f i j = true) := by
  simp only [statB, Bool.and_eq_true] at hB
  have hi := (Array.getElem?_eq_some_iff.1 ho).1
  have h1 := List.all_eq_true.1 hB.1.2 i (List.mem_range.2 hi)
  rw [ho] at h1
  simp only [Bool.and_eq_true, Bool.or_eq_true, Option.isNone_iff_eq_none, Option.isSome_iff_exists] at h1
  rcases h1.2 with h2 | ⟨⟨h2, h3⟩, h4⟩
  · exact absurd (by simpa using h2) hit
  · refine ⟨h2, h3, fun j o' ho' hjt hji => ?_, fun t ht j o' ho' hjt hd => ?_⟩
    · have hj := (Array.getElem?_eq_some_iff.1 ho').1
      have h5 := List.all_eq_true.1 h4 j (List.mem_range.2 hj)
      rw [ho'] at h5
      simp only [Bool.or_eq_true, Bool.and_eq_true, Nat.beq_eq, bne_iff_ne, ne_eq] at h5
      rcases h5 with h5 | ⟨h5, _⟩
      · exact absurd (by simpa using h5) hjt
      · rcases h5 with h5 | h5
        · exact absurd h5.symm hji
        · exact h5
    · have hj := (Array.getElem?_eq_some_iff.1 ho').1
      have h5 := List.all_eq_true.1 h4 j (List.mem_range.2 hj)
      rw [ho'] at h5
      simp only [Bool.or_eq_true, Bool.and_eq_true] at h5
      rcases h5 with h5 | ⟨_, h5⟩
      · exact absurd (by simpa using h5) hjt
      · have h6 := List.all_eq_true.1 h5 t ht
        simp only [Bool.or_eq_true, bne_iff_ne, ne_eq] at h6
        rcases h6 with h6 | h6
        · exact absurd hd h6
        · exact h6
theorem inv_exec (hB : statB ops ts f = true) {A a : Act} (inv : Inv ops ts A listed a) {i : Nat} {o : Oper} (ho : ops[i]? = some o) (hit : i ∉ ts) (hr : i ∈ Region.ready .any ops listed) : execOp a.eval o = execOp A.eval o := by
  obtain ⟨_, _, _, h4⟩ := stat_op hB ho hit
  have hsel : Region.noSelect ops = true := by simp only [statB, Bool.and_eq_true] at hB; exact hB.1.1.1.2
  refine execOp_congr o (fun cs b => Region.noSelect_spec hsel i o cs b ho) (fun x hx => ?_)
  cases x with
  | tmp t =>
    show a.tmps.getD t undef = A.tmps.getD t undef
    have ht : t ∈ opTmps o := List.mem_filterMap.2 ⟨.tmp t, by simpa using hx, rfl⟩
    by_cases h : ∃ j o', ops[j]? = some o' ∧ j ∉ ts ∧ o'.dst = some t
    · obtain ⟨j, o', ho', hjt, hd⟩ := h
      exact inv.v1 j o' t ho' hjt hd (waitsP_ready inv.hi.closed hr (h4 t ht j o' ho' hjt hd))
    · exact inv.v2 t (fun j o' ho' hjt hd => h ⟨j, o', ho', hjt, hd⟩)
  | const v => rfl
  | global g => rfl
  | func g => rfl
theorem inv_put (hB : statB ops ts f = true) {A a : Act} (inv : Inv ops ts A listed a) {i d : Nat} {o : Oper} (ho : ops[i]? = some o) (hit : i ∉ ts) (hr : i ∈ Region.ready .any ops listed) (hd : o.dst = some d) (hdl : d < A.tmps.size) : Inv ops ts A (listed.setIfInBounds i true) (a.put o.dst (A.tmps.getD d undef)) := by
  obtain ⟨_, _, h3, _⟩ := stat_op hB ho hit
  rw [hd]
  refine ⟨inv.hi.set hr hit, by simp [Act.put, inv.size], inv.dfr, fun j o' d' ho' hjt hd' hl => ?_, fun t ht => ?_⟩
  · by_cases hji : j = i
    · subst hji
      have : o' = o := Option.some.inj (ho'.symm.trans ho)
      subst this
      have : d' = d := Option.some.inj (hd'.symm.trans hd)
      subst this
      simp [Act.put, inv.size, hdl]
    · rw [getD_set_ne false (Ne.symm hji)] at hl
      have hne : d ≠ d' := by rintro rfl; exact h3 j o' ho' hjt hji (hd'.trans hd.symm)
      rw [← inv.v1 j o' d' ho' hjt hd' hl]
      simp only [Act.put, Array.getD_eq_getD_getElem?, Array.getElem?_setIfInBounds, if_neg hne]
  · have hne : d ≠ t := by rintro rfl; exact ht i o ho hit hd
    rw [← inv.v2 t ht]
    simp only [Act.put, Array.getD_eq_getD_getElem?, Array.getElem?_setIfInBounds, if_neg hne]
theorem step_val (hB : statB ops ts f = true) (hfn : ∀ g, F.fn g) {A a : Act} (inv : Inv ops ts A listed a) {Q' : Exit → Act → World → Prop} {i : Nat} (hit : i ∉ ts) (hr : i ∈ Region.ready .any ops listed) {w w' : World} (hdl : ∀ (i : Nat) (o : Oper) (d : Nat), ops[i]? = some o → o.dst = some d → d < A.tmps.size) (h : lkA P ops A w w' i) {K : Act → World → Prop}
    (hK : ∀ a', Inv ops ts A (listed.setIfInBounds i true) a' → K a' w') : wpOpIn F m P ops Q' i K a w := by
  obtain ⟨o, d, ho, hd, hrun⟩ := h
  have hpl : plainB ops = true := by simp only [statB, Bool.and_eq_true] at hB; exact hB.1.1.1.1
  unfold wpOpIn
  simp only [ho]
  rw [if_pos (show Region.wanted o (yielded ops a.tmps) = true by unfold Region.wanted; rw [(stat_op hB ho hit).1])]
  refine ⟨fun g _ => hfn g, ?_⟩
  rw [semAt_plain' _ _ _ (plain_at hpl ho), inv_exec hB inv ho hit hr, hrun]
  exact hK _ (inv_put hB inv ho hit hr hd (hdl i o d ho hd))
/-- All that is not in the tail is done. -/
def doneL (ops : Array Oper) (ts : List Nat) : Array Bool := ((List.range ops.size).map fun i => !(ts.contains i)).toArray
theorem phases (hB : statB ops ts f = true) (hfn : ∀ g, F.fn g) {A : Act} {Q' : Exit → Act → World → Prop} {tl : List Oper} (htl : ts.mapM (fun t => ops[t]?) = some tl) (hseq : seqT .any ops ts (doneL ops ts) = true) (hdl : ∀ (i : Nat) (o : Oper) (d : Nat), ops[i]? = some o → o.dst = some d → d < A.tmps.size)
    (hall : ∀ t, t < A.tmps.size → True) :
    ∀ (c : Nat) (segs : List (List Nat × Nat)) (last es : List Nat) (listed : Array Bool) (a : Act) (w : World), cnt ops ts listed = c → Inv ops ts A listed a → canS P ops A (fun w => wpListIn F m P ops Q' tl A w) segs last w → phB ops ts f es segs last = true →
      (∀ e ∈ es, listed.getD e false = true) → (∀ s ∈ segs, s.2 < ops.size ∧ listed.getD s.2 true = false) → (segs.map (·.2)).Nodup → wpAnyIn F m P .any ops Q' (c + ts.length) listed a w := by
  have hB' := hB
  simp only [statB, Bool.and_eq_true] at hB'
  intro c
  induction c with
  | zero =>
    intro segs last es listed a w hc inv hcan hph hes hsegs hnd
    have hlist : ∀ i, i < ops.size → i ∉ ts → listed.getD i true = true := fun i hi hit => by
      cases hv : listed.getD i true with
      | true => rfl
      | false =>
        have hm : i ∈ (List.range ops.size).filter fun i => !(ts.contains i) && !(listed.getD i true) := List.mem_filter.2 ⟨List.mem_range.2 hi, by simp [hit, hv]⟩
        unfold cnt at hc
        rw [List.eq_nil_of_length_eq_zero hc] at hm
        cases hm
    cases segs with
    | cons s segs =>
      obtain ⟨ls, e⟩ := s
      simp only [phB, Bool.and_eq_true] at hph
      have h1 := hsegs (ls, e) List.mem_cons_self
      have h2 := hlist e h1.1 (by have := hph.1.1.1; simpa using this)
      rw [h1.2] at h2; cases h2
    | nil =>
      have hL : listed = doneL ops ts := by
        apply Array.ext
        · rw [inv.hi.size]; simp [doneL]
        · intro i h1 h2
          have hi : i < ops.size := by rw [← inv.hi.size]; exact h1
          have e1 : listed[i] = listed.getD i true := by simp [h1]
          rw [e1]
          simp only [doneL, List.getElem_toArray, List.getElem_map, List.getElem_range]
          by_cases hit : i ∈ ts
          · rw [inv.hi.tail i hit]; simp [hit]
          · rw [hlist i hi hit]; simp [hit]
      have hA : a = A := by
        obtain ⟨at_, ad⟩ := a
        obtain ⟨At, Ad⟩ := A
        have h1 := inv.dfr
        simp only at h1
        subst h1
        congr 1
        apply Array.ext
        · exact inv.size
        · intro t h1 h2
          have key : at_.getD t undef = At.getD t undef := by
            by_cases h : ∃ j o', ops[j]? = some o' ∧ j ∉ ts ∧ o'.dst = some t
            · obtain ⟨j, o', ho', hjt, hd⟩ := h
              exact inv.v1 j o' t ho' hjt hd (by
                have hj := (Array.getElem?_eq_some_iff.1 ho').1
                have := hlist j hj hjt
                simp [inv.hi.size, hj] at this ⊢
                exact this)
            · exact inv.v2 t (fun j o' ho' hjt hd => h ⟨j, o', ho', hjt, hd⟩)
          simpa [h1, h2] using key
      subst hA
      rw [Nat.zero_add]
      exact wpAnyIn_of_seqT ts tl listed a w htl (by rw [hL]; exact hseq) hcan.2
  | succ c ih =>
    intro segs last es listed a w hc inv hcan hph hes hsegs hnd
    rw [show c + 1 + ts.length = (c + ts.length) + 1 by omega]
    have hne : Region.ready .any ops listed ≠ [] := by
      have hex : ∃ i, i < ops.size ∧ listed.getD i true = false := by
        apply Classical.byContradiction
        intro h
        have : (List.range ops.size).filter (fun i => !(ts.contains i) && !(listed.getD i true)) = [] := List.filter_eq_nil_iff.2 (fun i hi => by
          have := List.mem_range.1 hi
          cases hv : listed.getD i true with
          | true => simp
          | false => exact absurd ⟨i, this, hv⟩ h)
        unfold cnt at hc
        rw [this] at hc
        cases hc
      have hmin : ∀ n i, i < n → i < ops.size → listed.getD i true = false → Region.ready .any ops listed ≠ [] := by
        intro n
        induction n with
        | zero => intro i hi; omega
        | succ n ihn =>
          intro i hin hi hun
          by_cases hlow : ∃ k, k < i ∧ listed.getD k true = false
          · obtain ⟨k, hk, hku⟩ := hlow
            exact ihn k (by omega) (by omega) hku
          · intro hr
            have : i ∈ Region.ready .any ops listed := mem_ready.2 ⟨hun, ops[i], Array.getElem?_eq_getElem hi, fun e he hb => by
              have h1 := List.all_eq_true.1 hB'.1.2 i (List.mem_range.2 hi)
              rw [Array.getElem?_eq_getElem hi] at h1
              simp only [Bool.and_eq_true] at h1
              have h2 := Array.all_eq_true'.1 h1.1 e he
              rw [hb] at h2
              have h3 : e.on < i := by simpa [Nat.blt_eq] using h2
              have h4 : listed.getD e.on true ≠ false := fun h => hlow ⟨e.on, h3, h⟩
              have h5 : e.on < listed.size := by rw [inv.hi.size]; omega
              simp [h5] at h4 ⊢
              exact h4⟩
            rw [hr] at this; cases this
      obtain ⟨i, hi, hun⟩ := hex
      exact hmin (i + 1) i (by omega) hi hun
    refine ⟨fun h => absurd h hne, fun i hir => ?_⟩
    obtain ⟨hun, oi, hoi, _⟩ := mem_ready.1 hir
    have hi := (Array.getElem?_eq_some_iff.1 hoi).1
    have hit : i ∉ ts := fun h => by
      have h1 := List.all_eq_true.1 hB'.2 i h
      have hz : cnt ops ts listed = 0 := by
        unfold cnt
        rw [List.length_eq_zero_iff, List.filter_eq_nil_iff]
        intro k hk
        have h2 := List.all_eq_true.1 h1 k hk
        rw [Bool.or_eq_true] at h2
        rcases h2 with h2 | h2
        · simp only [h2]; simp
        · have h3 := waitsP_ready inv.hi.closed hir h2
          have : listed.getD k true = true := by
            have hk' := List.mem_range.1 hk
            simp [inv.hi.size, hk'] at h3 ⊢; exact h3
          rw [this]; simp
      omega
    have hc' : cnt ops ts (listed.setIfInBounds i true) = c := by have := cnt_set hi inv.hi.size hit hun; omega
    have hes' : ∀ es' : List Nat, (∀ e ∈ es', listed.getD e false = true) → ∀ e ∈ es', (listed.setIfInBounds i true).getD e false = true := fun es' h e he => getD_set_true (h e he)
    have nolist : ¬ listed.getD i false = true := fun h => by rw [getD_both hun] at h; cases h
    have byes : es.any (fun e' => Nat.beq e' i || waitsP .any ops f e' i) = true → False := fun h => by
      obtain ⟨e', he', h⟩ := List.any_eq_true.1 h
      simp only [Bool.or_eq_true, Nat.beq_eq] at h
      rcases h with rfl | h
      · exact nolist (hes _ he')
      · exact nolist (waitsP_listed inv.hi.closed f e' i (hes _ he') h)
    cases segs with
    | nil =>
      have h1 := List.all_eq_true.1 hph i (List.mem_range.2 hi)
      simp only [Bool.or_eq_true] at h1
      rcases h1 with (h1 | h1) | h1
      · exact absurd (by simpa using h1) hit
      · exact step_val hB hfn inv hit hir hdl (hcan.1 i (by simpa using h1)) (fun a' inv' => ih [] last es _ a' w hc' inv' hcan hph (hes' es hes) (by simp) (by simp))
      · exact (byes h1).elim
    | cons s segs =>
      obtain ⟨ls, e⟩ := s
      have hph0 := hph
      simp only [phB, Bool.and_eq_true] at hph
      obtain ⟨hl, w', he, hcan'⟩ := hcan
      have hse := hsegs (ls, e) List.mem_cons_self
      obtain ⟨hnd1, hnd2⟩ := List.nodup_cons.1 hnd
      by_cases hie : i = e
      · subst hie
        refine step_val hB hfn inv hit hir hdl he (fun a' inv' => ih segs last (i :: es) _ a' w' hc' inv' hcan' hph.2 (fun e he => ?_) (fun s hs => ?_) hnd2)
        · rcases List.mem_cons.1 he with rfl | he
          · simp [inv.hi.size, hi]
          · exact getD_set_true (hes e he)
        · have := hsegs s (List.mem_cons_of_mem _ hs)
          refine ⟨this.1, ?_⟩
          rw [getD_set_ne true (by rintro rfl; exact hnd1 (List.mem_map.2 ⟨s, hs, rfl⟩))]
          exact this.2
      · have h1 := List.all_eq_true.1 hph.1.1.2 i (List.mem_range.2 hi)
        simp only [Bool.or_eq_true, Nat.beq_eq] at h1
        rcases h1 with (((h1 | h1) | h1) | h1) | h1
        · exact absurd (by simpa using h1) hit
        · refine step_val hB hfn inv hit hir hdl (hl i (by simpa using h1)) (fun a' inv' => ih ((ls, e) :: segs) last es _ a' w hc' inv' ⟨hl, w', he, hcan'⟩ hph0 (hes' es hes) (fun s hs => ?_) hnd)
          have := hsegs s hs
          refine ⟨this.1, ?_⟩
          rcases List.mem_cons.1 hs with rfl | hs
          · rw [getD_set_ne true hie]; exact this.2
          · by_cases hsi : i = s.2
            · have h5 := List.all_eq_true.1 (List.all_eq_true.1 hph.1.2 i (by simpa using h1)) s hs
              rw [hsi] at h5
              simp at h5
            · rw [getD_set_ne true hsi]; exact this.2
        · exact absurd h1.symm hie
        · exact (byes h1).elim
        · have := waitsP_ready inv.hi.closed hir h1
          rw [getD_both hse.2] at this; cases this
end
end Go.Proofs.YtnidmlngkpkmlaaK
