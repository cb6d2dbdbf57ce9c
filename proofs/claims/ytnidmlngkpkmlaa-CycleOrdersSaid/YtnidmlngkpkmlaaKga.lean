/-
  A region that draws its order, in full: what looks (guards too), turns of the world that may be calls, what looks again, what looks anew behind a turn; then the tail.
-/
import Derived.Test.YtnidmlngkpkmlaaKu
namespace Go.Proofs.YtnidmlngkpkmlaaK
set_option linter.unusedVariables false
set_option linter.unusedSimpArgs false
open Go.RowKit
section
variable {c : Cx} {Q : Post} {E E' : Env} {D : List Deferred} {H : List Res} {P : Program} {ops : Array Oper} {a A : Act} {w w' w0 : World}
def lkG (P : Program) (ops : Array Oper) (A : Act) (w : World) (i : Nat) : Prop := ∃ o d, ops[i]? = some o ∧ o.dst = some d ∧ (if Region.wanted o (yielded ops A.tmps) = true then (execOp A.eval o).run P w = .ok (.value (A.tmps.getD d undef)) w else A.tmps.getD d undef = undef)
abbrev Segs := List (Nat × List Nat × List Nat)
def segG (c : Cx) (ops : Array Oper) (Q : Post) (tl : List Oper) : Segs → Act → World → Prop
  | [], a, w => wpListIn c.F 0 c.P ops (lift c Q) tl a w
  | (e, res, nw) :: segs, a, w => ∃ o, ops[e]? = some o ∧ rnC c.P ops (fun a' w' => (∀ i ∈ res, lkG c.P ops a' w' i) ∧ ∃ l, nw.mapM (fun k => ops[k]?) = some l ∧ lkX c.P ops w' (fun a'' => segG c ops Q tl segs a'' w') l a') [o] a w
/-! ### the walk -/
theorem oLkSegG {tl : List Oper} {segs : Segs} (h : O (Me.rnC c ops (segG c ops Q tl segs)).toMd [] E D H) : O (Md.lk c ops w0 (fun a => segG c ops Q tl segs a w0)) [] E D H := by
  rintro a w ha hw rfl
  exact h a w ha hw
theorem oSegG {tl : List Oper} {e : Nat} {res nw : List Nat} {segs : Segs} {o : Oper} (he : ops[e]? = some o) (h : O (Me.rnC c ops (fun a' w' => (∀ i ∈ res, lkG c.P ops a' w' i) ∧ ∃ l, nw.mapM (fun k => ops[k]?) = some l ∧ lkX c.P ops w' (fun a'' => segG c ops Q tl segs a'' w') l a')).toMd [o] E D H) : O (Me.rnC c ops (segG c ops Q tl ((e, res, nw) :: segs))).toMd [] E D H :=
  fun a w ha hw => ⟨o, he, h a w ha hw⟩
/-- .. each looked at again. -/
def AgainG (c : Cx) (ops : Array Oper) (E : Env) (D : List Deferred) (H : List Res) (res : List Nat) : Prop := ∀ a w, Ok c.N E D a → St c.B H w → ∀ i ∈ res, lkG c.P ops a w i
theorem AgainG.nil : AgainG c ops E D H [] := fun _ _ _ _ _ h => by cases h
theorem AgainG.cons {i d : Nat} {v : Value} {res : List Nat} {op : Op} {ty : TypeId} {pos : String} {af : Array Edge} {g : Option (Nat × Bool)} (ho : ops[i]? = some ⟨some d, op, ty, pos, af, g⟩) (hE : E.find d = some v) (hv : isVal op = true) (hN : Nat.blt d c.N = true) (h : ∀ w0, O (Md.lk c ops w0 (fun a => a.tmps.getD d undef = v)) [⟨some d, op, ty, pos, af, g⟩] E D H) (k : AgainG c ops E D H res) : AgainG c ops E D H (i :: res) := by
  intro a w ha hw j hj
  rcases List.mem_cons.1 hj with rfl | hj
  · have h1 := h w a w ha hw rfl
    simp only [lkX] at h1
    have hd : d < a.tmps.size := by rw [ha.size]; simpa [Nat.blt_eq] using hN
    have h3 : ∀ u, (a.put (some d) u).tmps.getD d undef = u := fun u => by simp [Act.put, hd]
    refine ⟨_, d, ho, rfl, ?_⟩
    by_cases hwd : Region.wanted { dst := some d, op := op, type := ty, pos := pos, after := af, guard := g } (yielded ops a.tmps) = true
    · rw [if_pos hwd] at h1 ⊢
      obtain ⟨n, hr, hk⟩ := h1
      obtain ⟨u, rfl⟩ := val_run (o := ⟨some d, op, ty, pos, af, g⟩) hv hr
      have h2 := hk u rfl
      rw [hr, ha.fit d v hE]
      congr 2
      rw [← h3 u]; exact h2
    · rw [if_neg hwd] at h1 ⊢
      rw [ha.fit d v hE, ← h1, h3]
  · exact k a w ha hw j hj
theorem oAgainG {tl : List Oper} {res nw : List Nat} {segs : Segs} {l : List Oper} (hre : AgainG c ops E D H res) (hl : nw.mapM (fun k => ops[k]?) = some l) (h : ∀ w0, O (Md.lk c ops w0 (fun a'' => segG c ops Q tl segs a'' w0)) l E D H) : O (Me.rnC c ops (fun a' w' => (∀ i ∈ res, lkG c.P ops a' w' i) ∧ ∃ l, nw.mapM (fun k => ops[k]?) = some l ∧ lkX c.P ops w' (fun a'' => segG c ops Q tl segs a'' w') l a')).toMd [] E D H :=
  fun a w ha hw => ⟨hre a w ha hw, l, hl, h w a w ha hw rfl⟩
theorem oTailG {tl : List Oper} (h : O (Me.list c ops Q).toMd tl E D H) : O (Md.lk c ops w0 (fun a => segG c ops Q tl [] a w0)) [] E D H := by
  rintro a w ha hw rfl
  exact h a w ha hw
/-! ### what keeps -/
def guardNe (ops : Array Oper) (o : Oper) (d : Nat) : Bool := match o.guard with
  | none => true
  | some g => match ops[g.1]? with
    | some og => og.dst != some d
    | none => true
theorem yielded_put {o : Oper} {d : Nat} {v : Value} (h : guardNe ops o d = true) : Region.wanted o (yielded ops (a.put (some d) v).tmps) = Region.wanted o (yielded ops a.tmps) := by
  unfold Region.wanted
  unfold guardNe at h
  cases hg : o.guard with
  | none => rfl
  | some g =>
    rw [hg] at h
    simp only at h ⊢
    congr 1
    unfold yielded
    cases hog : ops[g.1]? with
    | none => simp
    | some og =>
      rw [hog] at h
      simp only [bne_iff_ne, ne_eq] at h
      simp only [Option.bind_some]
      cases hd : og.dst with
      | none => simp
      | some d' =>
        have hne : d ≠ d' := by rintro rfl; exact h hd
        simp only [Option.bind_some, Act.put, Array.getElem?_setIfInBounds, if_neg hne]
def keepG (ops : Array Oper) (i j : Nat) : Bool := match ops[i]?, ops[j]? with
  | some o, some o' => (match o'.dst with | some d => !((opTmps o).contains d) && o.dst != some d && guardNe ops o d | none => true)
  | _, _ => false
theorem lk_keepG {i j : Nat} {oj : Oper} {v : Value} (hk : keepG ops i j = true) (hj : ops[j]? = some oj) (hs : Region.noSelect ops = true) (h : lkG P ops a w i) : lkG P ops (a.put oj.dst v) w i := by
  obtain ⟨o, d, ho, hd, hr⟩ := h
  unfold keepG at hk
  rw [ho, hj] at hk
  simp only at hk
  cases hdj : oj.dst with
  | none => exact ⟨o, d, ho, hd, hr⟩
  | some dj =>
    rw [hdj] at hk
    simp only [Bool.and_eq_true, bne_iff_ne, ne_eq] at hk
    have hne : dj ≠ d := by rintro rfl; exact hk.1.2 hd
    refine ⟨o, d, ho, hd, ?_⟩
    have e1 : execOp (a.put (some dj) v).eval o = execOp a.eval o := execOp_congr o (fun cs b => Region.noSelect_spec hs i o cs b ho) (fun x hx => Act.eval_put (fun d' hd' hxd => by
      injection hd' with hd'
      subst hd' hxd
      have : dj ∈ opTmps o := List.mem_filterMap.2 ⟨.tmp dj, by simpa using hx, rfl⟩
      have h1 := hk.1.1
      simp [this] at h1))
    have e2 : (a.put (some dj) v).tmps.getD d undef = a.tmps.getD d undef := by simp only [Act.put, Array.getD_eq_getD_getElem?, Array.getElem?_setIfInBounds, if_neg hne]
    rw [e1, e2, yielded_put hk.2]; exact hr
theorem lk_selfG {i d : Nat} {o : Oper} {v : Value} (ho : ops[i]? = some o) (hd : o.dst = some d) (hn : (opTmps o).contains d = false) (hgn : guardNe ops o d = true) (hs : Region.noSelect ops = true) (hl : d < a.tmps.size) (hr : if Region.wanted o (yielded ops a.tmps) = true then (execOp a.eval o).run P w = .ok (.value v) w else v = undef) : lkG P ops (a.put o.dst v) w i := by
  refine ⟨o, d, ho, hd, ?_⟩
  rw [hd]
  have e1 : execOp (a.put (some d) v).eval o = execOp a.eval o := execOp_congr o (fun cs b => Region.noSelect_spec hs i o cs b ho) (fun x hx => Act.eval_put (fun d' hd' hxd => by
    injection hd' with hd'
    subst hd' hxd
    have : d ∈ opTmps o := List.mem_filterMap.2 ⟨.tmp d, by simpa using hx, rfl⟩
    simp [this] at hn))
  have e2 : (a.put (some d) v).tmps.getD d undef = v := by simp [Act.put, hl]
  rw [e1, e2, yielded_put hgn]; exact hr
def opG (ops : Array Oper) (N i : Nat) : Bool := match ops[i]? with
  | some o => isVal o.op && (match o.dst with | some d => Nat.blt d N && !((opTmps o).contains d) && guardNe ops o d | none => false)
  | none => false
theorem opG_spec {N i : Nat} (h : opG ops N i = true) : ∃ (o : Oper) (d : Nat), ops[i]? = some o ∧ o.dst = some d ∧ isVal o.op = true ∧ d < N ∧ (opTmps o).contains d = false ∧ guardNe ops o d = true := by
  unfold opG at h
  split at h
  · rename_i o ho
    simp only [Bool.and_eq_true] at h
    obtain ⟨h1, h3⟩ := h
    split at h3
    · rename_i d hd
      simp only [Bool.and_eq_true, Nat.blt_eq] at h3
      exact ⟨o, d, ho, hd, h1, h3.1.1, by simpa using h3.1.2, h3.2⟩
    · cases h3
  · cases h
def orderG (ops : Array Oper) (N : Nat) : List Nat → Bool
  | k :: ks => opG ops N k && (ks.all fun j => keepG ops k j) && orderG ops N ks
  | [] => true
theorem lk_canG {N : Nat} {K : Act → Prop} (hs : Region.noSelect ops = true) {w : World} : ∀ (ks : List Nat) (hd : List Oper) (done : List Nat) (a : Act), ks.mapM (fun k => ops[k]?) = some hd → orderG ops N ks = true → a.tmps.size = N → (∀ i ∈ done, lkG c.P ops a w i) → (∀ i ∈ done, ∀ j ∈ ks, keepG ops i j = true) →
      lkX c.P ops w K hd a →
      ∃ A, A.tmps.size = N ∧ A.defers = a.defers ∧ (∀ t, (∀ j ∈ ks, ∀ o, ops[j]? = some o → o.dst ≠ some t) → A.tmps.getD t undef = a.tmps.getD t undef) ∧ (∀ i ∈ done ++ ks, lkG c.P ops A w i) ∧ K A
  | [], hd, done, a, hk, hB, hN, hdn, hkp, h => by
    simp at hk; subst hk
    exact ⟨a, hN, rfl, fun _ _ => rfl, by simpa using hdn, h⟩
  | k :: ks, hd, done, a, hk, hB, hN, hdn, hkp, h => by
    rw [List.mapM_cons] at hk
    simp only [orderG, Bool.and_eq_true] at hB
    obtain ⟨⟨h1, h2⟩, h4⟩ := hB
    obtain ⟨o, d, ho, hd', hv, hdN, hself, hgn⟩ := opG_spec h1
    rw [ho] at hk
    cases hks : ks.mapM (fun k => ops[k]?) with
    | none => rw [hks] at hk; simp at hk
    | some l' =>
      rw [hks] at hk
      simp at hk
      subst hk
      have hgo : ∃ v, (if Region.wanted o (yielded ops a.tmps) = true then (execOp a.eval o).run c.P w = .ok (.value v) w else v = undef) ∧ lkX c.P ops w K l' (a.put o.dst v) := by
        simp only [lkX] at h
        by_cases hw : Region.wanted o (yielded ops a.tmps) = true
        · rw [if_pos hw] at h
          obtain ⟨n, hr, hkk⟩ := h
          obtain ⟨v, rfl⟩ := val_run hv hr
          exact ⟨v, by rw [if_pos hw]; exact hr, hkk v rfl⟩
        · rw [if_neg hw] at h
          exact ⟨undef, by rw [if_neg hw], h⟩
      obtain ⟨v, hr, hkk⟩ := hgo
      obtain ⟨A, hA1, hA2, hA3, hA4, hA5⟩ := lk_canG hs ks l' (done ++ [k]) (a.put o.dst v) hks h4 (by rw [hd']; simpa [Act.put] using hN)
        (fun i hi => by
          rcases List.mem_append.1 hi with hi | hi
          · exact lk_keepG (hkp i hi k List.mem_cons_self) ho hs (hdn i hi)
          · obtain rfl := List.mem_singleton.1 hi
            exact lk_selfG (a := a) ho hd' hself hgn hs (by omega) hr)
        (fun i hi => by
          rcases List.mem_append.1 hi with hi | hi
          · exact fun j hj => hkp i hi j (List.mem_cons_of_mem _ hj)
          · obtain rfl := List.mem_singleton.1 hi
            exact fun j hj => List.all_eq_true.1 h2 j hj)
        hkk
      refine ⟨A, hA1, by rw [hA2, hd']; rfl, fun t ht1 => ?_, by rw [List.append_assoc] at hA4; exact hA4, hA5⟩
      rw [hA3 t (fun j hj => ht1 j (List.mem_cons_of_mem _ hj))]
      have hne : d ≠ t := by rintro rfl; exact ht1 k List.mem_cons_self o ho hd'
      rw [hd']
      simp only [Act.put, Array.getD_eq_getD_getElem?, Array.getElem?_setIfInBounds, if_neg hne]
/-! ### the region's text -/
variable {ts : List Nat} {listed : Array Bool} {f : Nat}
def statG (ops : Array Oper) (ts : List Nat) (f : Nat) : Bool :=
  plainB ops && Region.noSelect ops && ts.all (fun t => Nat.blt t ops.size) && (List.range ops.size).all (fun i => match ops[i]? with
    | some o => o.after.all (fun e => !(Region.binds .any e) || Nat.blt e.on i) && (ts.contains i || ((match o.guard with | none => true | some g => !(ts.contains g.1) && waitsP .any ops f i g.1) && o.dst.isSome && (List.range ops.size).all (fun j => match ops[j]? with
        | some o' => ts.contains j || ((Nat.beq i j || o'.dst != o.dst) && (opTmps o).all (fun t => o'.dst != some t || waitsP .any ops f i j))
        | none => true)))
    | none => true) && ts.all (fun t => (List.range ops.size).all fun i => ts.contains i || waitsP .any ops f t i)
theorem stat_opG (hB : statG ops ts f = true) {i : Nat} {o : Oper} (ho : ops[i]? = some o) (hit : i ∉ ts) : (∀ g, o.guard = some g → g.1 ∉ ts ∧ waitsP .any ops f i g.1 = true) ∧ (∃ d, o.dst = some d) ∧ (∀ j o', ops[j]? = some o' → j ∉ ts → j ≠ i → o'.dst ≠ o.dst) ∧ (∀ t ∈ opTmps o, ∀ j o', ops[j]? = some o' → j ∉ ts → o'.dst = some t → waitsP .any ops f i j = true) := by
  simp only [statG, Bool.and_eq_true] at hB
  have hi := (Array.getElem?_eq_some_iff.1 ho).1
  have h1 := List.all_eq_true.1 hB.1.2 i (List.mem_range.2 hi)
  rw [ho] at h1
  simp only [Bool.and_eq_true, Bool.or_eq_true, Option.isSome_iff_exists] at h1
  rcases h1.2 with h2 | ⟨⟨h2, h3⟩, h4⟩
  · exact absurd (by simpa using h2) hit
  · refine ⟨fun g hg => ?_, h3, fun j o' ho' hjt hji => ?_, fun t ht j o' ho' hjt hd => ?_⟩
    · rw [hg] at h2
      simp only [Bool.and_eq_true] at h2
      exact ⟨by simpa using h2.1, h2.2⟩
    · have hj := (Array.getElem?_eq_some_iff.1 ho').1
      have h5 := List.all_eq_true.1 h4 j (List.mem_range.2 hj)
      rw [ho'] at h5
      simp only [Bool.or_eq_true, Bool.and_eq_true, Nat.beq_eq, bne_iff_ne, ne_eq] at h5
      rcases h5 with h5 | ⟨h5, _⟩
      · exact absurd (by simpa using h5) hjt
      · rcases h5 with h5 | h5
        · exact absurd h5.symm hji
        · exact h5
    · have hj := (Array.getElem?_eq_some_iff.1 ho').1
      have h5 := List.all_eq_true.1 h4 j (List.mem_range.2 hj)
      rw [ho'] at h5
      simp only [Bool.or_eq_true, Bool.and_eq_true] at h5
      rcases h5 with h5 | ⟨_, h5⟩
      · exact absurd (by simpa using h5) hjt
      · have h6 := List.all_eq_true.1 h5 t ht
        simp only [Bool.or_eq_true, bne_iff_ne, ne_eq] at h6
        rcases h6 with h6 | h6
        · exact absurd hd h6
        · exact h6
theorem inv_execG (hB : statG ops ts f = true) {A a : Act} (inv : Inv ops ts A listed a) {i : Nat} {o : Oper} (ho : ops[i]? = some o) (hit : i ∉ ts) (hr : i ∈ Region.ready .any ops listed) : execOp a.eval o = execOp A.eval o := by
  obtain ⟨_, _, _, h4⟩ := stat_opG hB ho hit
  have hsel : Region.noSelect ops = true := by simp only [statG, Bool.and_eq_true] at hB; exact hB.1.1.1.2
  refine execOp_congr o (fun cs b => Region.noSelect_spec hsel i o cs b ho) (fun x hx => ?_)
  cases x with
  | tmp t =>
    show a.tmps.getD t undef = A.tmps.getD t undef
    have ht : t ∈ opTmps o := List.mem_filterMap.2 ⟨.tmp t, by simpa using hx, rfl⟩
    by_cases h : ∃ j o', ops[j]? = some o' ∧ j ∉ ts ∧ o'.dst = some t
    · obtain ⟨j, o', ho', hjt, hd⟩ := h
      exact inv.v1 j o' t ho' hjt hd (waitsP_ready inv.hi.closed hr (h4 t ht j o' ho' hjt hd))
    · exact inv.v2 t (fun j o' ho' hjt hd => h ⟨j, o', ho', hjt, hd⟩)
  | const v => rfl
  | global g => rfl
  | func g => rfl
theorem get_eq {x y : Array Value} (hs : x.size = y.size) (d : Nat) (h : x.getD d undef = y.getD d undef) : x[d]? = y[d]? := by
  by_cases hl : d < x.size
  · have hl' : d < y.size := by omega
    rw [Array.getElem?_eq_getElem hl, Array.getElem?_eq_getElem hl']
    simp only [Array.getD_eq_getD_getElem?, Array.getElem?_eq_getElem hl, Array.getElem?_eq_getElem hl', Option.getD_some] at h
    rw [h]
  · rw [Array.getElem?_eq_none (by omega), Array.getElem?_eq_none (by omega)]
theorem put_same {x : Array Value} {d : Nat} (h : d < x.size) : x.setIfInBounds d (x.getD d undef) = x := by
  apply Array.ext_getElem?
  intro k
  rw [Array.getElem?_setIfInBounds]
  split
  · rename_i e; subst e
    simp [h]
  · rfl
theorem inv_wanted (hB : statG ops ts f = true) {A a : Act} (inv : Inv ops ts A listed a) {i : Nat} {o : Oper} (ho : ops[i]? = some o) (hit : i ∉ ts) (hr : i ∈ Region.ready .any ops listed) : Region.wanted o (yielded ops a.tmps) = Region.wanted o (yielded ops A.tmps) := by
  obtain ⟨h1, _, _, _⟩ := stat_opG hB ho hit
  unfold Region.wanted
  cases hg : o.guard with
  | none => rfl
  | some g =>
    obtain ⟨h2, h3⟩ := h1 g hg
    simp only
    congr 1
    unfold yielded
    cases hog : ops[g.1]? with
    | none => rfl
    | some og =>
      simp only [Option.bind_some]
      cases hd : og.dst with
      | none => rfl
      | some d =>
        have := inv.v1 g.1 og d hog h2 hd (waitsP_ready inv.hi.closed hr h3)
        simp only [Option.bind_some]
        rw [get_eq inv.size d this]
theorem inv_turnG (hB : statG ops ts f = true) {A a : Act} (inv : Inv ops ts A listed a) {i d : Nat} {o : Oper} {v : Value} (ho : ops[i]? = some o) (hit : i ∉ ts) (hr : i ∈ Region.ready .any ops listed) (hd : o.dst = some d) (hdl : d < A.tmps.size) : Inv ops ts (A.put o.dst v) (listed.setIfInBounds i true) (a.put o.dst v) := by
  obtain ⟨_, _, h3, _⟩ := stat_opG hB ho hit
  rw [hd]
  refine ⟨inv.hi.set hr hit, by simp [Act.put, inv.size], inv.dfr, fun j o' d' ho' hjt hd' hl => ?_, fun t ht => ?_⟩
  · by_cases hji : j = i
    · subst hji
      have : o' = o := Option.some.inj (ho'.symm.trans ho)
      subst this
      have : d' = d := Option.some.inj (hd'.symm.trans hd)
      subst this
      simp [Act.put, inv.size, hdl]
    · rw [getD_set_ne false (Ne.symm hji)] at hl
      have hne : d ≠ d' := by rintro rfl; exact h3 j o' ho' hjt hji (hd'.trans hd.symm)
      have := inv.v1 j o' d' ho' hjt hd' hl
      simp only [Act.put, Array.getD_eq_getD_getElem?, Array.getElem?_setIfInBounds, if_neg hne] at this ⊢
      exact this
  · have hne : d ≠ t := by rintro rfl; exact ht i o ho hit hd
    have := inv.v2 t ht
    simp only [Act.put, Array.getD_eq_getD_getElem?, Array.getElem?_setIfInBounds, if_neg hne] at this ⊢
    exact this
theorem inv_putG (hB : statG ops ts f = true) {A a : Act} (inv : Inv ops ts A listed a) {i d : Nat} {o : Oper} (ho : ops[i]? = some o) (hit : i ∉ ts) (hr : i ∈ Region.ready .any ops listed) (hd : o.dst = some d) (hdl : d < A.tmps.size) : Inv ops ts A (listed.setIfInBounds i true) (a.put o.dst (A.tmps.getD d undef)) := by
  have h := inv_turnG (v := A.tmps.getD d undef) hB inv ho hit hr hd hdl
  have e : A.put o.dst (A.tmps.getD d undef) = A := by
    rw [hd]
    obtain ⟨At, Ad⟩ := A
    show Act.mk _ _ = _
    congr 1
    exact put_same hdl
  rw [e] at h
  exact h
theorem step_valG (hB : statG ops ts f = true) {A a : Act} (inv : Inv ops ts A listed a) {Q' : Exit → Act → World → Prop} {i : Nat} (hit : i ∉ ts) (hr : i ∈ Region.ready .any ops listed) {w : World} (hdl : ∀ (i : Nat) (o : Oper) (d : Nat), ops[i]? = some o → o.dst = some d → d < A.tmps.size) (h : lkG c.P ops A w i) {K : Act → World → Prop}
    (hK : ∀ a', Inv ops ts A (listed.setIfInBounds i true) a' → K a' w) : wpOpIn c.F 0 c.P ops Q' i K a w := by
  obtain ⟨o, d, ho, hd, hrun⟩ := h
  have hpl : plainB ops = true := by simp only [statG, Bool.and_eq_true] at hB; exact hB.1.1.1.1
  unfold wpOpIn
  simp only [ho]
  have hp := inv_putG hB inv ho hit hr hd (hdl i o d ho hd)
  rw [inv_wanted hB inv ho hit hr]
  by_cases hwd : Region.wanted o (yielded ops A.tmps) = true
  · rw [if_pos hwd] at hrun ⊢
    refine ⟨fun g _ => c.fn g, ?_⟩
    rw [semAt_plain' _ _ _ (plain_at hpl ho), inv_execG hB inv ho hit hr, hrun]
    exact hK _ hp
  · rw [if_neg hwd] at hrun ⊢
    refine ⟨fun g _ => c.fn g, ?_⟩
    rw [hrun] at hp
    exact hK _ hp
theorem step_turnG (hB : statG ops ts f = true) {A a : Act} (inv : Inv ops ts A listed a) {Q' : Exit → Act → World → Prop} {i : Nat} {o : Oper} (ho : ops[i]? = some o) (hit : i ∉ ts) (hr : i ∈ Region.ready .any ops listed) {w : World} {K K' : Act → World → Prop} (h : rnC c.P ops K [o] A w) (hK : ∀ v w', K (A.put o.dst v) w' → K' (a.put o.dst v) w') : wpOpIn c.F 0 c.P ops Q' i K' a w := by
  have hpl : plainB ops = true := by simp only [statG, Bool.and_eq_true] at hB; exact hB.1.1.1.1
  simp only [rnC] at h
  unfold wpOpIn
  simp only [ho]
  rw [inv_wanted hB inv ho hit hr]
  by_cases hwd : Region.wanted o (yielded ops A.tmps) = true
  · rw [if_pos hwd] at h ⊢
    refine ⟨fun g _ => c.fn g, ?_⟩
    rw [semAt_plain' _ _ _ (plain_at hpl ho), inv_execG hB inv ho hit hr]
    rcases h with ⟨v, w', h1, h2⟩ | ⟨w', h1, h2⟩ | ⟨g, args, w1, h1, h2⟩
    · rw [h1]; exact hK _ _ h2
    · rw [h1]; exact hK _ _ h2
    · rw [h1]
      refine ⟨fun h => (by rw [c.dp] at h; cases h), c.call (h2.mono ?_)⟩
      rintro e w2 ⟨v, rfl, h3⟩
      exact hK _ _ h3
  · rw [if_neg hwd] at h ⊢
    exact ⟨fun g _ => c.fn g, hK _ _ h⟩
def phasesOfG : List Nat → Segs → List (List Nat × Nat) × List Nat
  | ls, [] => ([], ls)
  | ls, (e, res, nw) :: segs => ((ls, e) :: (phasesOfG (res ++ nw) segs).1, (phasesOfG (res ++ nw) segs).2)
theorem phasesOfG_e : ∀ (ls : List Nat) (segs : Segs), (phasesOfG ls segs).1.map (·.2) = segs.map (·.1)
  | ls, [] => rfl
  | ls, (e, res, nw) :: segs => by
    show e :: (phasesOfG (res ++ nw) segs).1.map (·.2) = e :: segs.map (·.1)
    rw [phasesOfG_e (res ++ nw) segs]
def newB (ops : Array Oper) (N : Nat) (ts : List Nat) (f : Nat) (segs : Segs) : Bool := segs.all fun s => orderG ops N s.2.2 && (s.2.1.all fun i => s.2.2.all fun j => keepG ops i j) && (s.2.2.all fun i => !(ts.contains i) && waitsP .any ops f i s.1)
theorem phasesG (hB : statG ops ts f = true) {tl : List Oper} (htl : ts.mapM (fun t => ops[t]?) = some tl) (hseq : seqT .any ops ts (doneL ops ts) = true) {M : Nat} (hdl : ∀ (i : Nat) (o : Oper) (d : Nat), ops[i]? = some o → o.dst = some d → d < M) :
    ∀ (n : Nat) (segs : Segs) (ls es : List Nat) (listed : Array Bool) (A a : Act) (w : World), newB ops M ts f segs = true → cnt ops ts listed = n → A.tmps.size = M → Inv ops ts A listed a → (∀ i ∈ ls, lkG c.P ops A w i) → segG c ops Q tl segs A w → phB ops ts f es (phasesOfG ls segs).1 (phasesOfG ls segs).2 = true →
      (∀ e ∈ es, listed.getD e false = true) → (∀ s ∈ segs, s.1 < ops.size ∧ listed.getD s.1 true = false) → (segs.map (·.1)).Nodup → wpAnyIn c.F 0 c.P .any ops (lift c Q) (n + ts.length) listed a w := by
  have hB' := hB
  simp only [statG, Bool.and_eq_true] at hB'
  intro n
  induction n with
  | zero =>
    intro segs ls es listed A a w hnb hc hM inv hl hcan hph hes hsegs hnd
    have hlist : ∀ i, i < ops.size → i ∉ ts → listed.getD i true = true := fun i hi hit => by
      cases hv : listed.getD i true with
      | true => rfl
      | false =>
        have hm : i ∈ (List.range ops.size).filter fun i => !(ts.contains i) && !(listed.getD i true) := List.mem_filter.2 ⟨List.mem_range.2 hi, by simp [hit, hv]⟩
        unfold cnt at hc
        rw [List.eq_nil_of_length_eq_zero hc] at hm
        cases hm
    cases segs with
    | cons s segs =>
      obtain ⟨e, res, nw⟩ := s
      simp only [phasesOfG, phB, Bool.and_eq_true] at hph
      have h1 := hsegs (e, res, nw) List.mem_cons_self
      have h2 := hlist e h1.1 (by have := hph.1.1.1; simpa using this)
      rw [h1.2] at h2; cases h2
    | nil =>
      have hL : listed = doneL ops ts := by
        apply Array.ext
        · rw [inv.hi.size]; simp [doneL]
        · intro i h1 h2
          have hi : i < ops.size := by rw [← inv.hi.size]; exact h1
          have e1 : listed[i] = listed.getD i true := by simp [h1]
          rw [e1]
          simp only [doneL, List.getElem_toArray, List.getElem_map, List.getElem_range]
          by_cases hit : i ∈ ts
          · rw [inv.hi.tail i hit]; simp [hit]
          · rw [hlist i hi hit]; simp [hit]
      have hA : a = A := by
        obtain ⟨at_, ad⟩ := a
        obtain ⟨At, Ad⟩ := A
        have h1 := inv.dfr
        simp only at h1
        subst h1
        congr 1
        apply Array.ext
        · exact inv.size
        · intro t h1 h2
          have key : at_.getD t undef = At.getD t undef := by
            by_cases h : ∃ j o', ops[j]? = some o' ∧ j ∉ ts ∧ o'.dst = some t
            · obtain ⟨j, o', ho', hjt, hd⟩ := h
              exact inv.v1 j o' t ho' hjt hd (by
                have hj := (Array.getElem?_eq_some_iff.1 ho').1
                have := hlist j hj hjt
                simp [inv.hi.size, hj] at this ⊢
                exact this)
            · exact inv.v2 t (fun j o' ho' hjt hd => h ⟨j, o', ho', hjt, hd⟩)
          simpa [h1, h2] using key
      subst hA
      rw [Nat.zero_add]
      exact wpAnyIn_of_seqT ts tl listed a w htl (by rw [hL]; exact hseq) hcan
  | succ n ih =>
    intro segs ls es listed A a w hnb hc hM inv hl hcan hph hes hsegs hnd
    have hdl' : ∀ (i : Nat) (o : Oper) (d : Nat), ops[i]? = some o → o.dst = some d → d < A.tmps.size := fun i o d h1 h2 => hM ▸ hdl i o d h1 h2
    rw [show n + 1 + ts.length = (n + ts.length) + 1 by omega]
    have hne : Region.ready .any ops listed ≠ [] := by
      have hex : ∃ i, i < ops.size ∧ listed.getD i true = false := by
        apply Classical.byContradiction
        intro h
        have : (List.range ops.size).filter (fun i => !(ts.contains i) && !(listed.getD i true)) = [] := List.filter_eq_nil_iff.2 (fun i hi => by
          have := List.mem_range.1 hi
          cases hv : listed.getD i true with
          | true => simp
          | false => exact absurd ⟨i, this, hv⟩ h)
        unfold cnt at hc
        rw [this] at hc
        cases hc
      have hmin : ∀ n i, i < n → i < ops.size → listed.getD i true = false → Region.ready .any ops listed ≠ [] := by
        intro n
        induction n with
        | zero => intro i hi; omega
        | succ n ihn =>
          intro i hin hi hun
          by_cases hlow : ∃ k, k < i ∧ listed.getD k true = false
          · obtain ⟨k, hk, hku⟩ := hlow
            exact ihn k (by omega) (by omega) hku
          · intro hr
            have : i ∈ Region.ready .any ops listed := mem_ready.2 ⟨hun, ops[i], Array.getElem?_eq_getElem hi, fun e he hb => by
              have h1 := List.all_eq_true.1 hB'.1.2 i (List.mem_range.2 hi)
              rw [Array.getElem?_eq_getElem hi] at h1
              simp only [Bool.and_eq_true] at h1
              have h2 := Array.all_eq_true'.1 h1.1 e he
              rw [hb] at h2
              have h3 : e.on < i := by simpa [Nat.blt_eq] using h2
              have h4 : listed.getD e.on true ≠ false := fun h => hlow ⟨e.on, h3, h⟩
              have h5 : e.on < listed.size := by rw [inv.hi.size]; omega
              simp [h5] at h4 ⊢
              exact h4⟩
            rw [hr] at this; cases this
      obtain ⟨i, hi, hun⟩ := hex
      exact hmin (i + 1) i (by omega) hi hun
    refine ⟨fun h => absurd h hne, fun i hir => ?_⟩
    obtain ⟨hun, oi, hoi, _⟩ := mem_ready.1 hir
    have hi := (Array.getElem?_eq_some_iff.1 hoi).1
    have hit : i ∉ ts := fun h => by
      have h1 := List.all_eq_true.1 hB'.2 i h
      have hz : cnt ops ts listed = 0 := by
        unfold cnt
        rw [List.length_eq_zero_iff, List.filter_eq_nil_iff]
        intro k hk
        have h2 := List.all_eq_true.1 h1 k hk
        rw [Bool.or_eq_true] at h2
        rcases h2 with h2 | h2
        · simp only [h2]; simp
        · have h3 := waitsP_ready inv.hi.closed hir h2
          have : listed.getD k true = true := by
            have hk' := List.mem_range.1 hk
            simp [inv.hi.size, hk'] at h3 ⊢; exact h3
          rw [this]; simp
      omega
    have hc' : cnt ops ts (listed.setIfInBounds i true) = n := by have := cnt_set hi inv.hi.size hit hun; omega
    have hes' : ∀ es' : List Nat, (∀ e ∈ es', listed.getD e false = true) → ∀ e ∈ es', (listed.setIfInBounds i true).getD e false = true := fun es' h e he => getD_set_true (h e he)
    have nolist : ¬ listed.getD i false = true := fun h => by rw [getD_both hun] at h; cases h
    have byes : es.any (fun e' => Nat.beq e' i || waitsP .any ops f e' i) = true → False := fun h => by
      obtain ⟨e', he', h⟩ := List.any_eq_true.1 h
      simp only [Bool.or_eq_true, Nat.beq_eq] at h
      rcases h with rfl | h
      · exact nolist (hes _ he')
      · exact nolist (waitsP_listed inv.hi.closed f e' i (hes _ he') h)
    cases segs with
    | nil =>
      have h1 := List.all_eq_true.1 hph i (List.mem_range.2 hi)
      simp only [Bool.or_eq_true] at h1
      rcases h1 with (h1 | h1) | h1
      · exact absurd (by simpa using h1) hit
      · exact step_valG hB inv hit hir hdl' (hl i (by simpa [phasesOfG] using h1)) (fun a' inv' => ih [] ls es _ A a' w hnb hc' hM inv' hl hcan hph (hes' es hes) (by simp) (by simp))
      · exact (byes h1).elim
    | cons s segs =>
      obtain ⟨e, res, nw⟩ := s
      have hph0 := hph
      simp only [phasesOfG, phB, Bool.and_eq_true] at hph
      have hse := hsegs (e, res, nw) List.mem_cons_self
      obtain ⟨hnd1, hnd2⟩ := List.nodup_cons.1 hnd
      by_cases hie : i = e
      · subst hie
        obtain ⟨o, ho, hrn⟩ := hcan
        obtain ⟨_, ⟨d, hd⟩, _⟩ := stat_opG hB ho hit
        have hsel : Region.noSelect ops = true := hB'.1.1.1.2
        simp only [newB, List.all_cons, Bool.and_eq_true] at hnb
        obtain ⟨⟨⟨hn1, hn2⟩, hn3⟩, hnb'⟩ := hnb
        refine step_turnG hB inv ho hit hir hrn (fun v w' hk => ?_)
        obtain ⟨hre, l, hml, hlk⟩ := hk
        have hM' : (A.put o.dst v).tmps.size = M := by rw [hd]; simpa [Act.put] using hM
        obtain ⟨A2, hA1, hA2, hA3, hA4, hA5⟩ := lk_canG (c := c) hsel nw l res (A.put o.dst v) hml hn1 hM' hre (fun i hi j hj => List.all_eq_true.1 (List.all_eq_true.1 hn2 i hi) j hj) hlk
        have inv1 := inv_turnG (v := v) hB inv ho hit hir hd (hdl' i o d ho hd)
        have hnl : ∀ j ∈ nw, j ∉ ts ∧ (listed.setIfInBounds i true).getD j false = true → False := fun j hj hl => by
          have h1 := List.all_eq_true.1 hn3 j hj
          simp only [Bool.and_eq_true] at h1
          by_cases hji : j = i
          · subst hji
            have := waitsP_ready inv.hi.closed hir h1.2
            exact nolist this
          · have h2 : listed.getD j false = true := by rw [← getD_set_ne false (Ne.symm hji)]; exact hl.2
            exact nolist (waitsP_listed inv.hi.closed f j i h2 h1.2)
        have inv2 : Inv ops ts A2 (listed.setIfInBounds i true) (a.put o.dst v) := by
          refine ⟨inv1.hi, by rw [inv1.size, hA1, hM'], by rw [inv1.dfr, hA2], fun j o' d' ho' hjt hd' hl => ?_, fun t ht => ?_⟩
          · rw [inv1.v1 j o' d' ho' hjt hd' hl]
            refine (hA3 d' (fun k hk ok hok hdk => ?_)).symm
            have hkt : k ∉ ts := by have h1 := List.all_eq_true.1 hn3 k hk; simp only [Bool.and_eq_true] at h1; simpa using h1.1
            by_cases hkj : k = j
            · subst hkj; exact hnl k hk ⟨hjt, hl⟩
            · exact (stat_opG hB ho' hjt).2.2.1 k ok hok hkt hkj (hdk.trans hd'.symm)
          · rw [inv1.v2 t ht]
            refine (hA3 t (fun k hk ok hok hdk => ?_)).symm
            have hkt : k ∉ ts := by have h1 := List.all_eq_true.1 hn3 k hk; simp only [Bool.and_eq_true] at h1; simpa using h1.1
            exact ht k ok hok hkt hdk
        refine ih segs (res ++ nw) (i :: es) _ A2 _ w' hnb' hc' hA1 inv2 hA4 hA5 hph.2 (fun e he => ?_) (fun s hs => ?_) hnd2
        · rcases List.mem_cons.1 he with rfl | he
          · simp [inv.hi.size, hi]
          · exact getD_set_true (hes e he)
        · have := hsegs s (List.mem_cons_of_mem _ hs)
          refine ⟨this.1, ?_⟩
          rw [getD_set_ne true (by rintro rfl; exact hnd1 (List.mem_map.2 ⟨s, hs, rfl⟩))]
          exact this.2
      · have h1 := List.all_eq_true.1 hph.1.1.2 i (List.mem_range.2 hi)
        simp only [Bool.or_eq_true, Nat.beq_eq] at h1
        rcases h1 with (((h1 | h1) | h1) | h1) | h1
        · exact absurd (by simpa using h1) hit
        · refine step_valG hB inv hit hir hdl' (hl i (by simpa using h1)) (fun a' inv' => ih ((e, res, nw) :: segs) ls es _ A a' w hnb hc' hM inv' hl hcan hph0 (hes' es hes) (fun s hs => ?_) hnd)
          have := hsegs s hs
          refine ⟨this.1, ?_⟩
          rcases List.mem_cons.1 hs with rfl | hs
          · rw [getD_set_ne true hie]; exact this.2
          · by_cases hsi : i = s.1
            · have hm : s.1 ∈ (phasesOfG (res ++ nw) segs).1.map (·.2) := by rw [phasesOfG_e]; exact List.mem_map.2 ⟨s, hs, rfl⟩
              obtain ⟨q, hq, hqe⟩ := List.mem_map.1 hm
              have h5 := List.all_eq_true.1 (List.all_eq_true.1 hph.1.2 i (by simpa using h1)) q hq
              rw [hsi, hqe] at h5
              simp at h5
            · rw [getD_set_ne true hsi]; exact this.2
        · exact absurd h1.symm hie
        · exact (byes h1).elim
        · have := waitsP_ready inv.hi.closed hir h1
          rw [getD_both hse.2] at this; cases this
def drawG (ops : Array Oper) (N : Nat) (ks : List Nat) (segs : Segs) (ts : List Nat) (f : Nat) : Bool :=
  statG ops ts f && orderG ops N ks && newB ops N ts f segs && phB ops ts f [] (phasesOfG ks segs).1 (phasesOfG ks segs).2 && seqT .any ops ts (doneL ops ts) && ops.all (fun o => o.dst.all fun d => Nat.blt d N) &&
    ks.all (fun k => !(ts.contains k)) && segs.all (fun s => !(ts.contains s.1) && Nat.blt s.1 ops.size) && decide ((segs.map (·.1)).Nodup) && Nat.beq (cnt ops ts (Array.replicate ops.size false) + ts.length) ops.size
theorem wDrawG (hm : c.P.follows .mixedOrders = true) {id : Nat} {l hd tl : List Oper} (ks : List Nat) (segs : Segs) (ts : List Nat) (f : Nat) (hB : drawG l.toArray c.N ks segs ts f = true) (hk : ks.mapM (fun k => l[k]?) = some hd) (htl : ts.mapM (fun k => l[k]?) = some tl)
    (h : ∀ w0, O (Md.lk c l.toArray w0 (fun a => segG c l.toArray Q tl segs a w0)) hd E D H) : W c (.region id l.toArray true) Q E D H := by
  intro a w ha hw
  refine wpIn_region_any hm ?_
  simp only [drawG, Bool.and_eq_true, decide_eq_true_eq, Nat.beq_eq] at hB
  obtain ⟨⟨⟨⟨⟨⟨⟨⟨⟨hst, hor⟩, hnb⟩, hph⟩, hseq⟩, hN⟩, hkt⟩, hsg⟩, hnd⟩, hcnt⟩ := hB
  have hst' := hst
  simp only [statG, Bool.and_eq_true] at hst'
  have hsel : Region.noSelect l.toArray = true := hst'.1.1.1.2
  have htr := hst'.1.1.2
  have hks : ks.mapM (fun k => l.toArray[k]?) = some hd := by simpa using hk
  have htl' : ts.mapM (fun k => l.toArray[k]?) = some tl := by simpa using htl
  obtain ⟨A, hA1, hA2, hA3, hA4, hA5⟩ := lk_canG (c := c) hsel ks hd [] a hks hor ha.size (by simp) (by simp) (h w.drew a w.drew ha hw.drew rfl)
  rw [List.nil_append] at hA4
  have hdl : ∀ (i : Nat) (o : Oper) (d : Nat), l.toArray[i]? = some o → o.dst = some d → d < c.N := fun i o d ho hd => by
    obtain ⟨hi, he⟩ := Array.getElem?_eq_some_iff.1 ho
    have h1 := Array.all_eq_true.1 hN i hi
    rw [he, hd] at h1
    simpa [Nat.blt_eq] using h1
  have inv : Inv l.toArray ts A (Array.replicate l.toArray.size false) a := by
    refine ⟨⟨by simp, fun j oj _ hl => (by rw [getD_replicate_false] at hl; cases hl), fun t ht => getD_in (by have := List.all_eq_true.1 htr t ht; simpa [Nat.blt_eq] using this) (getD_replicate_false _ _)⟩, by rw [hA1, ha.size], hA2.symm, fun i o d ho hit hd hl => (by rw [getD_replicate_false] at hl; cases hl), fun t ht => (hA3 t (fun j hj o ho hd => ?_)).symm⟩
    have := List.all_eq_true.1 hkt j hj
    exact ht j o ho (by simpa using this) hd
  have hgo := phasesG (c := c) (Q := Q) hst htl' hseq hdl _ segs ks [] (Array.replicate l.toArray.size false) A a w.drew hnb rfl hA1 inv hA4 hA5 hph (by simp) (fun s hs => by
    have h2 := List.all_eq_true.1 hsg s hs
    simp only [Bool.and_eq_true, Nat.blt_eq] at h2
    exact ⟨h2.2, getD_in (by simpa using h2.2) (getD_replicate_false _ _)⟩) hnd
  rw [hcnt] at hgo
  exact hgo
end
end Go.Proofs.YtnidmlngkpkmlaaK
