/-
  The walk of such a region.
-/
import Derived.Test.YtnidmlngkpkmlaaKx
namespace Go.Proofs.YtnidmlngkpkmlaaK
set_option linter.unusedVariables false
set_option linter.unusedSimpArgs false
open Go.RowKit
section
variable {P : Program} {ops : Array Oper} {a A : Act} {w w' w0 : World}
/-- Operations that give a value, if anything. -/
def isVal : Op → Bool
  | .move _ | .assign _ | .alloc _ | .box _ _ | .build _ _ | .buildSlice _ _ _ | .load _ _ | .binOp _ _ _ _ _ | .unOp _ _ _ | .fieldAddr _ _ _ | .field _ _ _ | .indexAddr _ _ _ | .index _ _ _ | .slice _ _ _ _ _ | .extract _ _ | .makeSlice _ _ _ | .makeFunc _ _ _ | .pick _ _ _ | .convert _ _ _ | .makeInterface _ _ | .lookup _ _ _ _ | .typeAssert _ _ _ _ => true
  | .call { callee := .builtin .append, .. } => true
  | .call { callee := .builtin .len, .. } => true
  | _ => false
theorem val_of {s : Sem Value} {n : Next} (h : (do pure (Next.value (← s)) : Sem Next).run P w = .ok n w') : ∃ v, n = .value v := by
  rw [Sem.run_bind] at h
  cases hs : s.run P w with
  | halt x w1 => rw [hs] at h; simp [Result.andThen] at h
  | ok v w1 =>
    rw [hs, Result.andThen_ok, Sem.run_pure] at h
    injection h with h _
    exact ⟨v, h.symm⟩
theorem val_run {o : Oper} (hv : isVal o.op = true) {ρ : Operand → Value} {n : Next} (h : (execOp ρ o).run P w = .ok n w') : ∃ v, n = .value v := by
  obtain ⟨dst, op, ty, pos, af, g⟩ := o
  have pv : ∀ {u : Value}, (Pure.pure (Next.value u) : Sem Next).run P w = .ok n w' → ∃ v, n = .value v := fun h => by
    rw [Sem.run_pure] at h; injection h with h _; exact ⟨_, h.symm⟩
  cases op <;> simp only [isVal, Bool.false_eq_true] at hv
  case call c =>
    obtain ⟨cal, args, ats⟩ := c
    cases cal with
    | builtin b =>
      cases b <;> simp only [Bool.false_eq_true] at hv
      all_goals
        simp only [execOp, resolve, Sem.run_bind, Sem.run_pure, Result.andThen_ok, invoke, builtin] at h
        first | exact val_of h | (rw [← Sem.run_bind] at h; exact val_of h) | skip
      all_goals
        revert h
        generalize Sem.run P _ w = r
        intro h
        cases r with
        | halt x w1 => simp [Result.andThen] at h
        | ok v w1 => simp only [Result.andThen_ok, Sem.run_pure, Result.ok.injEq] at h; exact ⟨v, h.1.symm⟩
    | _ => simp only [Bool.false_eq_true] at hv
  case pick cc x y =>
    have h' : (do pure (Next.value (if ← asBool (ρ cc) then ρ x else ρ y)) : Sem Next).run P w = .ok n w' := h
    rw [Sem.run_bind] at h'
    cases hs : (asBool (ρ cc)).run P w with
    | halt q w1 => rw [hs] at h'; simp [Result.andThen] at h'
    | ok b w1 =>
      rw [hs, Result.andThen_ok, Sem.run_pure] at h'
      injection h' with h' _
      exact ⟨_, h'.symm⟩
  all_goals first | exact pv h | exact val_of h
/-! ### ways of going through lists -/
def lkX (P : Program) (ops : Array Oper) (w0 : World) (K : Act → Prop) : List Oper → Act → Prop
  | [], a => K a
  | o :: rest, a => if Region.wanted o (yielded ops a.tmps) then ∃ n, (execOp a.eval o).run P w0 = .ok n w0 ∧ ∀ v, n = .value v → lkX P ops w0 K rest (a.put o.dst v) else lkX P ops w0 K rest (a.put o.dst undef)
def rnX (P : Program) (ops : Array Oper) (K : Act → World → Prop) : List Oper → Act → World → Prop
  | [], a, w => K a w
  | o :: rest, a, w => if Region.wanted o (yielded ops a.tmps) then ∃ n w', (execOp a.eval o).run P w = .ok n w' ∧ ∀ v, n = .value v → rnX P ops K rest (a.put o.dst v) w' else rnX P ops K rest (a.put o.dst undef) w
variable {c : Cx} {Q : Post} {E E' : Env} {D : List Deferred} {H : List Res}
def Md.lk (c : Cx) (ops : Array Oper) (w0 : World) (K : Act → Prop) : Md c where
  X := fun l a w => w = w0 → lkX c.P ops w0 K l a
  ops := ops
  calm o rest a w v hw hp hr hK := by
    rintro rfl
    simp only [lkX, hw, if_true]
    exact ⟨_, hr, fun v' h => by cases h; exact hK rfl⟩
  skip o rest a w hw hK := by
    rintro rfl
    simp only [lkX, hw]
    exact hK rfl
  want dst op ty pos af g rest a w hw h := by
    rintro rfl
    have h := h rfl
    simp only [lkX] at h ⊢
    rw [if_pos hw]
    rw [if_pos (show Region.wanted { dst := dst, op := op, type := ty, pos := pos, after := af, guard := none } (yielded ops a.tmps) = true from rfl)] at h
    exact h
def Me.rn (c : Cx) (ops : Array Oper) (K : Act → World → Prop) : Me c where
  X := rnX c.P ops K
  ops := ops
  calm o rest a w v hw hp hr hK := by
    simp only [rnX, hw, if_true]
    exact ⟨_, _, hr, fun v' h => by cases h; exact hK⟩
  skip o rest a w hw hK := by simp only [rnX, hw]; exact hK
  want dst op ty pos af g rest a w hw h := by
    simp only [rnX] at h ⊢
    rw [if_pos hw]
    rw [if_pos (show Region.wanted { dst := dst, op := op, type := ty, pos := pos, after := af, guard := none } (yielded ops a.tmps) = true from rfl)] at h
    exact h
  eff o rest a w v w' hw hp hr hK := by
    simp only [rnX, hw, if_true]
    exact ⟨_, _, hr, fun v' h => by cases h; exact hK⟩
  effs o rest a w w' hw hp hr hK := by
    simp only [rnX, hw, if_true]
    exact ⟨_, _, hr, fun v' h => by cases h⟩
  enter o rest a w g args w1 hw hp hr hK := by
    simp only [rnX, hw, if_true]
    exact ⟨_, _, hr, fun v' h => by cases h⟩
/-- Turn by turn: an operation that turns the world, what is looked at again, and so on; then the tail. -/
def segK (c : Cx) (ops : Array Oper) (Q : Post) (tl : List Oper) : List (Nat × List Nat) → Act → World → Prop
  | [], a, w => wpListIn c.F 0 c.P ops (lift c Q) tl a w
  | (e, res) :: segs, a, w => ∃ o, ops[e]? = some o ∧ rnX c.P ops (fun a' w' => (∀ i ∈ res, lkA c.P ops a' w' w' i) ∧ segK c ops Q tl segs a' w') [o] a w
theorem oLkEnd {K : Act → Prop} (h : ∀ a, Ok c.N E D a → St c.B H w0 → K a) : O (Md.lk c ops w0 K) [] E D H := by
  rintro a w ha hw rfl
  exact h a ha hw
theorem oLkSeg {tl : List Oper} {segs : List (Nat × List Nat)} (h : O (Me.rn c ops (segK c ops Q tl segs)).toMd [] E D H) : O (Md.lk c ops w0 (fun a => segK c ops Q tl segs a w0)) [] E D H := by
  rintro a w ha hw rfl
  exact h a w ha hw
theorem oSeg {tl : List Oper} {e : Nat} {res : List Nat} {segs : List (Nat × List Nat)} {o : Oper} (he : ops[e]? = some o) (h : O (Me.rn c ops (fun a' w' => (∀ i ∈ res, lkA c.P ops a' w' w' i) ∧ segK c ops Q tl segs a' w')).toMd [o] E D H) : O (Me.rn c ops (segK c ops Q tl ((e, res) :: segs))).toMd [] E D H :=
  fun a w ha hw => ⟨o, he, h a w ha hw⟩
/-- .. each looked at again. -/
def Again (c : Cx) (ops : Array Oper) (E : Env) (D : List Deferred) (H : List Res) (res : List Nat) : Prop := ∀ a w, Ok c.N E D a → St c.B H w → ∀ i ∈ res, lkA c.P ops a w w i
theorem Again.nil : Again c ops E D H [] := fun _ _ _ _ _ h => by cases h
theorem Again.cons {i d : Nat} {v : Value} {res : List Nat} {op : Op} {ty : TypeId} {pos : String} {af : Array Edge} (ho : ops[i]? = some ⟨some d, op, ty, pos, af, none⟩) (hE : E.find d = some v) (hv : isVal op = true) (hN : Nat.blt d c.N = true) (h : ∀ w0, O (Md.lk c ops w0 (fun a => a.tmps.getD d undef = v)) [⟨some d, op, ty, pos, af, none⟩] E D H) (k : Again c ops E D H res) : Again c ops E D H (i :: res) := by
  intro a w ha hw j hj
  rcases List.mem_cons.1 hj with rfl | hj
  · have h1 := h w a w ha hw rfl
    simp only [lkX] at h1
    rw [if_pos (show Region.wanted { dst := some d, op := op, type := ty, pos := pos, after := af, guard := none } (yielded ops a.tmps) = true from rfl)] at h1
    obtain ⟨n, hr, hk⟩ := h1
    obtain ⟨u, rfl⟩ := val_run (o := ⟨some d, op, ty, pos, af, none⟩) hv hr
    have h2 := hk u rfl
    have hd : d < a.tmps.size := by rw [ha.size]; simpa [Nat.blt_eq] using hN
    have h3 : (a.put (some d) u).tmps.getD d undef = u := by simp [Act.put, hd]
    refine ⟨_, d, ho, rfl, ?_⟩
    rw [hr, ha.fit d v hE]
    congr 2
    rw [← h3]; exact h2
  · exact k a w ha hw j hj
theorem oLkHas {d : Nat} {v : Value} (hE : E.find d = some v) : O (Md.lk c ops w0 (fun a => a.tmps.getD d undef = v)) [] E D H := by
  rintro a w ha hw rfl
  exact ha.fit d v hE
theorem oAgain {tl : List Oper} {res : List Nat} {segs : List (Nat × List Nat)} (hre : Again c ops E D H res) (h : O (Me.rn c ops (segK c ops Q tl segs)).toMd [] E D H) : O (Me.rn c ops (fun a' w' => (∀ i ∈ res, lkA c.P ops a' w' w' i) ∧ segK c ops Q tl segs a' w')).toMd [] E D H :=
  fun a w ha hw => ⟨hre a w ha hw, h a w ha hw⟩
theorem oTailS {tl : List Oper} (h : O (Me.list c ops Q).toMd tl E D H) : O (Me.rn c ops (segK c ops Q tl [])).toMd [] E D H := fun a w ha hw => h a w ha hw
/-! ### from the walk to the last state -/
def keepI (ops : Array Oper) (i j : Nat) : Bool := match ops[i]?, ops[j]? with
  | some o, some o' => (match o'.dst with | some d => !((opTmps o).contains d) && o.dst != some d | none => true)
  | _, _ => false
theorem lk_keep {i j : Nat} {oj : Oper} {v : Value} (hk : keepI ops i j = true) (hj : ops[j]? = some oj) (hs : Region.noSelect ops = true) (h : lkA P ops a w w' i) : lkA P ops (a.put oj.dst v) w w' i := by
  obtain ⟨o, d, ho, hd, hr⟩ := h
  unfold keepI at hk
  rw [ho, hj] at hk
  simp only at hk
  cases hdj : oj.dst with
  | none => exact ⟨o, d, ho, hd, hr⟩
  | some dj =>
    rw [hdj] at hk
    simp only [Bool.and_eq_true, bne_iff_ne, ne_eq] at hk
    have hne : dj ≠ d := by rintro rfl; exact hk.2 hd
    refine ⟨o, d, ho, hd, ?_⟩
    have e1 : execOp (a.put (some dj) v).eval o = execOp a.eval o := execOp_congr o (fun cs b => Region.noSelect_spec hs i o cs b ho) (fun x hx => Act.eval_put (fun d' hd' hxd => by
      injection hd' with hd'
      subst hd' hxd
      have : dj ∈ opTmps o := List.mem_filterMap.2 ⟨.tmp dj, by simpa using hx, rfl⟩
      have h1 := hk.1
      simp [this] at h1))
    have e2 : (a.put (some dj) v).tmps.getD d undef = a.tmps.getD d undef := by simp only [Act.put, Array.getD_eq_getD_getElem?, Array.getElem?_setIfInBounds, if_neg hne]
    rw [e1, e2]; exact hr
theorem lk_self {i d : Nat} {o : Oper} {v : Value} (ho : ops[i]? = some o) (hd : o.dst = some d) (hn : (opTmps o).contains d = false) (hs : Region.noSelect ops = true) (hl : d < a.tmps.size) (hr : (execOp a.eval o).run P w = .ok (.value v) w') : lkA P ops (a.put o.dst v) w w' i := by
  refine ⟨o, d, ho, hd, ?_⟩
  rw [hd]
  have e1 : execOp (a.put (some d) v).eval o = execOp a.eval o := execOp_congr o (fun cs b => Region.noSelect_spec hs i o cs b ho) (fun x hx => Act.eval_put (fun d' hd' hxd => by
    injection hd' with hd'
    subst hd' hxd
    have : d ∈ opTmps o := List.mem_filterMap.2 ⟨.tmp d, by simpa using hx, rfl⟩
    simp [this] at hn))
  have e2 : (a.put (some d) v).tmps.getD d undef = v := by simp [Act.put, hl]
  rw [e1, e2]; exact hr
/-- What an operation of the order is. -/
def opB (ops : Array Oper) (N i : Nat) : Bool := match ops[i]? with
  | some o => isVal o.op && o.guard.isNone && (match o.dst with | some d => Nat.blt d N && !((opTmps o).contains d) | none => false)
  | none => false
theorem opB_spec {N i : Nat} (h : opB ops N i = true) : ∃ (o : Oper) (d : Nat), ops[i]? = some o ∧ o.dst = some d ∧ isVal o.op = true ∧ o.guard = none ∧ d < N ∧ (opTmps o).contains d = false := by
  unfold opB at h
  split at h
  · rename_i o ho
    simp only [Bool.and_eq_true, Option.isNone_iff_eq_none] at h
    obtain ⟨⟨h1, h2⟩, h3⟩ := h
    split at h3
    · rename_i d hd
      simp only [Bool.and_eq_true, Nat.blt_eq] at h3
      exact ⟨o, d, ho, hd, h1, h2, h3.1, by simpa using h3.2⟩
    · cases h3
  · cases h
structure Near (N : Nat) (NT : Nat → Prop) (a A : Act) : Prop where
  size : A.tmps.size = a.tmps.size
  dfr : A.defers = a.defers
  rest : ∀ t, (∀ i o, NT i → ops[i]? = some o → o.dst ≠ some t) → A.tmps.getD t undef = a.tmps.getD t undef
def orderT (ops : Array Oper) (N : Nat) : List (Nat × List Nat) → Bool
  | [] => true
  | (e, res) :: segs => opB ops N e && (segs.all fun s => keepI ops e s.1) && (res.all fun i => segs.all fun s => keepI ops i s.1) && orderT ops N segs
def orderB (ops : Array Oper) (N : Nat) (segs : List (Nat × List Nat)) : List Nat → Bool
  | k :: ks => opB ops N k && (ks.all fun j => keepI ops k j) && (segs.all fun s => keepI ops k s.1) && orderB ops N segs ks
  | [] => orderT ops N segs
/-- The phases, as they are told of the last state. -/
def phasesOf : List Nat → List (Nat × List Nat) → List (List Nat × Nat) × List Nat
  | ls, [] => ([], ls)
  | ls, (e, res) :: segs => ((ls, e) :: (phasesOf res segs).1, (phasesOf res segs).2)
theorem seg_can {N : Nat} {tl : List Oper} (hs : Region.noSelect ops = true) : ∀ (segs : List (Nat × List Nat)) (ls : List Nat) (acc : List (Nat × World × World)) (a : Act) (w : World), orderT ops N segs = true → a.tmps.size = N → (∀ x ∈ acc, lkA c.P ops a x.2.1 x.2.2 x.1) → (∀ x ∈ acc, ∀ s ∈ segs, keepI ops x.1 s.1 = true) →
      (∀ i ∈ ls, lkA c.P ops a w w i) → (∀ i ∈ ls, ∀ s ∈ segs, keepI ops i s.1 = true) → segK c ops Q tl segs a w →
      ∃ A, A.tmps.size = N ∧ A.defers = a.defers ∧ (∀ t, (∀ s ∈ segs, ∀ o, ops[s.1]? = some o → o.dst ≠ some t) → A.tmps.getD t undef = a.tmps.getD t undef) ∧ (∀ x ∈ acc, lkA c.P ops A x.2.1 x.2.2 x.1) ∧ canS c.P ops A (fun w => wpListIn c.F 0 c.P ops (lift c Q) tl A w) (phasesOf ls segs).1 (phasesOf ls segs).2 w
  | [], ls, acc, a, w, _, hN, hacc, _, hls, _, h => ⟨a, hN, rfl, fun _ _ => rfl, hacc, hls, h⟩
  | (e, res) :: segs, ls, acc, a, w, hB, hN, hacc, hka, hls, hkl, h => by
    simp only [orderT, Bool.and_eq_true] at hB
    obtain ⟨⟨⟨h1, h2⟩, h3⟩, h4⟩ := hB
    obtain ⟨o, d, ho, hd, hv, hg, hdN, hself⟩ := opB_spec h1
    obtain ⟨o', ho', hrn⟩ := h
    have : o' = o := Option.some.inj (ho'.symm.trans ho)
    subst this
    simp only [rnX] at hrn
    rw [if_pos (show Region.wanted o' (yielded ops a.tmps) = true by unfold Region.wanted; rw [hg])] at hrn
    obtain ⟨n, w1, hr, hk⟩ := hrn
    obtain ⟨v, rfl⟩ := val_run hv hr
    obtain ⟨hre, hseg⟩ := hk v rfl
    have hself' := lk_self (a := a) (i := e) ho hd hself hs (by omega) hr
    have hall : ∀ s, s ∈ segs → s ∈ (e, res) :: segs := fun s h => List.mem_cons_of_mem _ h
    obtain ⟨A, hA1, hA2, hA3, hA4, hA5⟩ := seg_can hs segs res ((e, w, w1) :: (ls.map (fun i => (i, w, w)) ++ acc)) (a.put o'.dst v) w1 h4 (by rw [hd]; simpa [Act.put] using hN)
      (fun x hx => by
        rcases List.mem_cons.1 hx with rfl | hx
        · exact hself'
        · rcases List.mem_append.1 hx with hx | hx
          · obtain ⟨i, hi, rfl⟩ := List.mem_map.1 hx
            exact lk_keep (hkl i hi (e, res) List.mem_cons_self) ho hs (hls i hi)
          · exact lk_keep (hka x hx (e, res) List.mem_cons_self) ho hs (hacc x hx))
      (fun x hx s hsm => by
        rcases List.mem_cons.1 hx with rfl | hx
        · exact List.all_eq_true.1 h2 s hsm
        · rcases List.mem_append.1 hx with hx | hx
          · obtain ⟨i, hi, rfl⟩ := List.mem_map.1 hx
            exact hkl i hi s (hall s hsm)
          · exact hka x hx s (hall s hsm))
      hre (fun i hi s hsm => List.all_eq_true.1 (List.all_eq_true.1 h3 i hi) s hsm) hseg
    refine ⟨A, hA1, by rw [hA2, hd]; rfl, fun t ht => ?_, fun x hx => hA4 x (by simp [hx]), fun i hi => hA4 (i, w, w) (List.mem_cons_of_mem _ (List.mem_append_left _ (List.mem_map.2 ⟨i, hi, rfl⟩))), w1, hA4 (e, w, w1) List.mem_cons_self, hA5⟩
    rw [hA3 t (fun s hsm => ht s (hall s hsm))]
    have hne : d ≠ t := by rintro rfl; exact ht (e, res) List.mem_cons_self o' ho hd
    rw [hd]
    simp only [Act.put, Array.getD_eq_getD_getElem?, Array.getElem?_setIfInBounds, if_neg hne]
theorem lk_can {N : Nat} {tl : List Oper} (hs : Region.noSelect ops = true) {segs : List (Nat × List Nat)} {w : World} : ∀ (ks : List Nat) (hd : List Oper) (done : List Nat) (a : Act), ks.mapM (fun k => ops[k]?) = some hd → orderB ops N segs ks = true → a.tmps.size = N → (∀ i ∈ done, lkA c.P ops a w w i) → (∀ i ∈ done, (∀ j ∈ ks, keepI ops i j = true) ∧ ∀ s ∈ segs, keepI ops i s.1 = true) →
      lkX c.P ops w (fun a => segK c ops Q tl segs a w) hd a →
      ∃ A, A.tmps.size = N ∧ A.defers = a.defers ∧ (∀ t, (∀ j ∈ ks, ∀ o, ops[j]? = some o → o.dst ≠ some t) → (∀ s ∈ segs, ∀ o, ops[s.1]? = some o → o.dst ≠ some t) → A.tmps.getD t undef = a.tmps.getD t undef) ∧ canS c.P ops A (fun w => wpListIn c.F 0 c.P ops (lift c Q) tl A w) (phasesOf (done ++ ks) segs).1 (phasesOf (done ++ ks) segs).2 w
  | [], hd, done, a, hk, hB, hN, hdn, hkp, h => by
    simp at hk; subst hk
    obtain ⟨A, h1, h2, h3, _, h5⟩ := seg_can hs segs done [] a w (by simpa [orderB] using hB) hN (by simp) (by simp) hdn (fun i hi => (hkp i hi).2) h
    exact ⟨A, h1, h2, fun t _ ht => h3 t ht, by rw [List.append_nil]; exact h5⟩
  | k :: ks, hd, done, a, hk, hB, hN, hdn, hkp, h => by
    rw [List.mapM_cons] at hk
    simp only [orderB, Bool.and_eq_true] at hB
    obtain ⟨⟨⟨h1, h2⟩, h3⟩, h4⟩ := hB
    obtain ⟨o, d, ho, hd', hv, hg, hdN, hself⟩ := opB_spec h1
    rw [ho] at hk
    cases hks : ks.mapM (fun k => ops[k]?) with
    | none => rw [hks] at hk; simp at hk
    | some l' =>
      rw [hks] at hk
      simp at hk
      subst hk
      simp only [lkX] at h
      rw [if_pos (show Region.wanted o (yielded ops a.tmps) = true by unfold Region.wanted; rw [hg])] at h
      obtain ⟨n, hr, hkk⟩ := h
      obtain ⟨v, rfl⟩ := val_run hv hr
      obtain ⟨A, hA1, hA2, hA3, hA4⟩ := lk_can hs ks l' (done ++ [k]) (a.put o.dst v) hks h4 (by rw [hd']; simpa [Act.put] using hN)
        (fun i hi => by
          rcases List.mem_append.1 hi with hi | hi
          · exact lk_keep ((hkp i hi).1 k List.mem_cons_self) ho hs (hdn i hi)
          · obtain rfl := List.mem_singleton.1 hi
            exact lk_self (a := a) ho hd' hself hs (by omega) hr)
        (fun i hi => by
          rcases List.mem_append.1 hi with hi | hi
          · exact ⟨fun j hj => (hkp i hi).1 j (List.mem_cons_of_mem _ hj), (hkp i hi).2⟩
          · obtain rfl := List.mem_singleton.1 hi
            exact ⟨fun j hj => List.all_eq_true.1 h2 j hj, fun s hsm => List.all_eq_true.1 h3 s hsm⟩)
        (hkk v rfl)
      refine ⟨A, hA1, by rw [hA2, hd']; rfl, fun t ht1 ht2 => ?_, by rw [List.append_assoc] at hA4; exact hA4⟩
      rw [hA3 t (fun j hj => ht1 j (List.mem_cons_of_mem _ hj)) ht2]
      have hne : d ≠ t := by rintro rfl; exact ht1 k List.mem_cons_self o ho hd'
      rw [hd']
      simp only [Act.put, Array.getD_eq_getD_getElem?, Array.getElem?_setIfInBounds, if_neg hne]
def drawS (ops : Array Oper) (N : Nat) (ks : List Nat) (segs : List (Nat × List Nat)) (ts : List Nat) (f : Nat) : Bool :=
  statB ops ts f && orderB ops N segs ks && phB ops ts f [] (phasesOf ks segs).1 (phasesOf ks segs).2 && seqT .any ops ts (doneL ops ts) && ops.all (fun o => o.dst.all fun d => Nat.blt d N) &&
    ks.all (fun k => !(ts.contains k)) && segs.all (fun s => !(ts.contains s.1) && Nat.blt s.1 ops.size) && ((phasesOf ks segs).1.map (·.2)).all (fun e => segs.any fun s => Nat.beq s.1 e) && decide (((phasesOf ks segs).1.map (·.2)).Nodup) && Nat.beq (cnt ops ts (Array.replicate ops.size false) + ts.length) ops.size
theorem wDrawS (hm : c.P.follows .mixedOrders = true) {id : Nat} {l hd tl : List Oper} (ks : List Nat) (segs : List (Nat × List Nat)) (ts : List Nat) (f : Nat) (hB : drawS l.toArray c.N ks segs ts f = true) (hk : ks.mapM (fun k => l[k]?) = some hd) (htl : ts.mapM (fun k => l[k]?) = some tl)
    (h : ∀ w0, O (Md.lk c l.toArray w0 (fun a => segK c l.toArray Q tl segs a w0)) hd E D H) : W c (.region id l.toArray true) Q E D H := by
  intro a w ha hw
  refine wpIn_region_any hm ?_
  simp only [drawS, Bool.and_eq_true, decide_eq_true_eq, Nat.beq_eq] at hB
  obtain ⟨⟨⟨⟨⟨⟨⟨⟨⟨hst, hor⟩, hph⟩, hseq⟩, hN⟩, hkt⟩, hsg⟩, hsub⟩, hnd⟩, hcnt⟩ := hB
  have hst' := hst
  simp only [statB, Bool.and_eq_true] at hst'
  have hsel : Region.noSelect l.toArray = true := hst'.1.1.1.2
  have htr := hst'.1.1.2
  have hks : ks.mapM (fun k => l.toArray[k]?) = some hd := by simpa using hk
  have htl' : ts.mapM (fun k => l.toArray[k]?) = some tl := by simpa using htl
  obtain ⟨A, hA1, hA2, hA3, hcan⟩ := lk_can (c := c) (Q := Q) (tl := tl) hsel ks hd [] a hks hor ha.size (by simp) (by simp) (h w.drew a w.drew ha hw.drew rfl)
  rw [List.nil_append] at hcan
  have hdl : ∀ (i : Nat) (o : Oper) (d : Nat), l.toArray[i]? = some o → o.dst = some d → d < A.tmps.size := fun i o d ho hd => by
    obtain ⟨hi, he⟩ := Array.getElem?_eq_some_iff.1 ho
    have h1 := Array.all_eq_true.1 hN i hi
    rw [he, hd] at h1
    rw [hA1]; simpa [Nat.blt_eq] using h1
  have inv : Inv l.toArray ts A (Array.replicate l.toArray.size false) a := by
    refine ⟨⟨by simp, fun j oj _ hl => (by rw [getD_replicate_false] at hl; cases hl), fun t ht => getD_in (by have := List.all_eq_true.1 htr t ht; simpa [Nat.blt_eq] using this) (getD_replicate_false _ _)⟩, by rw [hA1, ha.size], hA2.symm, fun i o d ho hit hd hl => (by rw [getD_replicate_false] at hl; cases hl), fun t ht => (hA3 t (fun j hj o ho hd => ?_) (fun s hsm o ho hd => ?_)).symm⟩
    · have := List.all_eq_true.1 hkt j hj
      exact ht j o ho (by simpa using this) hd
    · have := List.all_eq_true.1 hsg s hsm
      simp only [Bool.and_eq_true] at this
      exact ht s.1 o ho (by simpa using this.1) hd
  have hgo := phases (m := 0) (F := c.F) (Q' := lift c Q) hst c.fn htl' hseq hdl (fun _ _ => trivial) _ (phasesOf ks segs).1 (phasesOf ks segs).2 [] (Array.replicate l.toArray.size false) a w.drew rfl inv hcan hph (by simp) (fun s hs => by
    have h1 := List.all_eq_true.1 hsub s.2 (List.mem_map.2 ⟨s, hs, rfl⟩)
    obtain ⟨s', hs', he⟩ := List.any_eq_true.1 h1
    rw [Nat.beq_eq] at he
    have h2 := List.all_eq_true.1 hsg s' hs'
    simp only [Bool.and_eq_true, Nat.blt_eq] at h2
    rw [← he]
    exact ⟨h2.2, getD_in (by simpa using h2.2) (getD_replicate_false _ _)⟩) hnd
  rw [hcnt] at hgo
  exact hgo
end
end Go.Proofs.YtnidmlngkpkmlaaK
