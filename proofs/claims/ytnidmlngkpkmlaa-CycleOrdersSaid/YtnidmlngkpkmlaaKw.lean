/-
  A region that draws its order, in whatever fence (in a round of a range over a function too): what only looks gives values; the tail is a list of places.
-/
import Derived.Test.YtnidmlngkpkmlaaKv
import Derived.OrdersIn
namespace Go.Proofs.YtnidmlngkpkmlaaK
set_option linter.unusedVariables false
set_option linter.unusedSimpArgs false
open Go.RowKit
section
variable {F : Fence} {m : Nat} {P : Program} {ops : Array Oper} {md : Region.Mode} {w : World} {ts : List Nat}
def plainB (ops : Array Oper) : Bool := ops.all (fun o => plain o.op)
theorem plain_at (h : plainB ops = true) {i : Nat} {o : Oper} (ho : ops[i]? = some o) : plain o.op = true := by
  obtain ⟨hi, he⟩ := Array.getElem?_eq_some_iff.1 ho
  have := Array.all_eq_true.1 h i hi
  rw [he] at this; exact this
/-! ### values alone -/
def stV (P : Program) (ops : Array Oper) (w : World) (i : Nat) (K : Act → Prop) (a : Act) : Prop :=
  match ops[i]? with
  | none => K a
  | some o => if Region.wanted o (yielded ops a.tmps) then ∃ v, (execOp a.eval o).run P w = .ok (.value v) w ∧ K (a.put o.dst v) else K (a.put o.dst undef)
theorem stV_mono {i : Nat} {a : Act} {K K' : Act → Prop} (h : ∀ a, K a → K' a) (hh : stV P ops w i K a) : stV P ops w i K' a := by
  unfold stV at *
  split
  · exact h _ (by simpa [*] using hh)
  · rename_i o ho
    simp only [ho] at hh
    split
    · rename_i hw; simp only [hw, if_true] at hh; obtain ⟨v, h1, h2⟩ := hh; exact ⟨v, h1, h _ h2⟩
    · rename_i hw; simp only [hw] at hh; exact h _ hh
def YV (P : Program) (ops : Array Oper) (w : World) (o : Oper) (v : Value) (a : Act) : Prop :=
  (Region.wanted o (yielded ops a.tmps) = true ∧ (execOp a.eval o).run P w = .ok (.value v) w) ∨ (Region.wanted o (yielded ops a.tmps) = false ∧ v = undef)
theorem YV.stV {i : Nat} {o : Oper} {v : Value} {a : Act} (hi : ops[i]? = some o) (hy : YV P ops w o v a) {K : Act → Prop} (h : K (a.put o.dst v)) : stV P ops w i K a := by
  unfold Go.Proofs.YtnidmlngkpkmlaaK.stV
  simp only [hi]
  rcases hy with ⟨hw, hv⟩ | ⟨hw, rfl⟩
  · simp only [hw, if_true]; exact ⟨v, hv, h⟩
  · simp only [hw, Bool.false_eq_true, if_false]; exact h
theorem YV.of_same {o : Oper} {v : Value} {a a' : Act} (hy : YV P ops w o v a) (he : execOp a'.eval o = execOp a.eval o) (hw : Region.wanted o (yielded ops a'.tmps) = Region.wanted o (yielded ops a.tmps)) : YV P ops w o v a' := by
  unfold YV at *
  rw [he, hw]
  exact hy
theorem yv_of_stV {i : Nat} {o : Oper} {a : Act} {K : Act → Prop} (hi : ops[i]? = some o) (h : stV P ops w i K a) : ∃ v, YV P ops w o v a ∧ K (a.put o.dst v) := by
  unfold stV at h
  simp only [hi] at h
  by_cases hw : Region.wanted o (yielded ops a.tmps) = true
  · simp only [hw, if_true] at h
    obtain ⟨v, h1, h2⟩ := h
    exact ⟨v, .inl ⟨hw, h1⟩, h2⟩
  · simp only [hw] at h
    exact ⟨undef, .inr ⟨by simpa using hw, rfl⟩, h⟩
theorem stV_put {j : Nat} {oi oj : Oper} {v : Value} (hj : ops[j]? = some oj) (hap : oi.apart ops oj = true) (hsi : ∀ cs b, oi.op ≠ .select cs b) (hsj : ∀ cs b, oj.op ≠ .select cs b) {K : Act → Prop} {a : Act}
    (hy : YV P ops w oi v a) (h : stV P ops w j K (a.put oi.dst v)) : stV P ops w j (fun a' => YV P ops w oi v a' ∧ K (a'.put oi.dst v)) a := by
  obtain ⟨h1, h2, h3⟩ := Oper.apart_spec hap
  have keep : ∀ u, YV P ops w oi v (a.put oj.dst u) := fun u => hy.of_same (execOp_put oi hsi a oj.dst u h3) (wanted_put oi a oj.dst u h3)
  unfold stV at *
  simp only [hj] at *
  rw [wanted_put oj a oi.dst v h1] at h
  split
  · rename_i hw
    simp only [hw, if_true] at h
    rw [execOp_put oj hsj a oi.dst v h1] at h
    obtain ⟨u, hu, hk⟩ := h
    exact ⟨u, hu, keep u, by rw [← Act.put_comm a v u h2]; exact hk⟩
  · rename_i hw
    simp only [hw] at h
    exact ⟨keep undef, by rw [← Act.put_comm a v undef h2]; exact h⟩
theorem wpOpIn_of_stV (hpl : plainB ops = true) (hfn : ∀ f, F.fn f) {Q' : Exit → Act → World → Prop} {i : Nat} {a : Act} {K : Act → Prop} {K' : Act → World → Prop} (h : ∀ a, K a → K' a w) (hh : stV P ops w i K a) : wpOpIn F m P ops Q' i K' a w := by
  unfold stV at hh
  unfold wpOpIn
  split
  · rename_i ho; simp only [ho] at hh; exact h _ hh
  · rename_i o ho
    simp only [ho] at hh
    split
    · rename_i hw
      simp only [hw, if_true] at hh
      obtain ⟨v, h1, h2⟩ := hh
      exact ⟨fun f _ => hfn f, by rw [semAt_plain' _ _ _ (plain_at hpl ho), h1]; exact h _ h2⟩
    · rename_i hw; simp only [hw] at hh; exact ⟨fun f _ => hfn f, h _ hh⟩
theorem wpAnyIn_of_seqT {Q' : Exit → Act → World → Prop} : ∀ (ts : List Nat) (l : List Oper) (listed : Array Bool) (a : Act) (w : World), ts.mapM (fun t => ops[t]?) = some l → seqT md ops ts listed = true → wpListIn F m P ops Q' l a w → wpAnyIn F m P md ops Q' ts.length listed a w
  | [], l, _, _, _, hl, hB, h => by
    simp at hl; subst hl
    exact ⟨by simpa [seqT] using hB, h⟩
  | t :: ts, l, listed, a, w, hl, hB, h => by
    rw [List.mapM_cons] at hl
    cases h0 : ops[t]? with
    | none => rw [h0] at hl; simp at hl
    | some o =>
      rw [h0] at hl
      cases hts : ts.mapM (fun t => ops[t]?) with
      | none => rw [hts] at hl; simp at hl
      | some l' =>
        rw [hts] at hl
        simp at hl
        subst hl
        simp only [seqT, Bool.and_eq_true, decide_eq_true_eq] at hB
        refine ⟨fun h1 => (by rw [hB.1] at h1; cases h1), fun i hi => ?_⟩
        rw [hB.1] at hi
        have hik : i = t := by simpa using hi
        subst hik
        have hw : wpOpIn F m P ops Q' i (wpListIn F m P ops Q' l') a w := by unfold wpOpIn; simp only [h0]; exact h
        exact wpOpIn_mono (fun a' w' h' => wpAnyIn_of_seqT ts l' _ a' w' hts hB.2 h') hw
def wpAnyV (P : Program) (md : Region.Mode) (ops : Array Oper) (w : World) (ts : List Nat) (L : Array Bool → Act → Prop) : Nat → Array Bool → Act → Prop
  | 0, listed, a => L listed a
  | f + 1, listed, a => Region.ready md ops listed ≠ [] ∧ ∀ i ∈ Region.ready md ops listed, i ∉ ts ∧ stV P ops w i (wpAnyV P md ops w ts L f (listed.setIfInBounds i true)) a
theorem wpAnyIn_of_headV (hpl : plainB ops = true) (hfn : ∀ f, F.fn f) {g : Nat} {L : Array Bool → Act → Prop} {Q' : Exit → Act → World → Prop} (hL : ∀ listed a, L listed a → wpAnyIn F m P md ops Q' g listed a w) :
    ∀ (f : Nat) (listed : Array Bool) (a : Act), wpAnyV P md ops w ts L f listed a → wpAnyIn F m P md ops Q' (f + g) listed a w
  | 0, listed, a, h => by rw [Nat.zero_add]; exact hL _ _ h
  | f + 1, listed, a, h => by
    rw [show f + 1 + g = (f + g) + 1 by omega]
    exact ⟨fun h0 => absurd h0 h.1, fun i hi => wpOpIn_of_stV hpl hfn (fun a' h' => wpAnyIn_of_headV hpl hfn hL f _ a' h') (h.2 i hi).2⟩
theorem wpAnyV_first {i t0 : Nat} {ts' : List Nat} {oi : Oper} {v : Value} {l0 : Array Bool} {L : Array Bool → Act → Prop} (hi : ops[i]? = some oi) (hsel : ∀ (j : Nat) (o : Oper) cs b, ops[j]? = some o → o.op ≠ .select cs b)
    (hts : ts = t0 :: ts') (hs : sinkT md ops l0 ts t0 = true) (hc : chainT md ops ts = true) (hin : i ∉ ts)
    (hdone : ∀ listed a, L listed a → ∀ j ∈ Region.ready md ops listed, j ∈ ts) :
    ∀ (f : Nat) (listed : Array Bool) (a : Act), (∀ i, listed.getD i true = false → l0.getD i true = false) → HI md ops ts listed →
      (∀ j oj, ops[j]? = some oj → j ≠ i → listed.getD j true = false → (∀ e ∈ oj.after, Region.binds md e = true → e.on ≠ i) → oi.apart ops oj = true) →
      i ∈ Region.ready md ops listed → YV P ops w oi v a →
      wpAnyV P md ops w ts L f (listed.setIfInBounds i true) (a.put oi.dst v) → wpAnyV P md ops w ts L (f + 1) listed a := by
  intro f
  induction f with
  | zero =>
    intro listed a hl inv _ hr hy H
    have hun := (mem_ready.1 hr).1
    refine ⟨fun h => (by rw [h] at hr; cases hr), fun j hj => ?_⟩
    have hi' := (Array.getElem?_eq_some_iff.1 hi).1
    have hjn : j ∉ ts := fun h => tail_waitsT hts hl hs hc inv _ i rfl hi' hin hun j h hj
    refine ⟨hjn, ?_⟩
    by_cases hji : j = i
    · subst hji; exact hy.stV hi H
    · exact absurd (hdone _ _ H j (ready_mono hj hji)) hjn
  | succ f ih =>
    intro listed a hl inv hfree hr hy H
    have hun := (mem_ready.1 hr).1
    refine ⟨fun h => (by rw [h] at hr; cases hr), fun j hj => ?_⟩
    have hi' := (Array.getElem?_eq_some_iff.1 hi).1
    have hjn : j ∉ ts := fun h => tail_waitsT hts hl hs hc inv _ i rfl hi' hin hun j h hj
    refine ⟨hjn, ?_⟩
    by_cases hji : j = i
    · subst hji; exact hy.stV hi H
    · have h1 := (H.2 j (ready_mono hj hji)).2
      obtain ⟨hjun, oj, hoj, hall⟩ := mem_ready.1 hj
      have hnot : ∀ e ∈ oj.after, Region.binds md e = true → e.on ≠ i := fun e he hb heq => by
        have h1 := hall e he hb
        rw [heq, getD_both hun] at h1
        cases h1
      have h2 := stV_put hoj (hfree j oj hoj hji hjun hnot) (fun cs b => hsel i oi cs b hi) (fun cs b => hsel j oj cs b hoj) hy h1
      have hfree' : ∀ k ok, ops[k]? = some ok → k ≠ i → (listed.setIfInBounds j true).getD k true = false →
          (∀ e ∈ ok.after, Region.binds md e = true → e.on ≠ i) → oi.apart ops ok = true := fun k ok hk hki hun hno => by
        refine hfree k ok hk hki ?_ hno
        by_cases hjk : j = k
        · subst hjk; exact hjun
        · rw [getD_set_ne true hjk] at hun; exact hun
      have hl' : ∀ k, (listed.setIfInBounds j true).getD k true = false → l0.getD k true = false := fun k hk => by
        by_cases hjk : j = k
        · subst hjk; exact hl j hjun
        · rw [getD_set_ne true hjk] at hk; exact hl k hk
      refine stV_mono (fun a' h3 => ih (listed.setIfInBounds j true) a' hl' (inv.set hj hjn) hfree' (ready_mono hr (Ne.symm hji)) h3.1 ?_) h2
      rw [Array.setIfInBounds_comm _ _ hji]
      exact h3.2
/-- What only looks, one after the other. -/
def wpCalm (P : Program) (ops : Array Oper) (w : World) (Q : Act → Prop) : List Oper → Act → Prop
  | [], a => Q a
  | o :: rest, a => if Region.wanted o (yielded ops a.tmps) then ∃ v, (execOp a.eval o).run P w = .ok (.value v) w ∧ wpCalm P ops w Q rest (a.put o.dst v) else wpCalm P ops w Q rest (a.put o.dst undef)
theorem wpAnyV_lex {t0 : Nat} {ts' : List Nat} {l0 : Array Bool} {Lq : Act → Prop} (hsel : Region.noSelect ops = true) (hts : ts = t0 :: ts') (hs : sinkT md ops l0 ts t0 = true) (hc : chainT md ops ts = true) :
    ∀ (ks : List Nat) (l : List Oper) (listed : Array Bool) (a : Act), ks.mapM (fun k => ops[k]?) = some l → (∀ i, listed.getD i true = false → l0.getD i true = false) → HI md ops ts listed →
    lexH md ops ts ks listed = true → wpCalm P ops w Lq l a →
    wpAnyV P md ops w ts (fun listed' a' => seqT md ops ts listed' = true ∧ Lq a') ks.length listed a
  | [], l, listed, a, hk, hl, inv, hB, h => by
    simp at hk
    subst hk
    exact ⟨hB, h⟩
  | k :: ks, l, listed, a, hk, hl, inv, hB, h => by
    rw [List.mapM_cons] at hk
    cases h0 : ops[k]? with
    | none => rw [h0] at hk; simp at hk
    | some o =>
      rw [h0] at hk
      cases hks : ks.mapM (fun k => ops[k]?) with
      | none => rw [hks] at hk; simp at hk
      | some l' =>
        rw [hks] at hk
        simp at hk
        subst hk
        simp only [lexH, Bool.and_eq_true] at hB
        obtain ⟨⟨⟨hkn, hr⟩, hf⟩, hB'⟩ := hB
        have hr' : k ∈ Region.ready md ops listed := by simpa using hr
        have hkn' : k ∉ ts := by simpa using hkn
        have hst : stV P ops w k (wpCalm P ops w Lq l') a := by unfold stV; simp only [h0]; exact h
        obtain ⟨v, hy, hK⟩ := yv_of_stV h0 hst
        have hl' : ∀ i, (listed.setIfInBounds k true).getD i true = false → l0.getD i true = false := fun i hi => by
          by_cases hjk : k = i
          · subst hjk; exact hl k (mem_ready.1 hr').1
          · rw [getD_set_ne true hjk] at hi; exact hl i hi
        exact wpAnyV_first h0 (Region.noSelect_spec hsel) hts hs hc hkn' (fun listed' a' hL => seqT_ready hts hL.1) ks.length listed a hl inv (Region.free_spec h0 hf) hr' hy
          (wpAnyV_lex hsel hts hs hc ks l' _ _ hks hl' (inv.set hr' hkn') hB' hK)
/-! ### copies, at any time -/
theorem wpOpIn_putV (hpl : plainB ops = true) {j : Nat} {oi oj : Oper} {v : Value} (hj : ops[j]? = some oj) (hap : oi.apart ops oj = true) (hsj : ∀ cs b, oj.op ≠ .select cs b) {Q : Exit → Act → World → Prop} {Y : Act → Prop} (hY : ∀ a, Y a → (∀ u, Y (a.put oj.dst u)) ∧ ∀ d u, Y (({ a with defers := d :: a.defers } : Act).put oj.dst u))
    (hQ : ∀ c a w, ¬ Q (.panic c) a w) {K : Act → World → Prop} {a : Act} {w : World} (hy : Y a) (h : wpOpIn F m P ops Q j K (a.put oi.dst v) w) : wpOpIn F m P ops Q j (fun a' w' => Y a' ∧ K (a'.put oi.dst v) w') a w := by
  obtain ⟨h1, h2, h3⟩ := Oper.apart_spec hap
  have hp := plain_at hpl hj
  unfold wpOpIn at *
  simp only [hj] at *
  rw [wanted_put oj a oi.dst v h1, about_put oj w a oi.dst v h1] at h
  split
  · rename_i hw
    simp only [hw, if_true] at h
    unfold Oper.wpIn at *
    rw [about_put oj w a oi.dst v h1] at h
    refine ⟨h.1, ?_⟩
    have h := h.2
    rw [semAt_plain' _ _ _ hp, execOp_put oj hsj a oi.dst v h1] at h
    rw [semAt_plain' _ _ _ hp]
    generalize (execOp a.eval oj).run P w = r at *
    cases r with
    | ok x w' =>
      cases x <;> simp only [Oper.uponIn] at h ⊢
      case value u => exact ⟨(hY a hy).1 u, by rw [← Act.put_comm a v u h2]; exact h⟩
      case skip => exact ⟨(hY a hy).1 _, by rw [← Act.put_comm a v undef h2]; exact h⟩
      case defer d =>
        refine ⟨(hY a hy).2 d _, ?_⟩
        rw [← Act.put_comm _ v undef h2, ← Act.put_defers]
        exact h
      case enter f args =>
        refine ⟨h.1, CallsIn.mono h.2 fun e w'' he => ?_⟩
        cases e with
        | returned u => exact ⟨(hY a hy).1 u, by rw [← Act.put_comm a v u h2]; exact he⟩
        | panicked c => exact (hQ _ _ _ he).elim
        | outgrown => exact he
      case row row args => exact ⟨h.1, RowsIn.mono h.2 fun u w'' he => ⟨(hY a hy).1 u, by rw [← Act.put_comm a v u h2]; exact he⟩⟩
      case round l f tmps assign body =>
        refine ⟨h.1, RoundIn.mono h.2 fun e w'' he => ?_⟩
        cases e with
        | returned u => exact ⟨(hY a hy).1 u, by rw [← Act.put_comm a v u h2]; exact he⟩
        | panicked c => exact (hQ _ _ _ he).elim
        | outgrown => exact he
    | halt x w' =>
      cases x <;> simp only [Oper.uponIn] at h ⊢
      case panic u => exact (hQ _ _ _ h).elim
  · rename_i hw
    simp only [hw] at h
    exact ⟨h.1, (hY a hy).1 _, by rw [← Act.put_comm a v undef h2]; exact h.2⟩
theorem wpAnyIn_move (hpl : plainB ops = true) {Q : Exit → Act → World → Prop} (hQ : ∀ c a w, ¬ Q (.panic c) a w) (hfn : ∀ f, F.fn f) {i d : Nat} {x : Operand} {ty : TypeId} {pos : String} {af : Array Edge} (hi : ops[i]? = some ⟨some d, .move x, ty, pos, af, none⟩) (hsel : ∀ (j : Nat) (o : Oper) cs b, ops[j]? = some o → o.op ≠ .select cs b) :
    ∀ (fuel : Nat) (listed : Array Bool) (a : Act) (w : World),
      (∀ j oj, ops[j]? = some oj → j ≠ i → listed.getD j true = false → (∀ e ∈ oj.after, Region.binds md e = true → e.on ≠ i) → (⟨some d, .move x, ty, pos, af, none⟩ : Oper).apart ops oj = true) →
      i ∈ Region.ready md ops listed → wpAnyIn F m P md ops Q fuel (listed.setIfInBounds i true) (a.put (some d) (a.eval x)) w → wpAnyIn F m P md ops Q (fuel + 1) listed a w := by
  have hst : ∀ (a : Act) w, stV P ops w i (fun a' => a' = a.put (some d) (a.eval x)) a := fun a w => by
    unfold stV
    simp only [hi]
    rw [if_pos (show Region.wanted ⟨some d, .move x, ty, pos, af, none⟩ (yielded ops a.tmps) = true from rfl)]
    exact ⟨a.eval x, by simp [execOp], rfl⟩
  intro fuel
  induction fuel with
  | zero =>
    intro listed a w _ hr H
    refine ⟨fun h => (by rw [h] at hr; cases hr), fun j hj => ?_⟩
    by_cases hji : j = i
    · subst hji
      exact wpOpIn_of_stV hpl hfn (fun a' h => by subst h; exact H) (hst a w)
    · have := ready_mono hj hji
      rw [H.1] at this
      cases this
  | succ fuel ih =>
    intro listed a w hfree hr H
    refine ⟨fun h => (by rw [h] at hr; cases hr), fun j hj => ?_⟩
    by_cases hji : j = i
    · subst hji
      exact wpOpIn_of_stV hpl hfn (fun a' h => by subst h; exact H) (hst a w)
    · have h1 := H.2 j (ready_mono hj hji)
      obtain ⟨hjun, oj, hoj, hall⟩ := mem_ready.1 hj
      have hnot : ∀ e ∈ oj.after, Region.binds md e = true → e.on ≠ i := fun e he hb heq => by
        have h1 := hall e he hb
        rw [heq, getD_both (mem_ready.1 hr).1] at h1
        cases h1
      have hap := hfree j oj hoj hji hjun hnot
      obtain ⟨_, _, h3⟩ := Oper.apart_spec hap
      have hev : ∀ (a : Act) u, (a.put oj.dst u).eval x = a.eval x := fun a u => Act.eval_put fun d' hd' hxd => h3 d' hd' (by
        subst hxd
        exact List.mem_append_left _ (List.mem_filterMap.2 ⟨.tmp d', by simp [Op.operands], rfl⟩))
      have h2 := wpOpIn_putV hpl hoj hap (fun cs b => hsel j oj cs b hoj) (Y := fun a' => a'.eval x = a.eval x) (fun a' h => ⟨fun u => by rw [hev]; exact h, fun d u => by rw [hev]; exact h⟩) hQ rfl h1
      have hfree' : ∀ k ok, ops[k]? = some ok → k ≠ i → (listed.setIfInBounds j true).getD k true = false →
          (∀ e ∈ ok.after, Region.binds md e = true → e.on ≠ i) → (⟨some d, .move x, ty, pos, af, none⟩ : Oper).apart ops ok = true := fun k ok hk hki hun hno => by
        refine hfree k ok hk hki ?_ hno
        by_cases hjk : j = k
        · subst hjk; exact hjun
        · rw [getD_set_ne true hjk] at hun; exact hun
      refine wpOpIn_mono (fun a' w' h3 => ih (listed.setIfInBounds j true) a' w' hfree' (ready_mono hr (Ne.symm hji)) ?_) h2
      rw [Array.setIfInBounds_comm _ _ hji, h3.1]
      exact h3.2
theorem pre_takeV (hpl : plainB ops = true) (hfn : ∀ f, F.fn f) {Q' : Exit → Act → World → Prop} (hsel : Region.noSelect ops = true) (hQ : ∀ c a w, ¬ Q' (.panic c) a w) {N : Nat} {D : List Deferred} (hN : ops.all (fun o => o.dst.all fun d => Nat.blt d N) = true) : ∀ (ks : List Nat) (listed l1 : Array Bool) (E E' : Env) (a : Act) (f : Nat), Ok N E D a → preT md ops ts ks listed = some l1 → preE ops ks E = some E' → HI md ops ts listed →
    (∀ a', Ok N E' D a' → HI md ops ts l1 → wpAnyIn F m P md ops Q' f l1 a' w) → wpAnyIn F m P md ops Q' (ks.length + f) listed a w
  | [], listed, l1, E, E', a, f, ha, hb, he, inv, h => by
    simp only [preT, Option.some.injEq] at hb
    simp only [preE, Option.some.injEq] at he
    subst hb he
    rw [List.length_nil, Nat.zero_add]
    exact h a ha inv
  | k :: ks, listed, l1, E, E', a, f, ha, hb, he, inv, h => by
    simp only [preT] at hb
    simp only [preE] at he
    split at hb
    · rename_i d x ty pos af hk
      rw [hk] at he
      simp only [] at he
      split at he
      · rename_i v hv
        cases hcond : (!(ts.contains k) && (Region.ready md ops listed).contains k && Region.free md ops listed k) with
        | false => rw [hcond] at hb; cases hb
        | true =>
          rw [hcond] at hb
          simp only [cond_true] at hb
          simp only [Bool.and_eq_true] at hcond
          obtain ⟨⟨hkn, hr⟩, hf⟩ := hcond
          have hr' : k ∈ Region.ready md ops listed := by simpa using hr
          have hd : Nat.blt d N = true := by
            have hm := Array.all_eq_true.1 hN k (Array.getElem?_eq_some_iff.1 hk).1
            rw [Array.getElem?_eq_getElem (Array.getElem?_eq_some_iff.1 hk).1] at hk
            rw [Option.some.inj hk] at hm
            simpa using hm
          rw [List.length_cons, show ks.length + 1 + f = (ks.length + f) + 1 by omega]
          refine wpAnyIn_move hpl hQ hfn hk (Region.noSelect_spec hsel) _ _ _ _ (Region.free_spec hk hf) hr' ?_
          rw [ha.fit.op hv]
          exact pre_takeV hpl hfn hsel hQ hN ks _ l1 _ E' _ f (ha.put hd) hb he (inv.set hr' (by simpa using hkn)) h
      · cases he
    · cases hb
end
section
variable {c : Cx} {Q : Post} {E E' : Env} {D : List Deferred} {H : List Res}
def Md.headV (c : Cx) (ops : Array Oper) (w0 : World) (tail : List Oper) (Q : Post) : Md c where
  X := fun l a w => w = w0 → wpCalm c.P ops w0 (fun a' => wpListIn c.F 0 c.P ops (lift c Q) tail a' w0) l a
  ops := ops
  calm o rest a w v hw hp hr hK := by
    rintro rfl
    simp only [wpCalm, hw, if_true]
    exact ⟨v, hr, hK rfl⟩
  skip o rest a w hw hK := by
    rintro rfl
    simp only [wpCalm, hw]
    exact hK rfl
  want dst op ty pos af g rest a w hw h := by
    rintro rfl
    have h := h rfl
    simp only [wpCalm] at h ⊢
    rw [if_pos hw]
    rw [if_pos (show Region.wanted { dst := dst, op := op, type := ty, pos := pos, after := af, guard := none } (yielded ops a.tmps) = true from rfl)] at h
    exact h
theorem oHeadV {ops : Array Oper} {w0 : World} {tail : List Oper} (h : O (Me.list c ops Q).toMd tail E D H) : O (Md.headV c ops w0 tail Q) [] E D H := by
  rintro a w ha hw rfl
  exact h a w ha hw
def drawV (ops : Array Oper) (N : Nat) (ps ks ts : List Nat) (t0 : Nat) : Bool := plainB ops && drawT ops N ps ks ts t0
theorem wDrawV (hm : c.P.follows .mixedOrders = true) {id : Nat} {l hd tl : List Oper} (ps ks : List Nat) (t0 : Nat) (ts : List Nat) (hB : drawV l.toArray c.N ps ks (t0 :: ts) t0 = true) (hE : preE l.toArray ps E = some E') (hk : ks.mapM (fun k => l[k]?) = some hd) (htl : (t0 :: ts).mapM (fun k => l[k]?) = some tl)
    (h : ∀ w0, O (Md.headV c l.toArray w0 tl Q) hd E' D H) : W c (.region id l.toArray true) Q E D H := by
  intro a w ha hw
  refine wpIn_region_any hm ?_
  simp only [drawV, drawT, Bool.and_eq_true, Nat.beq_eq] at hB
  obtain ⟨hpl, ⟨⟨⟨⟨hsel, hN⟩, hlen⟩, htr⟩, hc⟩, hB⟩ := hB
  split at hB
  · rename_i l1 hl1
    simp only [Bool.and_eq_true] at hB
    obtain ⟨hs, hlex⟩ := hB
    have inv0 : HI .any l.toArray (t0 :: ts) (Array.replicate l.toArray.size false) :=
      ⟨by simp, fun j oj _ hl => (by rw [getD_replicate_false] at hl; cases hl), fun t ht => getD_in (by have := List.all_eq_true.1 htr t ht; simpa [Nat.blt_eq] using this) (getD_replicate_false _ _)⟩
    have htot : l.toArray.size = ps.length + (ks.length + (t0 :: ts).length) := by omega
    have hgo : wpAnyIn c.F 0 c.P .any l.toArray (lift c Q) (ps.length + (ks.length + (t0 :: ts).length)) (Array.replicate l.toArray.size false) a w.drew := by
      refine pre_takeV (D := D) hpl c.fn hsel (fun c a w ⟨E, D, H, h1, h2, h3, h4⟩ => h4) hN ps _ l1 E E' a (ks.length + (t0 :: ts).length) ha hl1 hE inv0 (fun a' ha' inv1 => ?_)
      have hks : ks.mapM (fun k => l.toArray[k]?) = some hd := by simpa using hk
      have htl' : (t0 :: ts).mapM (fun k => l.toArray[k]?) = some tl := by simpa using htl
      have H1 := wpAnyV_lex (md := .any) (P := c.P) (w := w.drew) (Lq := fun a' => wpListIn c.F 0 c.P l.toArray (lift c Q) tl a' w.drew) hsel rfl hs hc ks hd l1 a' hks (fun i hi => hi) inv1 hlex (h w.drew a' w.drew ha' hw.drew rfl)
      exact wpAnyIn_of_headV hpl c.fn (Q' := lift c Q) (g := (t0 :: ts).length) (fun listed a' hL => wpAnyIn_of_seqT _ tl listed a' w.drew htl' hL.1 hL.2) _ _ _ H1
    rw [htot]
    rw [← htot] at hgo ⊢
    exact hgo
  · cases hB
end
end Go.Proofs.YtnidmlngkpkmlaaK
