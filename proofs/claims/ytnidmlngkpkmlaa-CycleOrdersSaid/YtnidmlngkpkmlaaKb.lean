/-
  The walk over named slots: a state is a list of slots with values, the deferred calls, the resources; one rule for each form of code, and for each operation that leaves the world alone.
-/
import Derived.Test.YtnidmlngkpkmlaaKa
import Derived.TacticsIn
import Derived.StillTail
import Derived.Calls
import Derived.BigFrameIn
import Derived.LoopNIn
import Derived.RangeFuncCalls
namespace Go.Proofs.YtnidmlngkpkmlaaK
set_option linter.unusedVariables false
set_option linter.unusedSimpArgs false
open Go.RowKit

/-! ### 1. Slots -/
abbrev Env := List (Nat × Value)
def Env.find : Env → Nat → Option Value
  | [], _ => none
  | (k, v) :: E, t => bif Nat.beq k t then some v else Env.find E t
def Env.op (E : Env) : Operand → Option Value
  | .tmp t => E.find t
  | .const v => some v
  | .global g => some (.pointer (some ⟨g, 0, none⟩))
  | .func f => some (.func (.func f) #[] #[])
def Env.ops (E : Env) : List Operand → Option (List Value)
  | [] => some []
  | x :: xs => match E.op x with
    | none => none
    | some v => match Env.ops E xs with
      | none => none
      | some vs => some (v :: vs)
def Fits (E : Env) (a : Act) : Prop := ∀ t v, E.find t = some v → a.tmps.getD t undef = v
structure Ok (N : Nat) (E : Env) (D : List Deferred) (a : Act) : Prop where
  size : a.tmps.size = N
  fit : Fits E a
  dfr : a.defers = D
theorem Fits.op {E : Env} {a : Act} (h : Fits E a) {x : Operand} {v : Value} (hx : E.op x = some v) : a.eval x = v := by
  cases x with
  | tmp t => exact h t v hx
  | const u => exact Option.some.inj hx
  | global g => exact Option.some.inj hx
  | func f => exact Option.some.inj hx
theorem Fits.ops {E : Env} {a : Act} (h : Fits E a) : ∀ {xs : List Operand} {vs : List Value}, E.ops xs = some vs → xs.map a.eval = vs
  | [], vs, hx => by simp only [Env.ops, Option.some.injEq] at hx; subst hx; rfl
  | x :: xs, vs, hx => by
    simp only [Env.ops] at hx
    split at hx
    · cases hx
    · rename_i v hv
      split at hx
      · cases hx
      · rename_i us hus
        injection hx with hx
        subst hx
        simp [h.op hv, Fits.ops h hus]
theorem Env.find_cons (k t : Nat) (v : Value) (E : Env) : Env.find ((k, v) :: E) t = if k = t then some v else E.find t := by
  show (bif Nat.beq k t then some v else Env.find E t) = _
  by_cases h : k = t
  · subst h; simp
  · have : Nat.beq k t = false := by cases hb : Nat.beq k t <;> simp_all [Nat.beq_eq]
    rw [this, if_neg h]; rfl
theorem Ok.put {N : Nat} {E : Env} {D : List Deferred} {a : Act} (h : Ok N E D a) {d : Nat} {v : Value} (hd : Nat.blt d N = true) : Ok N ((d, v) :: E) D (a.put (some d) v) := by
  have hd' : d < a.tmps.size := by have := h.size; have : d < N := by simpa [Nat.blt_eq] using hd
                                   omega
  refine ⟨by simpa [Act.put] using h.size, fun t u hu => ?_, h.dfr⟩
  rw [Env.find_cons] at hu
  simp only [Act.put, Array.getD_eq_getD_getElem?, Array.getElem?_setIfInBounds]
  split at hu
  · rename_i e; subst e; injection hu with hu; subst hu; simp [hd']
  · rename_i hne
    rw [if_neg hne]
    have := h.fit t u hu
    rwa [Array.getD_eq_getD_getElem?] at this
theorem Ok.put_none {N : Nat} {E : Env} {D : List Deferred} {a : Act} (h : Ok N E D a) {v : Value} : Ok N E D (a.put none v) := h
/-- E' says no more than E. -/
def Cov (E : Env) : Env → Prop
  | [] => True
  | (t, v) :: E' => E.find t = some v ∧ Cov E E'
theorem Cov.find {E : Env} : ∀ {E' : Env} {t : Nat} {v : Value}, Cov E E' → E'.find t = some v → E.find t = some v
  | (k, u) :: E', t, v, h, hf => by
    rw [Env.find_cons] at hf
    split at hf
    · rename_i e; subst e; injection hf with hf; subst hf; exact h.1
    · exact Cov.find h.2 hf
theorem Ok.cov {N : Nat} {E E' : Env} {D : List Deferred} {a : Act} (h : Ok N E D a) (hc : Cov E E') : Ok N E' D a := ⟨h.size, fun t v hv => h.fit t v (hc.find hv), h.dfr⟩
theorem Ok.enter (N : Nat) (args : List Value) (h : args.length ≤ N) : Ok N ((args.zipIdx).map fun p => (p.2, p.1)) [] { tmps := args.toArray ++ Array.replicate (N - args.toArray.size) undef, defers := [] } := by
  refine ⟨by simp; omega, ?_, rfl⟩
  have key : ∀ (l : List Value) (k t : Nat) (v : Value), Env.find ((l.zipIdx k).map fun p => (p.2, p.1)) t = some v → k ≤ t ∧ l[t - k]? = some v := by
    intro l
    induction l with
    | nil => intro k t v h; cases h
    | cons x l ih =>
      intro k t v h
      rw [List.zipIdx_cons, List.map_cons, Env.find_cons] at h
      split at h
      · rename_i e; subst e; injection h with h; subst h; simp
      · obtain ⟨h1, h2⟩ := ih _ _ _ h
        refine ⟨by omega, ?_⟩
        have : t - k = (t - (k + 1)) + 1 := by omega
        rw [this, List.getElem?_cons_succ]; exact h2
  intro t v hv
  obtain ⟨_, h2⟩ := key args 0 t v hv
  have ht : t < args.length := (List.getElem?_eq_some_iff.1 h2).1
  simp only [Array.getD_eq_getD_getElem?]
  rw [Array.getElem?_append_left (by simpa using ht)]
  simp at h2
  simp [h2]

/-! ### 2. What is owed -/
structure Cx where
  P : Program
  F : Fence
  N : Nat
  B : Base
  fn : ∀ f, F.fn f
  dp : F.depth.isSome = false
  call : ∀ {g : FuncId} {args : Array Value} {w : World} {R : Ending → World → Prop}, CallsIn Fence.wide 0 P g args w R → CallsIn F 0 P g args w R
abbrev Post := Exit → Env → List Deferred → List Res → Prop
def okE : Exit → Prop
  | .panic _ => False
  | _ => True
def lift (c : Cx) (Q : Post) : Exit → Act → World → Prop := fun e a w => ∃ E D H, Ok c.N E D a ∧ St c.B H w ∧ Q e E D H ∧ okE e
def W (c : Cx) (x : Code) (Q : Post) (E : Env) (D : List Deferred) (H : List Res) : Prop := ∀ a w, Ok c.N E D a → St c.B H w → x.wpIn c.F 0 c.P (lift c Q) a w
@[reducible] def thn (K : Env → List Deferred → List Res → Prop) (Q : Post) : Post
  | .normal, E, D, H => K E D H
  | e, E, D, H => Q e E D H
@[reducible] def inBlk (id : Nat) (Q : Post) : Post
  | .exit i, E, D, H => bif Nat.beq i id then Q .normal E D H else Q (.exit i) E D H
  | e, E, D, H => Q e E D H
theorem lift_mono {c : Cx} {Q Q' : Post} (h : ∀ e E D H, Q e E D H → Q' e E D H) : ∀ e a w, lift c Q e a w → lift c Q' e a w := fun _ _ _ ⟨E, D, H, h1, h2, h3, h4⟩ => ⟨E, D, H, h1, h2, h _ _ _ _ h3, h4⟩
section
variable {c : Cx} {Q Q' : Post} {E E' : Env} {D : List Deferred} {H H' : List Res} {x y : Code}
theorem wMono (h : W c x Q' E D H) (hq : ∀ e E D H, Q' e E D H → Q e E D H) : W c x Q E D H := fun a w ha hw => wpIn_mono (h a w ha hw) (lift_mono hq)
/-- Less is known. -/
theorem wForget (hE : Cov E E') (hH : Leads c.B H H') (h : W c x Q E' D H') : W c x Q E D H := fun a w ha hw => h a w (ha.cov hE) (hH _ hw)
theorem wConv (hH : ∀ w, St c.B H w → St c.B H' w) (h : W c x Q E D H') : W c x Q E D H := fun a w ha hw => h a w ha (hH w hw)
theorem wSeq (h : W c x (thn (W c y Q) Q) E D H) : W c (x.seq y) Q E D H := fun a w ha hw => wpIn_seq (wpIn_mono (h a w ha hw) (by
  rintro e a w ⟨E, D, H, h1, h2, h3⟩
  cases e with
  | normal => exact h3.1 a w h1 h2
  | _ => exact ⟨E, D, H, h1, h2, h3⟩))
theorem wSkip (h : Q .normal E D H) : W c .skip Q E D H := fun a w ha hw => wpIn_skip ⟨E, D, H, ha, hw, h, trivial⟩
theorem wRet (h : Q .ret E D H) : W c .ret Q E D H := fun a w ha hw => wpIn_ret ⟨E, D, H, ha, hw, h, trivial⟩
theorem wExit {id : Nat} (h : Q (.exit id) E D H) : W c (.exit id) Q E D H := fun a w ha hw => wpIn_exit ⟨E, D, H, ha, hw, h, trivial⟩
theorem wLabel {id : Nat} (h : Q .normal E D H) : W c (.label id) Q E D H := fun a w ha hw => wpIn_label ⟨E, D, H, ha, hw, h, trivial⟩
theorem wCondT {o : Operand} (hc : E.op o = some (.bool true)) (h : W c x Q E D H) : W c (.cond o x y) Q E D H := fun a w ha hw => wpIn_cond_true (ha.fit.op hc) (h a w ha hw)
theorem wCondF {o : Operand} (hc : E.op o = some (.bool false)) (h : W c y Q E D H) : W c (.cond o x y) Q E D H := fun a w ha hw => wpIn_cond_false (ha.fit.op hc) (h a w ha hw)
theorem wCond {o : Operand} {p : Prop} [Decidable p] (hc : E.op o = some (.bool (decide p))) (h1 : p → W c x Q E D H) (h0 : ¬ p → W c y Q E D H) : W c (.cond o x y) Q E D H := by
  intro a w ha hw
  by_cases hp : p
  · exact wpIn_cond_true (by rw [ha.fit.op hc]; simp [hp]) (h1 hp a w ha hw)
  · exact wpIn_cond_false (by rw [ha.fit.op hc]; simp [hp]) (h0 hp a w ha hw)
theorem wCondB {o : Operand} {p : Bool} (hc : E.op o = some (.bool p)) (h1 : p = true → W c x Q E D H) (h0 : p = false → W c y Q E D H) : W c (.cond o x y) Q E D H := by
  intro a w ha hw
  cases p
  · exact wpIn_cond_false (ha.fit.op hc) (h0 rfl a w ha hw)
  · exact wpIn_cond_true (ha.fit.op hc) (h1 rfl a w ha hw)
theorem wBlock {id : Nat} (h : W c x (inBlk id Q) E D H) : W c (.block id x) Q E D H := fun a w ha hw => wpIn_block (wpIn_mono (h a w ha hw) (by
  rintro e a w ⟨E, D, H, h1, h2, h3⟩
  cases e with
  | exit i =>
    simp only [Exit.inBlock]
    by_cases hi : i = id
    · rw [if_pos hi]
      have : Nat.beq i id = true := by simpa [Nat.beq_eq] using hi
      simp only [inBlk, this, cond_true] at h3
      exact ⟨E, D, H, h1, h2, h3.1, trivial⟩
    · rw [if_neg hi]
      have : Nat.beq i id = false := by cases hb : Nat.beq i id <;> simp_all [Nat.beq_eq]
      simp only [inBlk, this, cond_false] at h3
      exact ⟨E, D, H, h1, h2, h3⟩
  | _ => exact ⟨E, D, H, h1, h2, h3⟩))
/-- A loop: at its head the state is one of a family; each round leads to one of a lesser measure, or out. -/
theorem wLoop {ι : Type} (Ei : ι → Env) (Hi : ι → List Res) (inv : ι → Prop) (μ : ι → Nat) (i0 : ι) (h0 : inv i0) (hE : Cov E (Ei i0)) (hH : Leads c.B H (Hi i0))
    (round : ∀ i, inv i → W c x (thn (fun E' D' H' => D' = D ∧ ∃ i', inv i' ∧ μ i' < μ i ∧ Cov E' (Ei i') ∧ Leads c.B H' (Hi i')) Q) (Ei i) D (Hi i)) : W c (.loop x) Q E D H := by
  have key : ∀ m i a w, μ i < m → inv i → Ok c.N (Ei i) D a → St c.B (Hi i) w → Code.roundsIn c.F 0 c.P x (lift c Q) m a w := by
    intro m
    induction m with
    | zero => intro i a w h; omega
    | succ m ih =>
      intro i a w hm hi ha hw
      rw [roundsIn_succ]
      refine wpIn_mono (round i hi a w ha hw) ?_
      rintro e a' w' ⟨E', D', H', h1, h2, h3⟩
      cases e with
      | normal =>
        obtain ⟨⟨rfl, i', hi', hlt, hcov, hsp⟩, _⟩ := h3
        exact ih i' a' w' (by omega) hi' (h1.cov hcov) (hsp _ h2)
      | _ => exact ⟨E', D', H', h1, h2, h3⟩
  intro a w ha hw
  exact wpIn_loop_rounds (μ i0 + 1) (key _ i0 a w (Nat.lt_succ_self _) h0 (ha.cov hE) (hH _ hw))
/-- Ways that meet again: whichever way, the state is one of a family. -/
theorem wCut {ι : Type} (Ei : ι → Env) (Hi : ι → List Res) (inv : ι → Prop) (h : W c x (thn (fun E' D' H' => D' = D ∧ ∃ i', inv i' ∧ Cov E' (Ei i') ∧ Leads c.B H' (Hi i')) Q) E D H) (k : ∀ i, inv i → W c y Q (Ei i) D (Hi i)) : W c (x.seq y) Q E D H :=
  wSeq (wMono h (by
    intro e E' D' H' hq
    cases e with
    | normal =>
      obtain ⟨rfl, i', hi, hcov, hsp⟩ := hq
      exact wForget hcov hsp (k i' hi)
    | _ => exact hq))
end

/-! ### 3. Operations -/
def plain : Op → Bool
  | .defer _ => false
  | _ => true
theorem semAt_plain' (F : Fence) (ρ : Operand → Value) (o : Oper) (h : plain o.op = true) : o.semAt F.round ρ = execOp ρ o :=
  Oper.semAt_plain F ρ o (fun c hc => by rw [hc] at h; simp [plain] at h)
/-- A way of going through a list of operations. -/
structure Md (c : Cx) where
  X : List Oper → Act → World → Prop
  ops : Array Oper
  calm : ∀ o rest a w v, Region.wanted o (yielded ops a.tmps) = true → plain o.op = true → (execOp a.eval o).run c.P w = .ok (.value v) w → X rest (a.put o.dst v) w → X (o :: rest) a w
  skip : ∀ o rest a w, Region.wanted o (yielded ops a.tmps) = false → X rest (a.put o.dst undef) w → X (o :: rest) a w
  want : ∀ (dst : Option Tmp) (op : Op) (ty : TypeId) (pos : String) (af : Array Edge) (g : Nat × Bool) rest (a : Act) w, Region.wanted ⟨dst, op, ty, pos, af, some g⟩ (yielded ops a.tmps) = true → X (⟨dst, op, ty, pos, af, none⟩ :: rest) a w → X (⟨dst, op, ty, pos, af, some g⟩ :: rest) a w
def O {c : Cx} (M : Md c) (l : List Oper) (E : Env) (D : List Deferred) (H : List Res) : Prop := ∀ a w, Ok c.N E D a → St c.B H w → M.X l a w
/-- One after the other, as they stand. -/
def Md.list (c : Cx) (ops : Array Oper) (Q : Post) : Md c where
  X := wpListIn c.F 0 c.P ops (lift c Q)
  ops := ops
  calm o rest a w v hw hp hr hK := by
    simp only [wpListIn, hw, if_true]
    exact ⟨fun f _ => c.fn f, by rw [semAt_plain' _ _ _ hp, hr]; exact hK⟩
  skip o rest a w hw hK := by
    simp only [wpListIn, hw]
    exact ⟨fun f _ => c.fn f, hK⟩
  want dst op ty pos af g rest a w hw h := by
    simp only [wpListIn] at h ⊢
    rw [if_pos hw]
    rw [if_pos (show Region.wanted { dst := dst, op := op, type := ty, pos := pos, after := af, guard := none } (yielded ops a.tmps) = true from rfl)] at h
    exact h
section
variable {c : Cx} {Q : Post} {E : Env} {D : List Deferred} {H : List Res}
theorem oNil {ops : Array Oper} (h : Q .normal E D H) : O (Md.list c ops Q) [] E D H := fun a w ha hw => ⟨E, D, H, ha, hw, h, trivial⟩
/-- Where operations may turn the world. -/
structure Me (c : Cx) extends Md c where
  eff : ∀ o rest a w v w', Region.wanted o (yielded ops a.tmps) = true → plain o.op = true → (execOp a.eval o).run c.P w = .ok (.value v) w' → X rest (a.put o.dst v) w' → X (o :: rest) a w
  effs : ∀ o rest a w w', Region.wanted o (yielded ops a.tmps) = true → plain o.op = true → (execOp a.eval o).run c.P w = .ok .skip w' → X rest (a.put o.dst undef) w' → X (o :: rest) a w
  enter : ∀ o rest a w g args w1, Region.wanted o (yielded ops a.tmps) = true → plain o.op = true → (execOp a.eval o).run c.P w = .ok (.enter g args) w1 →
    CallsIn Fence.wide 0 c.P g args w1 (fun e w2 => ∃ v, e = .returned v ∧ X rest (a.put o.dst v) w2) → X (o :: rest) a w
def Me.list (c : Cx) (ops : Array Oper) (Q : Post) : Me c where
  toMd := Md.list c ops Q
  eff o rest a w v w' hw hp hr hK := by
    show wpListIn _ _ _ _ _ _ _ _
    simp only [wpListIn]
    rw [if_pos (show Region.wanted o (yielded ops a.tmps) = true from hw)]
    exact ⟨fun f _ => c.fn f, by rw [semAt_plain' _ _ _ hp, hr]; exact hK⟩
  effs o rest a w w' hw hp hr hK := by
    show wpListIn _ _ _ _ _ _ _ _
    simp only [wpListIn]
    rw [if_pos (show Region.wanted o (yielded ops a.tmps) = true from hw)]
    exact ⟨fun f _ => c.fn f, by rw [semAt_plain' _ _ _ hp, hr]; exact hK⟩
  enter o rest a w g args w1 hw hp hr hK := by
    show wpListIn _ _ _ _ _ _ _ _
    simp only [wpListIn]
    rw [if_pos (show Region.wanted o (yielded ops a.tmps) = true from hw)]
    refine ⟨fun f _ => c.fn f, ?_⟩
    rw [semAt_plain' _ _ _ hp, hr]
    refine ⟨fun h => absurd h (by rw [c.dp]; simp), (c.call hK).mono ?_⟩
    rintro e w2 ⟨v, rfl, hx⟩
    exact hx
/-- Behind what only looks, in a region that draws its order. -/
def Me.tail (c : Cx) (ops : Array Oper) (Q : Post) : Me c where
  X := wpList c.P ops (lift c Q)
  ops := ops
  calm o rest a w v hw hp hr hK := by
    simp only [wpList, hw, if_true]
    exact .inl (by simp only [Oper.wp, hr]; exact hK)
  skip o rest a w hw hK := by simp only [wpList, hw]; exact hK
  want dst op ty pos af g rest a w hw h := by
    simp only [wpList] at h ⊢
    rw [if_pos hw]
    rw [if_pos (show Region.wanted { dst := dst, op := op, type := ty, pos := pos, after := af, guard := none } (yielded ops a.tmps) = true from rfl)] at h
    exact h
  eff o rest a w v w' hw hp hr hK := by
    simp only [wpList, hw, if_true]
    exact .inl (by simp only [Oper.wp, hr]; exact hK)
  effs o rest a w w' hw hp hr hK := by
    simp only [wpList, hw, if_true]
    exact .inl (by simp only [Oper.wp, hr]; exact hK)
  enter o rest a w g args w1 hw hp hr hK := by
    simp only [wpList, hw, if_true]
    refine .inl ?_
    simp only [Oper.wp, hr]
    refine Calls.mono (callsIn_wide.1 hK) ?_
    rintro e w2 ⟨v, rfl, hx⟩
    exact hx
/-- What only looks, in a region that draws its order. -/
def Md.head (c : Cx) (ops : Array Oper) (w0 : World) (tail : List Oper) (Q : Post) : Md c where
  X := fun l a w => w = w0 → wpStill c.P ops w0 (fun a' => wpList c.P ops (lift c Q) tail a' w0) l a
  ops := ops
  calm o rest a w v hw hp hr hK := by
    rintro rfl
    simp only [wpStill, hw, if_true, Oper.still, hr, Oper.stillUpon]
    exact ⟨trivial, hK rfl⟩
  skip o rest a w hw hK := by
    rintro rfl
    simp only [wpStill, hw]
    exact hK rfl
  want dst op ty pos af g rest a w hw h := by
    rintro rfl
    have h := h rfl
    simp only [wpStill] at h ⊢
    rw [if_pos hw]
    rw [if_pos (show Region.wanted { dst := dst, op := op, type := ty, pos := pos, after := af, guard := none } (yielded ops a.tmps) = true from rfl)] at h
    exact h
theorem oHead {ops : Array Oper} {w0 : World} {tail : List Oper} (h : O (Me.tail c ops Q).toMd tail E D H) : O (Md.head c ops w0 tail Q) [] E D H := by
  rintro a w ha hw rfl
  exact h a w ha hw
theorem oNilT {ops : Array Oper} (h : Q .normal E D H) : O (Me.tail c ops Q).toMd [] E D H := fun a w ha hw => ⟨E, D, H, ha, hw, h, trivial⟩
/-- A region that draws its order: n operations that only look, then the others, one behind the other. -/
theorem wDraw (hF : c.F = Fence.wide) (hm : c.P.follows .mixedOrders = true) {id : Nat} {l : List Oper} (n : Nat) (hB : Region.lexTailB .any l.toArray n = true)
    (h : ∀ w0, O (Md.head c l.toArray w0 (l.drop n) Q) (l.take n) E D H) : W c (.region id l.toArray true) Q E D H := by
  intro a w ha hw
  rw [hF]
  refine wpIn_wide.2 (wp_region_still_tail n hm hB ?_)
  exact h w.drew a w.drew ha hw.drew rfl
theorem wRegion' {id : Nat} {l : List Oper} (h : O (Me.list c l.toArray Q).toMd l E D H) : W c (.region id l.toArray false) Q E D H := fun a w ha hw => wpIn_region_lit (h a w ha hw)
end
end Go.Proofs.YtnidmlngkpkmlaaK
