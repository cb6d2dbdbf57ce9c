/-
  What came in, opened by its kind: a reading of an argument's cells gives a value of the kind, and what is well-formed of it.
-/
import Derived.Test.YtnidmlngkpkmlaaKj
import Derived.Deep.Slices
import Derived.DataReads
namespace Go.Proofs.YtnidmlngkpkmlaaK
set_option linter.unusedVariables false
set_option linter.unusedSimpArgs false
open Go.RowKit Go.ChangeShapes Go.WideShapes
variable {P : Program}

/-- What is read at type t is a value of kind d that is V. -/
structure Opens (P : Program) (t : TypeId) {α : Type} (d : Kd α) (V : α → Prop) : Prop where
  get : ∀ {H : Type} (enc : TypeId × Value → H) (w : World) (base : Nat) (held : Bool) (fuel : Nat) (cs : List Value) (x : DataW H × List MemPlace), DataW.trod enc P w base (fun _ => true) held fuel t cs = some x → ∃ a, d.K w a cs ∧ V a

theorem Opens.weak {t : TypeId} {α : Type} {d : Kd α} {V V' : α → Prop} (h : Opens P t d V) (hv : ∀ a, V a → V' a) : Opens P t d V' := ⟨fun enc w base held fuel cs x hx => by
  obtain ⟨a, hK, hV⟩ := h.get enc w base held fuel cs x hx
  exact ⟨a, hK, hv a hV⟩⟩
theorem opens_int {t : TypeId} {k : IntKind} (ht : P.underlying t = some (.int k)) : Opens P t (Kd.int k) (fun n => (Lit.int k n).wf = true) := by
  constructor
  intro H enc w base held fuel cs x h
  cases fuel with
  | zero => simp [DataW.trod] at h
  | succ n =>
    unfold DataW.trod at h
    rw [ht] at h
    split at h <;> simp_all
    rename_i k' n' _
    obtain ⟨⟨rfl, hw⟩, _⟩ := h
    exact ⟨n', rfl, hw⟩
theorem opens_i64 {t : TypeId} (ht : P.underlying t = some (.int .i64)) : Opens P t (Kd.int .i64) in64 := (opens_int ht).weak (fun n h => by
  simp only [Lit.wf, Bool.and_eq_true, decide_eq_true_eq] at h
  exact ⟨h.1, h.2⟩)
theorem opens_bool {t : TypeId} (ht : P.underlying t = some .bool) : Opens P t Kd.bool (fun _ => True) := by
  constructor
  intro H enc w base held fuel cs x h
  cases fuel with
  | zero => simp [DataW.trod] at h
  | succ n =>
    unfold DataW.trod at h
    rw [ht] at h
    split at h <;> simp_all
    rename_i b _
    cases b <;> simp [Kd.bool, Kd.scalar]
theorem opens_string {t : TypeId} (ht : P.underlying t = some .string) : Opens P t Kd.string (fun s => s.size ≤ maxLen) := by
  constructor
  intro H enc w base held fuel cs x h
  cases fuel with
  | zero => simp [DataW.trod] at h
  | succ n =>
    unfold DataW.trod at h
    rw [ht] at h
    split at h <;> simp_all
    exact ⟨_, rfl, h.1⟩
theorem list_of {α : Type} {Q : Nat → α → Prop} : ∀ (m : Nat), (∀ i, i < m → ∃ y, Q i y) → ∃ ys : List α, ys.length = m ∧ ∀ i y, ys[i]? = some y → Q i y
  | 0, _ => ⟨[], rfl, fun i y h => by simp at h⟩
  | m + 1, h => by
    obtain ⟨ys, hl, hy⟩ := list_of m (fun i hi => h i (by omega))
    obtain ⟨y, hq⟩ := h m (by omega)
    refine ⟨ys ++ [y], by simp [hl], fun i z hz => ?_⟩
    rcases Nat.lt_or_ge i ys.length with hi | hi
    · rw [List.getElem?_append_left hi] at hz; exact hy i z hz
    · rw [List.getElem?_append_right hi] at hz
      have : i = m := by
        have := (List.getElem?_eq_some_iff.1 hz).1
        simp at this; omega
      subst this
      rw [hl] at hz
      simp at hz
      subst hz
      exact hq
theorem opens_slice {t e : TypeId} {α : Type} {d : Kd α} {V : α → Prop} (ht : P.underlying t = some (.slice e)) (hc : P.cellsOf e = d.sz) (he : Opens P e d V) : Opens P t (Kd.slice d) (fun xs => xs.length ≤ maxLen ∧ ∀ x ∈ xs, V x) := by
  constructor
  intro H enc w base held fuel cs x h
  rcases Go.Deep.open_slice ht h with ⟨rfl, _⟩ | ⟨a, len, cap, m, n, D, Pl, rfl, hb, hl, hm, hmm, rfl, hx⟩
  · exact ⟨[], ⟨none, 0, rfl, Nat.le_refl _, Kd.C_nil _ _ _⟩, by simp, by simp⟩
  · simp only [if_true] at hmm
    subst hmm
    have each : ∀ i, i < m → ∃ y : α, (∃ c, c.length = d.sz ∧ d.K w y c ∧ ∀ j u, c[j]? = some u → w.cell? (a.add (i * d.sz + j)) = some u) ∧ V y := by
      intro i hi
      obtain ⟨cs', h1, h2⟩ := hx i hi
      obtain ⟨y, hK, hV⟩ := he.get enc w base held n cs' _ h2
      obtain ⟨_, h3, h4⟩ := World.cells?_some h1
      refine ⟨y, ⟨cs', d.K_len hK, hK, fun j u hu => ?_⟩, hV⟩
      have hj : j < P.cellsOf e := by rw [← h3]; exact (List.getElem?_eq_some_iff.1 hu).1
      have := h4 j hj
      rw [Go.Deep.add_add, hc, hu] at this
      exact this
    obtain ⟨ys, hlen, hy⟩ := list_of m each
    have hml : maxLen = 9223372036854775807 := rfl
    have htl : (ys.take len).length = len := by rw [List.length_take]; omega
    refine ⟨ys.take len, ⟨some a, m, by rw [htl], by omega, by omega, fun _ => ⟨a, rfl, fun j p hj => ?_⟩⟩, by omega, fun z hz => ?_⟩
    · have hj2 : ys[j]? = some p := by
        have hjl := (List.getElem?_eq_some_iff.1 hj).1
        rw [List.getElem?_take] at hj; split at hj
        · exact hj
        · cases hj
      obtain ⟨c, _, h1, h2⟩ := (hy j p hj2).1
      exact ⟨c, h1, h2⟩
    · obtain ⟨j, hj⟩ := List.getElem?_of_mem (List.mem_of_mem_take hz)
      exact (hy j z hj).2

/-- The fields of a struct from the cell o on. -/
structure OpensF (P : Program) (fs : List Field) (o tot : Nat) {α : Type} (d : Kd α) (V : α → Prop) : Prop where
  get : ∀ {H : Type} (enc : TypeId × Value → H) (w : World) (base : Nat) (held : Bool) (fuel : Nat) (cs : List Value), cs.length = tot →
    (∀ f ∈ fs, ∃ x, DataW.trod enc P w base (fun _ => true) held fuel f.type ((cs.drop f.offset).take (P.cellsOf f.type)) = some x) → ∃ a, d.K w a (cs.drop o) ∧ V a
theorem opensF_one {f : Field} {o tot : Nat} {α : Type} {d : Kd α} {V : α → Prop} (h : Opens P f.type d V) (ho : f.offset = o) (ht : o + P.cellsOf f.type = tot) : OpensF P [f] o tot d V := by
  constructor
  intro H enc w base held fuel cs hl hf
  obtain ⟨x, hx⟩ := hf f (by simp)
  rw [ho, List.take_of_length_le (by simp; omega)] at hx
  exact h.get enc w base held fuel _ x hx
theorem opensF_cons {f : Field} {fs : List Field} {o tot : Nat} {α β : Type} {d : Kd α} {V : α → Prop} {d' : Kd β} {V' : β → Prop} (h : Opens P f.type d V) (ho : f.offset = o) (hs : OpensF P fs (o + P.cellsOf f.type) tot d' V') :
    OpensF P (f :: fs) o tot (Kd.pair d d') (fun p => V p.1 ∧ V' p.2) := by
  constructor
  intro H enc w base held fuel cs hl hf
  obtain ⟨x, hx⟩ := hf f (by simp)
  obtain ⟨a, hK, hV⟩ := h.get enc w base held fuel _ x hx
  obtain ⟨b, hK', hV'⟩ := hs.get enc w base held fuel cs hl (fun g hg => hf g (List.mem_cons_of_mem _ hg))
  refine ⟨(a, b), ⟨_, _, ?_, hK, hK'⟩, hV, hV'⟩
  rw [ho, ← List.drop_drop, List.take_append_drop]
theorem opens_struct {t : TypeId} {fs : Array Field} {α β : Type} {d : Kd α} {V : α → Prop} {g : β → α} (b : α → β) (hb : ∀ a, g (b a) = a) (ht : P.underlying t = some (.struct fs)) (h : OpensF P fs.toList 0 (P.cellsOf t) d V) : Opens P t (Kd.iso d g) (fun x => V (g x)) := by
  constructor
  intro H enc w base held fuel cs x hx
  obtain ⟨xs, m, _, rfl, hl, hlen, hf⟩ := DataW.trod_struct ht hx
  obtain ⟨a, hK, hV⟩ := h.get enc w base held m cs hl (fun f hfm => by
    obtain ⟨i, hi⟩ := List.getElem?_of_mem hfm
    have h1 := hf i f (by simpa using hi)
    have hlt : i < xs.length := by
      have := (List.getElem?_eq_some_iff.1 hi).1
      rw [hlen]; simpa using this
    rw [List.getElem?_eq_getElem hlt] at h1
    exact ⟨_, h1⟩)
  exact ⟨b a, by show d.K w (g (b a)) cs; rw [hb]; exact hK, by show V (g (b a)); rw [hb]; exact hV⟩
/-- A law's contract, as its row asks it. -/
theorem law_of {P : Program} {f : FuncId} {args : Array Value} {W : World} (h : CallsIn Fence.wide 0 P f args W (Ret (Base.at W) (fun _ : Unit => True) (fun _ => .bool true) (fun _ => []))) : Calls P f args W (fun e w' => e = .returned (.bool true) ∧ Below W.heap.size W w') :=
  Calls.mono (callsIn_wide.1 h) (by rintro e w' ⟨_, _, rfl, hS⟩; exact ⟨rfl, Base.at_below hS.ok⟩)
theorem C_at {α : Type} {kd : Kd α} {W : World} {A : Option Addr} {xs : List α} (h : kd.C W A xs) : kd.C (Base.at W).e A xs := by rw [Base.at_e]; exact h
end Go.Proofs.YtnidmlngkpkmlaaK
