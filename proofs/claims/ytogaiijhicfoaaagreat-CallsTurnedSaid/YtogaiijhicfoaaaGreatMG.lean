/-
  Texts Ga, Gb, Gc, Gd, Ge, Gf, Gg in one.
-/
import Derived.Test.YtogaiijhicfoaaaGreatMB
import Derived.Test.YtogaiijhicfoaaaGreatKt
import Derived.Test.YtogaiijhicfoaaaGreatLay

/-
  Package digraph: ends and its iterator; the library's AppendSeq and Collect over it.
-/
namespace Go.Proofs.YtogaiijhicfoaaaGreatG
set_option linter.unusedVariables false
set_option linter.unusedSimpArgs false
open Go.RowKit Go.Proofs.YtogaiijhicfoaaaGreatK Go.Proofs.YtogaiijhicfoaaaGreatT

abbrev kII : Kd (List Int) := Kd.slice (Kd.int .i64)
abbrev Graph := List (List Int)
def inG (g : Graph) (x : Int) : Bool := decide (0 ≤ x) && decide (x < (g.length : Int))
def endsOf (g : Graph) (a : Nat) : List Int := (g.getD a []).filter (inG g)
theorem getD_at {α : Type} {l : List α} {i : Nat} {o d : α} (h : l[i]? = some o) : l.getD i d = o := by rw [List.getD_eq_getElem?_getD, h]; rfl
end Go.Proofs.YtogaiijhicfoaaaGreatG


/-
  Package digraph: Clean; the library's Sorted.
-/
namespace Go.Proofs.YtogaiijhicfoaaaGreatG
set_option linter.unusedVariables false
set_option linter.unusedSimpArgs false
open Go.RowKit Go.Proofs.YtogaiijhicfoaaaGreatK Go.Proofs.YtogaiijhicfoaaaGreatT Go.Proofs.YtogaiijhicfoaaaGreatL

def SmallG (g : Graph) : Prop := g.length ≤ 1000 ∧ ∀ l ∈ g, l.length ≤ 1000
def cl (g : Graph) (a : Nat) : List Int := Lib.compact ((endsOf g a).mergeSort leI)
end Go.Proofs.YtogaiijhicfoaaaGreatG


/-
  Package digraph: Reach.
-/
namespace Go.Proofs.YtogaiijhicfoaaaGreatG
set_option linter.unusedVariables false
set_option linter.unusedSimpArgs false
open Go.RowKit Go.Proofs.YtogaiijhicfoaaaGreatK Go.Proofs.YtogaiijhicfoaaaGreatT Go.Proofs.YtogaiijhicfoaaaGreatL

inductive RP (g : Graph) (from_ : List Int) : Int → Prop
  | start {a : Int} : a ∈ from_ → inG g a = true → RP g from_ a
  | step {a : Nat} {b : Int} : RP g from_ (a : Int) → b ∈ endsOf g a → RP g from_ b
theorem inG_iff {g : Graph} {x : Int} : inG g x = true ↔ 0 ≤ x ∧ x < (g.length : Int) := by simp [inG]
theorem ends_in {g : Graph} {a : Nat} {b : Int} (h : b ∈ endsOf g a) : inG g b = true := (List.mem_filter.1 h).2
theorem RP.inG {g : Graph} {f : List Int} {x : Int} (h : RP g f x) : inG g x = true := by
  cases h with
  | start _ h => exact h
  | step _ h => exact ends_in h
structure RS (g : Graph) (from_ : List Int) (out : List Bool) (wait : List Int) : Prop where
  len : out.length = g.length
  sound : ∀ i : Nat, out[i]? = some true → RP g from_ (i : Int)
  waits : ∀ x ∈ wait, RP g from_ x
  starts : ∀ x ∈ from_, inG g x = true → out[x.toNat]? = some true ∨ x ∈ wait
  closed : ∀ i : Nat, out[i]? = some true → ∀ b ∈ endsOf g i, out[b.toNat]? = some true ∨ b ∈ wait
theorem RS.done {g : Graph} {f : List Int} {out : List Bool} (h : RS g f out []) : ∀ x, RP g f x → out[x.toNat]? = some true := by
  intro x hx
  induction hx with
  | start h1 h2 =>
    rcases h.starts _ h1 h2 with h | h
    · exact h
    · cases h
  | step h1 h2 ih =>
    rcases h.closed _ (by simpa using ih) _ h2 with h | h
    · exact h
    · cases h
theorem RS.skip {g : Graph} {f : List Int} {out : List Bool} {wait : List Int} {x : Int} (h : RS g f out (wait ++ [x])) (hx : out[x.toNat]? = some true) : RS g f out wait := by
  refine ⟨h.len, h.sound, fun y hy => h.waits y (List.mem_append_left _ hy), fun y hy hi => ?_, fun i hi b hb => ?_⟩
  · rcases h.starts y hy hi with h | h
    · exact .inl h
    · rcases List.mem_append.1 h with h | h
      · exact .inr h
      · rw [List.mem_singleton.1 h]; exact .inl hx
  · rcases h.closed i hi b hb with h | h
    · exact .inl h
    · rcases List.mem_append.1 h with h | h
      · exact .inr h
      · rw [List.mem_singleton.1 h]; exact .inl hx
theorem RS.take {g : Graph} {f : List Int} {out : List Bool} {wait : List Int} {a : Nat} (h : RS g f out (wait ++ [(a : Int)])) (ha : a < out.length) : RS g f (out.set a true) (wait ++ endsOf g a) := by
  have hR : RP g f (a : Int) := h.waits _ (by simp)
  have hset : ∀ i : Nat, out[i]? = some true → (out.set a true)[i]? = some true := fun i hi => by
    rw [List.getElem?_set]
    split
    · rename_i e; subst e; simp [ha]
    · exact hi
  have haa : (out.set a true)[a]? = some true := by simp [ha]
  refine ⟨by rw [List.length_set]; exact h.len, fun i hi => ?_, fun x hx => ?_, fun x hx hi => ?_, fun i hi b hb => ?_⟩
  · rw [List.getElem?_set] at hi
    split at hi
    · rename_i e; subst e; exact hR
    · exact h.sound i hi
  · rcases List.mem_append.1 hx with hx | hx
    · exact h.waits x (List.mem_append_left _ hx)
    · exact .step hR hx
  · rcases h.starts x hx hi with h | h
    · exact .inl (hset _ h)
    · rcases List.mem_append.1 h with h | h
      · exact .inr (List.mem_append_left _ h)
      · rw [List.mem_singleton.1 h]; exact .inl (by simpa using haa)
  · by_cases e : i = a
    · subst e; exact .inr (List.mem_append_right _ hb)
    · have hi' : out[i]? = some true := by rw [List.getElem?_set, if_neg (fun h => e h.symm)] at hi; exact hi
      rcases h.closed i hi' b hb with h | h
      · exact .inl (hset _ h)
      · rcases List.mem_append.1 h with h | h
        · exact .inr (List.mem_append_left _ h)
        · rw [List.mem_singleton.1 h]; exact .inl (by simpa using haa)
def falses (out : List Bool) : Nat := (out.filter (fun b => !b)).length
theorem falses_le (out : List Bool) : falses out ≤ out.length := List.length_filter_le _ _
end Go.Proofs.YtogaiijhicfoaaaGreatG


/-
  The references' small ones: Few, Edge, Ints, In, Member.
-/
namespace Go.Proofs.YtogaiijhicfoaaaGreatG
set_option linter.unusedVariables false
set_option linter.unusedSimpArgs false
open Go.RowKit Go.Proofs.YtogaiijhicfoaaaGreatK Go.Proofs.YtogaiijhicfoaaaGreatT Go.Proofs.YtogaiijhicfoaaaGreatL

def memF (g : Graph) (ib : List Bool) (a : Int) : Bool := decide (0 ≤ a) && decide (a < (g.length : Int)) && decide (a < (ib.length : Int)) && ib.getD a.toNat false
end Go.Proofs.YtogaiijhicfoaaaGreatG


/-
  The reference's Reach.
-/
namespace Go.Proofs.YtogaiijhicfoaaaGreatG
set_option linter.unusedVariables false
set_option linter.unusedSimpArgs false
open Go.RowKit Go.Proofs.YtogaiijhicfoaaaGreatK Go.Proofs.YtogaiijhicfoaaaGreatT Go.Proofs.YtogaiijhicfoaaaGreatL

def Tr (out : List Bool) (i : Nat) : Prop := out[i]? = some true
theorem Tr.set {out : List Bool} {i j : Nat} (h : Tr out i) : Tr (out.set j true) i := by
  unfold Tr at *
  rw [List.getElem?_set]
  split
  · rename_i e; subst e; have := (List.getElem?_eq_some_iff.1 h).1; simp [this]
  · exact h
theorem Tr.self {out : List Bool} {j : Nat} (h : j < out.length) : Tr (out.set j true) j := by unfold Tr; simp [h]
theorem Tr.of_set {out : List Bool} {i j : Nat} (h : Tr (out.set j true) i) : Tr out i ∨ i = j := by
  unfold Tr at *
  rw [List.getElem?_set] at h
  split at h
  · rename_i e; exact .inr e.symm
  · exact .inl h
theorem Tr.set_same {out : List Bool} {j : Nat} (h : Tr out j) : out.set j true = out := by
  obtain ⟨hj, he⟩ := List.getElem?_eq_some_iff.1 h
  rw [← he]; exact List.set_getElem_self hj
def Closed (g : Graph) (out : List Bool) : Prop := ∀ a, Tr out a → ∀ b ∈ endsOf g a, Tr out b.toNat
theorem falses_mono : ∀ {old out : List Bool}, old.length = out.length → (∀ i, Tr old i → Tr out i) → falses out ≤ falses old ∧ (∀ i, old[i]? = some false → Tr out i → falses out < falses old)
  | [], [], _, _ => ⟨Nat.le_refl _, fun i h => by simp at h⟩
  | a :: old, b :: out, hl, h => by
    obtain ⟨h1, h2⟩ := falses_mono (old := old) (out := out) (by simpa using hl) (fun i hi => by simpa [Tr] using h (i + 1) (by simpa [Tr] using hi))
    have h0 := h 0
    simp only [Tr, List.getElem?_cons_zero, Option.some.injEq] at h0
    have e1 : falses (a :: old) = falses old + (if a then 0 else 1) := by unfold falses; cases a <;> simp
    have e2 : falses (b :: out) = falses out + (if b then 0 else 1) := by unfold falses; cases b <;> simp
    rw [e1, e2]
    refine ⟨?_, fun i hi ht => ?_⟩
    · cases a <;> cases b <;> simp_all <;> omega
    · cases i with
      | zero =>
        simp only [List.getElem?_cons_zero, Option.some.injEq, Tr] at hi ht
        subst hi ht
        simp; omega
      | succ i =>
        have := h2 i (by simpa using hi) (by simpa [Tr] using ht)
        cases a <;> cases b <;> simp_all <;> omega
structure RI (g : Graph) (f : List Int) (out : List Bool) : Prop where
  len : out.length = g.length
  sound : ∀ i, Tr out i → RP g f (i : Int)
theorem RI.set {g : Graph} {f : List Int} {out : List Bool} {j : Nat} (h : RI g f out) (hj : RP g f (j : Int)) : RI g f (out.set j true) :=
  ⟨by rw [List.length_set]; exact h.len, fun i hi => by
    rcases hi.of_set with hi | rfl
    · exact h.sound i hi
    · exact hj⟩
def Starts (g : Graph) (f : List Int) (out : List Bool) (n : Nat) : Prop := ∀ j x, j < n → f[j]? = some x → inG g x = true → Tr out x.toNat
theorem closed_of_none {g : Graph} {out : List Bool} (hl : out.length = g.length) (h : falses out = 0) : Closed g out := by
  intro a _ b hb
  have hin := inG_iff.1 (ends_in hb)
  unfold Tr
  rw [List.getElem?_eq_getElem (show b.toNat < out.length by omega)]
  congr 1
  unfold falses at h
  have := List.filter_eq_nil_iff.1 (List.eq_nil_of_length_eq_zero h) _ (List.getElem_mem (show b.toNat < out.length by omega))
  simpa using this
theorem reach_iff {g : Graph} {f : List Int} {out : List Bool} (h : RI g f out) (hs : Starts g f out f.length) (hc : Closed g out) : ∀ i : Nat, Tr out i ↔ RP g f (i : Int) := by
  have key : ∀ x, RP g f x → Tr out x.toNat := by
    intro x hx
    induction hx with
    | start h1 h2 =>
      obtain ⟨j, hj⟩ := List.mem_iff_getElem?.1 h1
      exact hs j _ (List.getElem?_eq_some_iff.1 hj).1 hj h2
    | step h1 h2 ih => exact hc _ (by simpa using ih) _ h2
  exact fun i => ⟨h.sound i, fun hx => by simpa using key _ hx⟩
structure Rd (g : Graph) (f : List Int) (old out : List Bool) (a : Nat) : Prop where
  ri : RI g f out
  mono : ∀ i, Tr old i → Tr out i
  done : ∀ a', a' < a → Tr old a' → ∀ b ∈ endsOf g a', Tr out b.toNat
  same : Closed g old → out = old
theorem Rd.set {g : Graph} {f : List Int} {old out : List Bool} {a : Nat} {x : Int} (h : Rd g f old out a) (ha : Tr out a) (hx : x ∈ endsOf g a) : Rd g f old (out.set x.toNat true) a := by
  have hin := inG_iff.1 (ends_in hx)
  refine ⟨h.ri.set ?_, fun i hi => (h.mono i hi).set, fun a' h1 h2 b hb => (h.done a' h1 h2 b hb).set, fun hc => ?_⟩
  · rw [Int.toNat_of_nonneg hin.1]; exact .step (h.ri.sound a ha) hx
  · have e := h.same hc
    subst e
    exact Tr.set_same (hc a ha x hx)
theorem Rd.next {g : Graph} {f : List Int} {old out : List Bool} {a : Nat} (h : Rd g f old out a) (hd : ¬ Tr out a ∨ ∀ b ∈ endsOf g a, Tr out b.toNat) : Rd g f old out (a + 1) := by
  refine ⟨h.ri, h.mono, fun a' h1 h2 b hb => ?_, h.same⟩
  by_cases e : a' = a
  · subst e
    rcases hd with hd | hd
    · exact absurd (h.mono _ h2) hd
    · exact hd b hb
  · exact h.done a' (by omega) h2 b hb
theorem Rd.end {g : Graph} {f : List Int} {old out : List Bool} {n : Nat} (h : Rd g f old out g.length) (hl : old.length = g.length) (hr : Closed g old ∨ falses old + n ≤ g.length) : Closed g out ∨ falses out + (n + 1) ≤ g.length := by
  by_cases hc : Closed g old
  · rw [h.same hc]; exact .inl hc
  · right
    rcases hr with hr | hr
    · exact absurd hr hc
    · obtain ⟨a, ha, b, hb, hn⟩ : ∃ a, Tr old a ∧ ∃ b, b ∈ endsOf g a ∧ ¬ Tr old b.toNat := by
        apply Classical.byContradiction
        intro hne
        apply hc
        intro a ha b hb
        apply Classical.byContradiction
        intro hn
        exact hne ⟨a, ha, b, hb, hn⟩
      have hin := inG_iff.1 (ends_in hb)
      have hal : a < g.length := by rw [← hl]; exact (List.getElem?_eq_some_iff.1 ha).1
      have hbl : b.toNat < old.length := by omega
      have hbf : old[b.toNat]? = some false := by
        unfold Tr at hn
        rw [List.getElem?_eq_getElem hbl] at hn ⊢
        cases hv : old[b.toNat] with
        | true => rw [hv] at hn; exact absurd rfl hn
        | false => rfl
      have := (falses_mono (by rw [hl, h.ri.len]) h.mono).2 _ hbf (h.done a hal ha b hb)
      omega
set_option maxRecDepth 100000 in
set_option maxHeartbeats 1000000 in
theorem refReach {B : Base} {w : World} (hS : St B [] w) (g : Graph) (A : Option Addr) (cp : Nat) (hC : kII.C B.e A g) (hsm : SmallG g) (f : List Int) (A1 : Option Addr) (cp1 : Nat) (hC1 : (Kd.int .i64).C B.e A1 f) (W0 : World) :
    CallsIn Fence.wide 0 Tryz.prog 91 #[.slice A g.length cp, .slice A1 f.length cp1] w
      (Ret B (fun z : Option Addr × Nat × List Bool => z.2.2.length = g.length ∧ ∀ i : Nat, z.2.2[i]? = some true ↔ RP g f (i : Int)) (fun z => .slice z.1 g.length z.2.1) (fun z => [row Kd.bool W0 4 (.slice z.1 g.length z.2.1) z.2.2])) := by
  have hn := hsm.1
  have m1 := hC1.1
  (refine enter Tryz.func91 rfl rfl hS ?_; simp only [List.zipIdx_cons, List.zipIdx_nil, List.map_cons, List.map_nil, Nat.reduceAdd, Nat.zero_add])
  refine wSeq ?_
  refine wRegion' ?_
  refine oAssign rfl ?_
  refine oNil ?_
  refine thn_n ?_
  refine wSeq ?_
  refine wRegion' ?_
  refine oMove rfl ?_
  refine oLenS rfl rfl ?_
  refine oMake (kd := Kd.bool) (W := W0) false rfl rfl rfl rfl rfl rfl (by omega) rfl (fun g12 => ?_)
  refine oAssign rfl ?_
  refine oNil ?_
  refine thn_n ?_
  refine wSeq ?_
  refine wSeq ?_
  refine wRegion' ?_
  refine oAssign rfl ?_
  refine oNil ?_
  refine thn_n ?_
  refine wBlock ?_
  refine wLoop (ι := Nat × List Bool) (fun z => [(0, .slice A g.length cp), (1, .slice A1 f.length cp1), (5, .slice (some ⟨g12, 0, none⟩) g.length g.length), (6, .int .i64 (z.1 : Int))]) (fun z => [row Kd.bool W0 4 (.slice (some ⟨g12, 0, none⟩) g.length g.length) z.2]) (fun z => z.1 ≤ f.length ∧ RI g f z.2 ∧ Starts g f z.2 z.1) (fun z => f.length - z.1) (0, List.replicate g.length false) ?_ (by repeat (first | exact trivial | refine And.intro rfl ?_)) (Leads.has (by repeat' constructor)) ?_
  ·
   exact ⟨Nat.zero_le _, ⟨by simp, fun i h => by unfold Tr at h; rw [List.getElem?_replicate] at h; split at h <;> simp at h⟩, fun j x h => by omega⟩
  ·
   rintro ⟨i, out⟩ ⟨hi, hri, hst⟩
   dsimp only at hi hri hst
   have hol := hri.len
   try dsimp only
   refine wSeq ?_
   refine wSeq ?_
   refine wRegion' ?_
   refine oMove rfl ?_
   refine oMove rfl ?_
   refine oLenS rfl rfl ?_
   refine oLss rfl rfl ?_
   refine oNil ?_
   refine thn_n ?_
   first | refine wCond rfl (fun h16 => ?_) (fun h16 => ?_) | refine wCondB rfl (fun h16 => ?_) (fun h16 => ?_)
   ·
    refine wSkip ?_
    refine thn_n ?_
    refine wSeq ?_
    refine wBlock ?_
    refine wSeq ?_
    refine wRegion' ?_
    refine oMove rfl ?_
    refine oMove rfl ?_
    refine oIdx rfl rfl (hC1) rfl (by omega) rfl rfl (fun e21 u21 cs21 hu21 hk21 hc21 => ?_)
    obtain rfl := hk21
    first | refine oLdX rfl hc21 rfl rfl ?_ | refine oLdXA rfl hc21 rfl (by repeat constructor) ?_ | (refine oLdR1 rfl (by repeat constructor) (by omega) rfl (fun u22 hu22 => ?_))
    refine oGeq rfl rfl ?_
    refine oMove rfl ?_
    first | refine oSplit (t := 24) rfl (fun h24 => ?_) (fun h24 => ?_) | refine oSplitB (t := 24) rfl (fun h24 => ?_) (fun h24 => ?_)
    ·
     refine oWant rfl rfl ?_
     refine oMove rfl ?_
     refine oWant rfl rfl ?_
     refine oMove rfl ?_
     refine oWant rfl rfl ?_
     refine oIdx rfl rfl (hC1) rfl (by omega) rfl rfl (fun e27 u27 cs27 hu27 hk27 hc27 => ?_)
     obtain rfl := hk27
     obtain rfl := Option.some.inj (hu21.symm.trans hu27)
     refine oWant rfl rfl ?_
     first | refine oLdX rfl hc27 rfl rfl ?_ | refine oLdXA rfl hc27 rfl (by repeat constructor) ?_ | (refine oLdR1 rfl (by repeat constructor) (by omega) rfl (fun u28 hu28 => ?_))
     refine oWant rfl rfl ?_
     refine oMove rfl ?_
     refine oWant rfl rfl ?_
     refine oLenS rfl rfl ?_
     refine oWant rfl rfl ?_
     refine oLss rfl rfl ?_
     refine oPickT rfl rfl ?_
     refine oNil ?_
     refine thn_n ?_
     first | refine wCond rfl (fun h32 => ?_) (fun h32 => ?_) | refine wCondB rfl (fun h32 => ?_) (fun h32 => ?_)
     ·
      refine wRegion' ?_
      refine oMove rfl ?_
      refine oMove rfl ?_
      refine oMove rfl ?_
      refine oIdx rfl rfl (hC1) rfl (by omega) rfl rfl (fun e36 u36 cs36 hu36 hk36 hc36 => ?_)
      obtain rfl := hk36
      obtain rfl := Option.some.inj (hu21.symm.trans hu36)
      first | refine oLdX rfl hc36 rfl rfl ?_ | refine oLdXA rfl hc36 rfl (by repeat constructor) ?_ | (refine oLdR1 rfl (by repeat constructor) (by omega) rfl (fun u37 hu37 => ?_))
      refine oSet (t := 37) (v' := .int .i64 ((u21.toNat : Nat) : Int)) rfl (by rw [Int.toNat_of_nonneg h24]) ?_
      refine oIdxR rfl rfl (by repeat constructor) (by omega) rfl rfl (fun g38 hg38 => ?_)
      first | subst hg38 | (injection hg38 with hg38; injection hg38 with hg38; subst hg38)
      refine oStR _ rfl rfl rfl rfl (by repeat constructor) (by first | omega | (simp only [List.length_set]; omega)) ?_
      refine oNil ?_
      refine blk_n ?_
      refine thn_n ?_
      refine wRegion' ?_
      refine oMove rfl ?_
      refine oSucc rfl rfl (by omega) ?_
      refine oAssign rfl ?_
      refine oNil ?_
      refine thn_n ?_
      exact ⟨rfl, (i + 1, out.set u21.toNat true), ⟨by show i + 1 ≤ _; omega, hri.set (by rw [Int.toNat_of_nonneg h24]; exact .start (List.mem_of_getElem? hu21) (by simp [inG]; omega)), fun j x hj hx hin => by
      by_cases e : j = i
      · subst e; obtain rfl := Option.some.inj (hu21.symm.trans hx); exact Tr.self (by omega)
      · exact (hst j x (by omega) hx hin).set⟩, by show f.length - (i + 1) < f.length - i; omega, (by repeat (first | exact trivial | refine And.intro rfl ?_)), (Leads.has (by repeat' constructor))⟩
     ·
      refine wSkip ?_
      refine blk_n ?_
      refine thn_n ?_
      refine wRegion' ?_
      refine oMove rfl ?_
      refine oSucc rfl rfl (by omega) ?_
      refine oAssign rfl ?_
      refine oNil ?_
      refine thn_n ?_
      exact ⟨rfl, (i + 1, out), ⟨by show i + 1 ≤ _; omega, hri, fun j x hj hx hin => by
      by_cases e : j = i
      · subst e; obtain rfl := Option.some.inj (hu21.symm.trans hx); rw [inG_iff] at hin; omega
      · exact hst j x (by omega) hx hin⟩, by show f.length - (i + 1) < f.length - i; omega, (by repeat (first | exact trivial | refine And.intro rfl ?_)), (Leads.has (by repeat' constructor))⟩
    ·
     refine oSkip rfl rfl rfl rfl ?_
     refine oSkip rfl rfl rfl rfl ?_
     refine oSkip rfl rfl rfl rfl ?_
     refine oSkip rfl rfl rfl rfl ?_
     refine oSkip rfl rfl rfl rfl ?_
     refine oSkip rfl rfl rfl rfl ?_
     refine oSkip rfl rfl rfl rfl ?_
     refine oPickF rfl rfl ?_
     refine oNil ?_
     refine thn_n ?_
     first | refine wCondF rfl ?_ | refine wCondFd h32 rfl ?_ | refine wCondFb h32 rfl ?_
     refine wSkip ?_
     refine blk_n ?_
     refine thn_n ?_
     refine wRegion' ?_
     refine oMove rfl ?_
     refine oSucc rfl rfl (by omega) ?_
     refine oAssign rfl ?_
     refine oNil ?_
     refine thn_n ?_
     exact ⟨rfl, (i + 1, out), ⟨by show i + 1 ≤ _; omega, hri, fun j x hj hx hin => by
     by_cases e : j = i
     · subst e; obtain rfl := Option.some.inj (hu21.symm.trans hx); rw [inG_iff] at hin; omega
     · exact hst j x (by omega) hx hin⟩, by show f.length - (i + 1) < f.length - i; omega, (by repeat (first | exact trivial | refine And.intro rfl ?_)), (Leads.has (by repeat' constructor))⟩
   ·
    obtain rfl : i = f.length := by omega
    refine wExit ?_
    refine thn_x ?_
    refine thn_x ?_
    refine blk_x ?_
    refine thn_n ?_
    refine wSeq ?_
    refine wSeq ?_
    refine wRegion' ?_
    refine oAssign rfl ?_
    refine oNil ?_
    refine thn_n ?_
    refine wBlock ?_
    refine wLoop (ι := Nat × List Bool) (fun z => [(0, .slice A g.length cp), (5, .slice (some ⟨g12, 0, none⟩) g.length g.length), (7, .int .i64 (z.1 : Int))]) (fun z => [row Kd.bool W0 4 (.slice (some ⟨g12, 0, none⟩) g.length g.length) z.2]) (fun z => z.1 ≤ g.length ∧ RI g f z.2 ∧ Starts g f z.2 f.length ∧ (Closed g z.2 ∨ falses z.2 + z.1 ≤ g.length)) (fun z => g.length - z.1) (0, out) ?_ (by repeat (first | exact trivial | refine And.intro rfl ?_)) (Leads.has (by repeat' constructor)) ?_
    ·
     exact ⟨Nat.zero_le _, hri, hst, .inr (by have := falses_le out; show falses out + 0 ≤ _; omega)⟩
    ·
     rintro ⟨r, old⟩ ⟨hr, hri2, hst2, hcl⟩
     dsimp only at hr hri2 hst2 hcl
     try dsimp only
     refine wSeq ?_
     refine wSeq ?_
     refine wRegion' ?_
     refine oMove rfl ?_
     refine oMove rfl ?_
     refine oLenS rfl rfl ?_
     refine oLss rfl rfl ?_
     refine oNil ?_
     refine thn_n ?_
     first | refine wCond rfl (fun h42 => ?_) (fun h42 => ?_) | refine wCondB rfl (fun h42 => ?_) (fun h42 => ?_)
     ·
      refine wSkip ?_
      refine thn_n ?_
      refine wSeq ?_
      refine wBlock ?_
      refine wSeq ?_
      refine wRegion' ?_
      refine oAssign rfl ?_
      refine oNil ?_
      refine thn_n ?_
      refine wBlock ?_
      refine wLoop (ι := Nat × List Bool) (fun z => [(0, .slice A g.length cp), (5, .slice (some ⟨g12, 0, none⟩) g.length g.length), (7, .int .i64 (r : Int)), (8, .int .i64 (z.1 : Int))]) (fun z => [row Kd.bool W0 4 (.slice (some ⟨g12, 0, none⟩) g.length g.length) z.2]) (fun z => z.1 ≤ g.length ∧ Rd g f old z.2 z.1) (fun z => g.length - z.1) (0, old) ?_ (by repeat (first | exact trivial | refine And.intro rfl ?_)) (Leads.has (by repeat' constructor)) ?_
      ·
       exact ⟨Nat.zero_le _, hri2, fun _ h => h, fun a' h => by omega, fun _ => rfl⟩
      ·
       rintro ⟨a, out4⟩ ⟨ha, hrd⟩
       dsimp only at ha hrd
       try dsimp only
       refine wSeq ?_
       refine wSeq ?_
       refine wRegion' ?_
       refine oMove rfl ?_
       refine oMove rfl ?_
       refine oLenS rfl rfl ?_
       refine oLss rfl rfl ?_
       refine oNil ?_
       refine thn_n ?_
       first | refine wCond rfl (fun h48 => ?_) (fun h48 => ?_) | refine wCondB rfl (fun h48 => ?_) (fun h48 => ?_)
       ·
        refine wSkip ?_
        refine thn_n ?_
        refine wSeq ?_
        refine wBlock ?_
        refine wSeq ?_
        refine wRegion' ?_
        refine oAssign rfl ?_
        refine oNil ?_
        refine thn_n ?_
        refine wBlock ?_
        refine wLoop (ι := Nat × List Bool) (fun z => [(0, .slice A g.length cp), (5, .slice (some ⟨g12, 0, none⟩) g.length g.length), (7, .int .i64 (r : Int)), (8, .int .i64 (a : Int)), (9, .int .i64 (z.1 : Int))]) (fun z => [row Kd.bool W0 4 (.slice (some ⟨g12, 0, none⟩) g.length g.length) z.2]) (fun z => z.1 ≤ (g.getD a []).length ∧ Rd g f old z.2 a ∧ ∀ j x, j < z.1 → (g.getD a [])[j]? = some x → inG g x = true → Tr z.2 x.toNat) (fun z => (g.getD a []).length - z.1) (0, out4) ?_ (by repeat (first | exact trivial | refine And.intro rfl ?_)) (Leads.has (by repeat' constructor)) ?_
        ·
         exact ⟨Nat.zero_le _, hrd, fun j x h => by omega⟩
        ·
         rintro ⟨i, out6⟩ ⟨hi6, hrd6, hds⟩
         dsimp only at hi6 hrd6 hds
         have hol := hrd6.ri.len
         try dsimp only
         refine wSeq ?_
         refine wSeq ?_
         refine wRegion' ?_
         refine oMove rfl ?_
         refine oMove rfl ?_
         refine oIdxR rfl rfl (by repeat constructor) (by omega) rfl rfl (fun g53 hg53 => ?_)
         first | subst hg53 | (injection hg53 with hg53; injection hg53 with hg53; subst hg53)
         first | refine oLdX rfl hc53 rfl rfl ?_ | refine oLdXA rfl hc53 rfl (by repeat constructor) ?_ | (refine oLdR1 rfl (by repeat constructor) (by omega) rfl (fun u54 hu54 => ?_))
         refine oMove rfl ?_
         first | refine oSplit (t := 55) rfl (fun h55 => ?_) (fun h55 => ?_) | refine oSplitB (t := 55) rfl (fun h55 => ?_) (fun h55 => ?_)
         ·
          refine oWant rfl rfl ?_
          refine oMove rfl ?_
          refine oWant rfl rfl ?_
          refine oMove rfl ?_
          refine oWant rfl rfl ?_
          refine oMove rfl ?_
          refine oWant rfl rfl ?_
          refine oIdx rfl rfl (hC) rfl (by omega) rfl rfl (fun e59 u59 cs59 hu59 hk59 hc59 => ?_)
          obtain ⟨A0, c0, rfl, hle59, g0⟩ := hk59
          have hbig := g0.1
          refine oWant rfl rfl ?_
          first | refine oLdX rfl hc59 rfl rfl ?_ | refine oLdXA rfl hc59 rfl (by repeat constructor) ?_ | (refine oLdR1 rfl (by repeat constructor) (by omega) rfl (fun u60 hu60 => ?_))
          refine oWant rfl rfl ?_
          refine oLenS rfl rfl ?_
          refine oWant rfl rfl ?_
          refine oLss rfl rfl ?_
          refine oPickT rfl rfl ?_
          refine oNil ?_
          refine thn_n ?_
          first | refine wCond rfl (fun h63 => ?_) (fun h63 => ?_) | refine wCondB rfl (fun h63 => ?_) (fun h63 => ?_)
          ·
           refine wSkip ?_
           refine thn_n ?_
           refine wSeq ?_
           refine wBlock ?_
           refine wSeq ?_
           refine wRegion' ?_
           refine oMove rfl ?_
           refine oMove rfl ?_
           refine oIdx rfl rfl (hC) rfl (by omega) rfl rfl (fun e68 u68 cs68 hu68 hk68 hc68 => ?_)
           obtain ⟨A0, c0, rfl, hle68, g0⟩ := hk68
           have hbig := g0.1
           obtain rfl := Option.some.inj (hu59.symm.trans hu68)
           first | refine oLdX rfl hc68 rfl rfl ?_ | refine oLdXA rfl hc68 rfl (by repeat constructor) ?_ | (refine oLdR1 rfl (by repeat constructor) (by omega) rfl (fun u69 hu69 => ?_))
           refine oMove rfl ?_
           refine oIdx rfl rfl (g0) rfl (by omega) rfl rfl (fun e71 u71 cs71 hu71 hk71 hc71 => ?_)
           obtain rfl := hk71
           first | refine oLdX rfl hc71 rfl rfl ?_ | refine oLdXA rfl hc71 rfl (by repeat constructor) ?_ | (refine oLdR1 rfl (by repeat constructor) (by omega) rfl (fun u72 hu72 => ?_))
           refine oGeq rfl rfl ?_
           refine oMove rfl ?_
           first | refine oSplit (t := 74) rfl (fun h74 => ?_) (fun h74 => ?_) | refine oSplitB (t := 74) rfl (fun h74 => ?_) (fun h74 => ?_)
           ·
            refine oWant rfl rfl ?_
            refine oMove rfl ?_
            refine oWant rfl rfl ?_
            refine oMove rfl ?_
            refine oWant rfl rfl ?_
            refine oIdx rfl rfl (hC) rfl (by omega) rfl rfl (fun e77 u77 cs77 hu77 hk77 hc77 => ?_)
            obtain ⟨A0, c0, rfl, hle77, g0⟩ := hk77
            have hbig := g0.1
            obtain rfl := Option.some.inj (hu59.symm.trans hu77)
            refine oWant rfl rfl ?_
            first | refine oLdX rfl hc77 rfl rfl ?_ | refine oLdXA rfl hc77 rfl (by repeat constructor) ?_ | (refine oLdR1 rfl (by repeat constructor) (by omega) rfl (fun u78 hu78 => ?_))
            refine oWant rfl rfl ?_
            refine oMove rfl ?_
            refine oWant rfl rfl ?_
            refine oIdx rfl rfl (g0) rfl (by omega) rfl rfl (fun e80 u80 cs80 hu80 hk80 hc80 => ?_)
            obtain rfl := hk80
            obtain rfl := Option.some.inj (hu71.symm.trans hu80)
            refine oWant rfl rfl ?_
            first | refine oLdX rfl hc80 rfl rfl ?_ | refine oLdXA rfl hc80 rfl (by repeat constructor) ?_ | (refine oLdR1 rfl (by repeat constructor) (by omega) rfl (fun u81 hu81 => ?_))
            refine oWant rfl rfl ?_
            refine oMove rfl ?_
            refine oWant rfl rfl ?_
            refine oLenS rfl rfl ?_
            refine oWant rfl rfl ?_
            refine oLss rfl rfl ?_
            refine oPickT rfl rfl ?_
            refine oNil ?_
            refine thn_n ?_
            first | refine wCond rfl (fun h85 => ?_) (fun h85 => ?_) | refine wCondB rfl (fun h85 => ?_) (fun h85 => ?_)
            ·
             refine wRegion' ?_
             refine oMove rfl ?_
             refine oMove rfl ?_
             refine oMove rfl ?_
             refine oIdx rfl rfl (hC) rfl (by omega) rfl rfl (fun e89 u89 cs89 hu89 hk89 hc89 => ?_)
             obtain ⟨A0, c0, rfl, hle89, g0⟩ := hk89
             have hbig := g0.1
             obtain rfl := Option.some.inj (hu59.symm.trans hu89)
             first | refine oLdX rfl hc89 rfl rfl ?_ | refine oLdXA rfl hc89 rfl (by repeat constructor) ?_ | (refine oLdR1 rfl (by repeat constructor) (by omega) rfl (fun u90 hu90 => ?_))
             refine oMove rfl ?_
             refine oIdx rfl rfl (g0) rfl (by omega) rfl rfl (fun e92 u92 cs92 hu92 hk92 hc92 => ?_)
             obtain rfl := hk92
             obtain rfl := Option.some.inj (hu71.symm.trans hu92)
             first | refine oLdX rfl hc92 rfl rfl ?_ | refine oLdXA rfl hc92 rfl (by repeat constructor) ?_ | (refine oLdR1 rfl (by repeat constructor) (by omega) rfl (fun u93 hu93 => ?_))
             refine oSet (t := 93) (v' := .int .i64 ((u71.toNat : Nat) : Int)) rfl (by rw [Int.toNat_of_nonneg h74]) ?_
             refine oIdxR rfl rfl (by repeat constructor) (by omega) rfl rfl (fun g94 hg94 => ?_)
             first | subst hg94 | (injection hg94 with hg94; injection hg94 with hg94; subst hg94)
             refine oStR _ rfl rfl rfl rfl (by repeat constructor) (by first | omega | (simp only [List.length_set]; omega)) ?_
             refine oNil ?_
             refine blk_n ?_
             refine thn_n ?_
             refine wRegion' ?_
             refine oMove rfl ?_
             refine oSucc rfl rfl (by omega) ?_
             refine oAssign rfl ?_
             refine oNil ?_
             refine thn_n ?_
             have hmem : u71 ∈ endsOf g a := by unfold endsOf; rw [getD_at hu59]; exact List.mem_filter.2 ⟨List.mem_of_getElem? hu71, by simp [inG]; omega⟩
             have hta : Tr out6 a := by unfold Tr; rw [hu54, h55]
             exact ⟨rfl, (i + 1, out6.set u71.toNat true), ⟨by rw [getD_at hu59]; show i + 1 ≤ _; omega, hrd6.set hta hmem, fun j x hj hx hin => by
             rw [getD_at hu59] at hx
             by_cases e : j = i
             · subst e; obtain rfl := Option.some.inj (hu71.symm.trans hx); exact Tr.self (by omega)
             · exact (hds j x (by omega) (by rw [getD_at hu59]; exact hx) hin).set⟩, by rw [getD_at hu59]; show u59.length - (i + 1) < u59.length - i; omega, (by repeat (first | exact trivial | refine And.intro rfl ?_)), (Leads.has (by repeat' constructor))⟩
            ·
             refine wSkip ?_
             refine blk_n ?_
             refine thn_n ?_
             refine wRegion' ?_
             refine oMove rfl ?_
             refine oSucc rfl rfl (by omega) ?_
             refine oAssign rfl ?_
             refine oNil ?_
             refine thn_n ?_
             exact ⟨rfl, (i + 1, out6), ⟨by rw [getD_at hu59]; show i + 1 ≤ _; omega, hrd6, fun j x hj hx hin => by
             rw [getD_at hu59] at hx
             by_cases e : j = i
             · subst e; obtain rfl := Option.some.inj (hu71.symm.trans hx); rw [inG_iff] at hin; omega
             · exact hds j x (by omega) (by rw [getD_at hu59]; exact hx) hin⟩, by rw [getD_at hu59]; show u59.length - (i + 1) < u59.length - i; omega, (by repeat (first | exact trivial | refine And.intro rfl ?_)), (Leads.has (by repeat' constructor))⟩
           ·
            refine oSkip rfl rfl rfl rfl ?_
            refine oSkip rfl rfl rfl rfl ?_
            refine oSkip rfl rfl rfl rfl ?_
            refine oSkip rfl rfl rfl rfl ?_
            refine oSkip rfl rfl rfl rfl ?_
            refine oSkip rfl rfl rfl rfl ?_
            refine oSkip rfl rfl rfl rfl ?_
            refine oSkip rfl rfl rfl rfl ?_
            refine oSkip rfl rfl rfl rfl ?_
            refine oSkip rfl rfl rfl rfl ?_
            refine oPickF rfl rfl ?_
            refine oNil ?_
            refine thn_n ?_
            first | refine wCondF rfl ?_ | refine wCondFd h85 rfl ?_ | refine wCondFb h85 rfl ?_
            refine wSkip ?_
            refine blk_n ?_
            refine thn_n ?_
            refine wRegion' ?_
            refine oMove rfl ?_
            refine oSucc rfl rfl (by omega) ?_
            refine oAssign rfl ?_
            refine oNil ?_
            refine thn_n ?_
            exact ⟨rfl, (i + 1, out6), ⟨by rw [getD_at hu59]; show i + 1 ≤ _; omega, hrd6, fun j x hj hx hin => by
            rw [getD_at hu59] at hx
            by_cases e : j = i
            · subst e; obtain rfl := Option.some.inj (hu71.symm.trans hx); rw [inG_iff] at hin; omega
            · exact hds j x (by omega) (by rw [getD_at hu59]; exact hx) hin⟩, by rw [getD_at hu59]; show u59.length - (i + 1) < u59.length - i; omega, (by repeat (first | exact trivial | refine And.intro rfl ?_)), (Leads.has (by repeat' constructor))⟩
          ·
           refine wExit ?_
           refine thn_x ?_
           refine thn_x ?_
           refine blk_x ?_
           refine blk_n ?_
           refine thn_n ?_
           refine wRegion' ?_
           refine oMove rfl ?_
           refine oSucc rfl rfl (by omega) ?_
           refine oAssign rfl ?_
           refine oNil ?_
           refine thn_n ?_
           exact ⟨rfl, (a + 1, out6), ⟨by show a + 1 ≤ _; omega, hrd6.next (.inr fun b hb => by
           have hb' := List.mem_filter.1 hb
           rw [getD_at hu59] at hb'
           obtain ⟨j, hj⟩ := List.mem_iff_getElem?.1 hb'.1
           exact hds j b (by have := (List.getElem?_eq_some_iff.1 hj).1; omega) (by rw [getD_at hu59]; exact hj) hb'.2)⟩, by show g.length - (a + 1) < g.length - a; omega, (by repeat (first | exact trivial | refine And.intro rfl ?_)), (Leads.has (by repeat' constructor))⟩
         ·
          refine oSkip rfl rfl rfl rfl ?_
          refine oSkip rfl rfl rfl rfl ?_
          refine oSkip rfl rfl rfl rfl ?_
          refine oSkip rfl rfl rfl rfl ?_
          refine oSkip rfl rfl rfl rfl ?_
          refine oSkip rfl rfl rfl rfl ?_
          refine oSkip rfl rfl rfl rfl ?_
          refine oPickF rfl rfl ?_
          refine oNil ?_
          refine thn_n ?_
          first | refine wCondF rfl ?_ | refine wCondFd h63 rfl ?_ | refine wCondFb h63 rfl ?_
          refine wExit ?_
          refine thn_x ?_
          refine thn_x ?_
          refine blk_x ?_
          refine blk_n ?_
          refine thn_n ?_
          refine wRegion' ?_
          refine oMove rfl ?_
          refine oSucc rfl rfl (by omega) ?_
          refine oAssign rfl ?_
          refine oNil ?_
          refine thn_n ?_
          exact ⟨rfl, (a + 1, out6), ⟨by show a + 1 ≤ _; omega, hrd6.next (.inl fun h => by have := h.symm.trans hu54; simp_all)⟩, by show g.length - (a + 1) < g.length - a; omega, (by repeat (first | exact trivial | refine And.intro rfl ?_)), (Leads.has (by repeat' constructor))⟩
       ·
        obtain rfl : a = g.length := by omega
        refine wExit ?_
        refine thn_x ?_
        refine thn_x ?_
        refine blk_x ?_
        refine blk_n ?_
        refine thn_n ?_
        refine wRegion' ?_
        refine oMove rfl ?_
        refine oSucc rfl rfl (by omega) ?_
        refine oAssign rfl ?_
        refine oNil ?_
        refine thn_n ?_
        exact ⟨rfl, (r + 1, out4), ⟨by show r + 1 ≤ _; omega, hrd.ri, fun j x hj hx hin => hrd.mono _ (hst2 j x hj hx hin), hrd.end hri2.len hcl⟩, by show g.length - (r + 1) < g.length - r; omega, (by repeat (first | exact trivial | refine And.intro rfl ?_)), (Leads.has (by repeat' constructor))⟩
     ·
      obtain rfl : r = g.length := by omega
      refine wExit ?_
      refine thn_x ?_
      refine thn_x ?_
      refine blk_x ?_
      refine thn_n ?_
      refine wSeq ?_
      refine wRegion' ?_
      refine oMove rfl ?_
      refine oAssign rfl ?_
      refine oNil ?_
      refine thn_n ?_
      refine wRet ?_
      refine fin_r ?_
      refine ⟨rfl, _, (ResL.cons (ResR.tmp rfl) ResL.nil), ?_⟩
      have hcl' : Closed g old := by
        rcases hcl with h | h
        · exact h
        · exact closed_of_none hri2.len (by omega)
      exact ⟨(some ⟨g12, 0, none⟩, g.length, old), ⟨hri2.len, reach_iff hri2 hst2 hcl'⟩, rfl, (Leads.has (by repeat' constructor))⟩
end Go.Proofs.YtogaiijhicfoaaaGreatG


/-
  Graphs within members: the reference's Within and On.
-/
namespace Go.Proofs.YtogaiijhicfoaaaGreatG
set_option linter.unusedVariables false
set_option linter.unusedSimpArgs false
open Go.RowKit Go.Proofs.YtogaiijhicfoaaaGreatK Go.Proofs.YtogaiijhicfoaaaGreatT Go.Proofs.YtogaiijhicfoaaaGreatL

def inP (g : Graph) (ib : List Bool) (a : Nat) (x : Int) : Bool := memF g ib (a : Int) && memF g ib x
end Go.Proofs.YtogaiijhicfoaaaGreatG


/-
  Package cycle: within.
-/
namespace Go.Proofs.YtogaiijhicfoaaaGreatG
set_option linter.unusedVariables false
set_option linter.unusedSimpArgs false
open Go.RowKit Go.Proofs.YtogaiijhicfoaaaGreatK Go.Proofs.YtogaiijhicfoaaaGreatT Go.Proofs.YtogaiijhicfoaaaGreatL

def wp (g : Graph) (ib : List Bool) (a : Nat) : List Int := (cl g a).filter (inP g ib a)
end Go.Proofs.YtogaiijhicfoaaaGreatG
