/-
  Texts Qp, Qa, Qb, Qc, Qd, Qe, Qf, Qg, Qh in one.
-/
import Derived.Test.YtcacohoanlljhaaMA
import Derived.Test.YtcacohoanlljhaaProg

/-
  Heaps in arrays, plainly: exchanges, and what sifting up and down keeps.
-/
namespace Go.Proofs.YtcacohoanlljhaaQ
set_option linter.unusedVariables false
set_option linter.unusedSimpArgs false

def sw (a : Nat → Nat) (i j k : Nat) : Nat := if k = i then a j else if k = j then a i else a k
section
variable (lt : Nat → Nat → Prop)
def HeapN (a : Nat → Nat) (n : Nat) : Prop := ∀ k, 0 < k → k < n → ¬ lt (a k) (a ((k - 1) / 2))
def UpInv (a : Nat → Nat) (n j : Nat) : Prop :=
  (∀ k, 0 < k → k < n → k ≠ j → ¬ lt (a k) (a ((k - 1) / 2))) ∧ (∀ k, 0 < k → k < n → (k - 1) / 2 = j → 0 < j → ¬ lt (a k) (a ((j - 1) / 2)))
def DownInv (a : Nat → Nat) (n i i0 : Nat) : Prop :=
  (∀ k, 0 < k → k < n → k ≠ i → (k - 1) / 2 ≠ i → ¬ lt (a k) (a ((k - 1) / 2))) ∧ (∀ k, 0 < k → k < n → (k - 1) / 2 = i → 0 < i → ¬ lt (a k) (a ((i - 1) / 2))) ∧
  (i0 < i → ¬ lt (a i) (a ((i - 1) / 2))) ∧ i0 ≤ i
variable {lt} (asy : ∀ a b, lt a b → ¬ lt b a) (tr : ∀ a b c, ¬ lt b a → ¬ lt c b → ¬ lt c a)
include asy tr
theorem up_step {a : Nat → Nat} {n j : Nat} (h : UpInv lt a n j) (h0 : 0 < j) (hj : j < n) (hl : lt (a j) (a ((j - 1) / 2))) : UpInv lt (sw a ((j - 1) / 2) j) n ((j - 1) / 2) := by
  obtain ⟨h1, h2⟩ := h
  generalize hp : (j - 1) / 2 = p at *
  have hpj : p < j := by omega
  have hpn : ¬ lt (a p) (a j) := asy _ _ hl
  refine ⟨fun k k0 kn kp => ?_, fun k k0 kn kp p0 => ?_⟩
  · by_cases kj : k = j
    · subst kj
      have e1 : sw a p k k = a p := by unfold sw; rw [if_neg (by omega), if_pos rfl]
      have e2 : sw a p k ((k - 1) / 2) = a k := by unfold sw; rw [if_pos hp]
      rw [e1, e2]; exact hpn
    · have e1 : sw a p j k = a k := by unfold sw; rw [if_neg kp, if_neg kj]
      rw [e1]
      by_cases q1 : (k - 1) / 2 = p
      · have e2 : sw a p j ((k - 1) / 2) = a j := by unfold sw; rw [if_pos q1]
        rw [e2]
        have := h1 k k0 kn kj
        rw [q1] at this
        exact tr _ _ _ hpn this
      · by_cases q2 : (k - 1) / 2 = j
        · have e2 : sw a p j ((k - 1) / 2) = a p := by unfold sw; rw [if_neg q1, if_pos q2]
          rw [e2]; exact h2 k k0 kn q2 h0
        · have e2 : sw a p j ((k - 1) / 2) = a ((k - 1) / 2) := by unfold sw; rw [if_neg q1, if_neg q2]
          rw [e2]; exact h1 k k0 kn kj
  · have e2 : sw a p j ((p - 1) / 2) = a ((p - 1) / 2) := by unfold sw; rw [if_neg (by omega), if_neg (by omega)]
    have hpp := h1 p p0 (by omega) (by omega)
    rw [e2]
    by_cases kj : k = j
    · subst kj
      have e1 : sw a p k k = a p := by unfold sw; rw [if_neg (by omega), if_pos rfl]
      rw [e1]; exact hpp
    · have e1 : sw a p j k = a k := by unfold sw; rw [if_neg (by omega), if_neg kj]
      rw [e1]
      have := h1 k k0 kn kj
      rw [kp] at this
      exact tr _ _ _ hpp this
omit asy tr in
theorem up_end {a : Nat → Nat} {n j : Nat} (h : UpInv lt a n j) (hj : j = 0 ∨ ¬ lt (a j) (a ((j - 1) / 2))) : HeapN lt a n := by
  intro k k0 kn
  by_cases kj : k = j
  · subst kj
    rcases hj with h | h
    · omega
    · exact h
  · exact h.1 k k0 kn kj
omit tr in
theorem down_step {a : Nat → Nat} {n i j i0 : Nat} (h : DownInv lt a n i i0) (h0 : 0 < j) (hj : j < n) (hp : (j - 1) / 2 = i) (hs : ∀ k, 0 < k → k < n → (k - 1) / 2 = i → ¬ lt (a k) (a j)) (hl : lt (a j) (a i)) : DownInv lt (sw a i j) n j i0 := by
  obtain ⟨h1, h2, h3, h4⟩ := h
  have hij : i < j := by omega
  refine ⟨fun k k0 kn kj kp => ?_, fun k k0 kn kp j0 => ?_, fun _ => ?_, by omega⟩
  · by_cases ki : k = i
    · subst ki
      have e1 : sw a k j k = a j := by unfold sw; rw [if_pos rfl]
      have e2 : sw a k j ((k - 1) / 2) = a ((k - 1) / 2) := by unfold sw; rw [if_neg (by omega), if_neg (by omega)]
      rw [e1, e2]; exact h2 j h0 hj hp k0
    · have e1 : sw a i j k = a k := by unfold sw; rw [if_neg ki, if_neg kj]
      rw [e1]
      by_cases q1 : (k - 1) / 2 = i
      · have e2 : sw a i j ((k - 1) / 2) = a j := by unfold sw; rw [if_pos q1]
        rw [e2]; exact hs k k0 kn q1
      · have e2 : sw a i j ((k - 1) / 2) = a ((k - 1) / 2) := by unfold sw; rw [if_neg q1, if_neg kp]
        rw [e2]; exact h1 k k0 kn ki q1
  · have e1 : sw a i j k = a k := by unfold sw; rw [if_neg (by omega), if_neg (by omega)]
    have e2 : sw a i j ((j - 1) / 2) = a j := by unfold sw; rw [if_pos hp]
    rw [e1, e2]
    have := h1 k k0 kn (by omega) (by omega)
    rw [kp] at this; exact this
  · have e1 : sw a i j j = a i := by unfold sw; rw [if_neg (by omega), if_pos rfl]
    have e2 : sw a i j ((j - 1) / 2) = a j := by unfold sw; rw [if_pos hp]
    rw [e1, e2]; exact asy _ _ hl
omit asy tr in
theorem down_end {a : Nat → Nat} {n i i0 : Nat} (h : DownInv lt a n i i0) (hs : ∀ k, 0 < k → k < n → (k - 1) / 2 = i → ¬ lt (a k) (a i)) : (i0 < i ∨ i = 0 → HeapN lt a n) ∧ UpInv lt a n i := by
  obtain ⟨h1, h2, h3, h4⟩ := h
  have hup : UpInv lt a n i := ⟨fun k k0 kn ki => by
    by_cases q : (k - 1) / 2 = i
    · have := hs k k0 kn q; rw [q]; exact this
    · exact h1 k k0 kn ki q, h2⟩
  refine ⟨fun hi => up_end hup ?_, hup⟩
  rcases hi with hi | hi
  · exact .inr (h3 hi)
  · exact .inl hi
end
/-- What was a heap, with another thing at i. -/
theorem heap_at {lt : Nat → Nat → Prop} (tr : ∀ a b c, ¬ lt b a → ¬ lt c b → ¬ lt c a) {a b : Nat → Nat} {n m i : Nat} (h : HeapN lt a m) (hn : n ≤ m) (hi : i < m) (hb : ∀ k, k < n → k ≠ i → b k = a k) : DownInv lt b n i i := by
  refine ⟨fun k k0 kn ki kp => ?_, fun k k0 kn kp i0 => ?_, fun h => absurd h (by omega), Nat.le_refl _⟩
  · rw [hb k kn ki, hb _ (by omega) kp]; exact h k k0 (by omega)
  · rw [hb k kn (by omega), hb _ (by omega) (by omega)]
    have h1 := h k k0 (by omega)
    rw [kp] at h1
    exact tr _ _ _ (h i i0 hi) h1
theorem heap_less {lt : Nat → Nat → Prop} {a : Nat → Nat} {n m : Nat} (h : HeapN lt a m) (hn : n ≤ m) : HeapN lt a n := fun k k0 kn => h k k0 (by omega)
theorem heap_congr {lt : Nat → Nat → Prop} {a b : Nat → Nat} {n : Nat} (h : HeapN lt a n) (hb : ∀ k, k < n → b k = a k) : HeapN lt b n := fun k k0 kn => by rw [hb k kn, hb _ (by omega)]; exact h k k0 kn
/-- The first one is a least one. -/
theorem heap_least {lt : Nat → Nat → Prop} (tr : ∀ a b c, ¬ lt b a → ¬ lt c b → ¬ lt c a) (ir : ∀ a, ¬ lt a a) {a : Nat → Nat} {n : Nat} (h : HeapN lt a n) : ∀ k, k < n → ¬ lt (a k) (a 0) := by
  intro k
  induction k using Nat.strongRecOn with
  | _ k ih =>
    intro hk
    by_cases k0 : k = 0
    · subst k0; exact ir _
    · exact tr _ _ _ (ih ((k - 1) / 2) (by omega) (by omega)) (h k (by omega) hk)

/-! ### exchanges in lists -/
def at_ (l : List Nat) (k : Nat) : Nat := l.getD k 0
def swp (l : List Nat) (i j : Nat) : List Nat := (l.set i (at_ l j)).set j (at_ l i)
theorem at_some {l : List Nat} {k b : Nat} (h : l[k]? = some b) : at_ l k = b := by unfold at_; rw [List.getD_eq_getElem?_getD, h]; rfl
theorem get_at {l : List Nat} {k : Nat} (h : k < l.length) : l[k]? = some (at_ l k) := by unfold at_; rw [List.getD_eq_getElem?_getD, List.getElem?_eq_getElem h]; rfl
theorem swp_length (l : List Nat) (i j : Nat) : (swp l i j).length = l.length := by simp [swp]
theorem swp_get {l : List Nat} {i j k : Nat} (hi : i < l.length) (hj : j < l.length) : (swp l i j)[k]? = if k = i then l[j]? else if k = j then l[i]? else l[k]? := by
  unfold swp
  rw [List.getElem?_set, List.getElem?_set, get_at hi, get_at hj]
  by_cases h1 : j = k
  · subst h1
    by_cases h2 : j = i
    · subst h2; simp [hi]
    · simp [hj, h2]
  · rw [if_neg h1]
    by_cases h2 : i = k
    · subst h2; simp [hi]
    · rw [if_neg h2, if_neg (Ne.symm h2), if_neg (Ne.symm h1)]
theorem swp_at {l : List Nat} {i j : Nat} (hi : i < l.length) (hj : j < l.length) (k : Nat) : at_ (swp l i j) k = sw (at_ l) i j k := by
  unfold at_ sw
  rw [List.getD_eq_getElem?_getD, swp_get hi hj]
  split
  · simp [List.getD_eq_getElem?_getD]
  · split <;> simp [List.getD_eq_getElem?_getD]
theorem swp_perm {l : List Nat} {i j : Nat} (hi : i < l.length) (hj : j < l.length) : (swp l i j).Perm l := by
  rw [List.perm_iff_count]
  intro b
  unfold swp
  rw [List.count_set (by simpa using hj), List.count_set hi, List.getElem_set]
  have e1 : at_ l i = l[i] := by have := get_at hi; rw [List.getElem?_eq_getElem hi] at this; exact (Option.some.inj this).symm
  have e2 : at_ l j = l[j] := by have := get_at hj; rw [List.getElem?_eq_getElem hj] at this; exact (Option.some.inj this).symm
  rw [e1, e2]
  have c1 : l[i] = b → 0 < List.count b l := fun h => List.count_pos_iff.2 (h ▸ List.getElem_mem hi)
  generalize List.count b l = n at *
  by_cases hij : i = j
  · subst hij
    simp only [if_true]
    by_cases ha : l[i] = b
    · have := c1 ha; simp [ha]; omega
    · simp [ha]
  · rw [if_neg hij]
    by_cases ha : l[i] = b <;> by_cases hb : l[j] = b
    · have := c1 ha; simp [ha, hb]; omega
    · have := c1 ha; simp [ha, hb]; omega
    · simp [ha, hb]
    · simp [ha, hb]
end Go.Proofs.YtcacohoanlljhaaQ


/-
  Package queue: what a pile is, and its methods Len and Less.
-/
namespace Go.Proofs.YtcacohoanlljhaaQ
set_option linter.unusedVariables false
set_option linter.unusedSimpArgs false
open Go.RowKit Go.Proofs.YtcacohoanlljhaaK

structure It where
  id : Int
  key : Int
  pl : Int
def itCells (x : It) : List Value := [.int .i64 x.id, .int .i64 x.key, .int .i64 x.pl]
/-- Items in memory: of each block of S what f tells. -/
def its (S : Nat → Prop) (f : Nat → It) : Res where
  fp := S
  q w := ∀ b, S b → w.heap[b]? = some (.cells (itCells (f b)).toArray 122 (0, 0))
  inb w h k hk := (Array.getElem?_eq_some_iff.1 (h k hk)).1
  st w w' h hk := fun b hb => (hk b hb).trans (h b hb)
abbrev ptrV (b : Nat) : Value := .pointer (some ⟨b, 0, none⟩)
def ptrK : Kd Nat := Kd.scalar ptrV (fun _ => rfl)
structure Pile where
  A : Option Addr
  cp : Nat
  mb : Nat
  l : List Nat
  f : Nat → It
  m : Int → Option Nat
def pileR (p : Nat) (s : Pile) : List Res :=
  [blk p 116 [.slice s.A s.l.length s.cp, .map (some s.mb)], row ptrK default 119 (.slice s.A s.l.length s.cp) s.l, its (· ∈ s.l) s.f, kmap (Value.int .i64) ptrV s.mb s.m]
def ltI (a b : It) : Prop := a.key < b.key ∨ a.key = b.key ∧ a.id < b.id
instance (a b : It) : Decidable (ltI a b) := by unfold ltI; infer_instance

section
variable {c : Cx} {N : Md c} {M : Me c} {d : Nat} {ty : TypeId} {pos : String} {af : Array Edge} {rest : List Oper} {E : Env} {D : List Deferred} {H H' : List Res} {v : Value} {x y : Operand} {t : TypeId} {S : Nat → Prop} {f : Nat → It}
theorem oLdI {b i : Nat} (hx : E.op x = some (.pointer (some ⟨b, i, none⟩))) (hp : Pick H (its S f) H') (hb : S b) (hv : (itCells (f b))[i]? = some v) (hs : scalT c.P t = true) (h : O N rest ((d, v) :: E) D H) (hN : Nat.blt d c.N = true := by rfl) : O N (⟨some d, .load t x, ty, pos, af, none⟩ :: rest) E D H :=
  oC _ rfl hN (fun u w ha hw => by
    have hc : w.cell? ⟨b, i, none⟩ = some v := by rw [cell_of ((hw.get hp) b hb)]; exact hv
    simp [execOp, ha.op hx, Instr.loadAt, Instr.sureAddr, loadVar, run_isAgg_s hs, hc]) h
end

set_option maxRecDepth 100000 in
theorem pile_Len {B : Base} {w : World} {p : Nat} {s : Pile} (hS : St B (pileR p s) w) :
    CallsIn Fence.wide 0 Try.prog 104 #[ptrV p] w (Ret B (fun _ : Unit => True) (fun _ => .int .i64 (s.l.length : Int)) (fun _ => pileR p s)) := by
  unfold pileR at hS ⊢
  (refine enter Try.func104 rfl rfl hS ?_; simp only [List.zipIdx_cons, List.zipIdx_nil, List.map_cons, List.map_nil, Nat.reduceAdd, Nat.zero_add])
  refine wSeq ?_
  refine wRegion' ?_
  refine oAssign rfl ?_
  refine oNil ?_
  refine thn_n ?_
  refine wSeq ?_
  refine wRegion' ?_
  refine oMove rfl ?_
  refine oPtr rfl ?_
  refine oFld (n := 0) (m := 0) rfl rfl rfl ?_
  refine oLd rfl (by repeat (first | exact Pick.here | apply Pick.there)) rfl rfl ?_
  refine oLenS rfl rfl ?_
  refine oAssign rfl ?_
  refine oNil ?_
  refine thn_n ?_
  refine wRet ?_
  refine fin_r ?_
  refine ⟨rfl, _, (ResL.cons (ResR.tmp rfl) ResL.nil), ?_⟩
  exact ⟨(), trivial, rfl, (Leads.has (by repeat' (first | exact Has.nil | exact Pick.here | apply Has.cons | apply Pick.there)))⟩

set_option maxRecDepth 100000 in
theorem pile_Less {B : Base} {w : World} {p : Nat} {s : Pile} (hS : St B (pileR p s) w) (i j : Nat) (bi bj : Nat) (hi : s.l[i]? = some bi) (hj : s.l[j]? = some bj) :
    CallsIn Fence.wide 0 Try.prog 147 #[ptrV p, .int .i64 (i : Int), .int .i64 (j : Int)] w (Ret B (fun _ : Unit => True) (fun _ => .bool (decide (ltI (s.f bi) (s.f bj)))) (fun _ => pileR p s)) := by
  have mi : bi ∈ s.l := List.mem_of_getElem? hi
  have mj : bj ∈ s.l := List.mem_of_getElem? hj
  have li : i < s.l.length := (List.getElem?_eq_some_iff.1 hi).1
  have lj : j < s.l.length := (List.getElem?_eq_some_iff.1 hj).1
  obtain ⟨A, cp, mb, l, f, m⟩ := s
  unfold pileR at hS ⊢
  dsimp only at *
  (refine enter Try.func147 rfl rfl hS ?_; simp only [List.zipIdx_cons, List.zipIdx_nil, List.map_cons, List.map_nil, Nat.reduceAdd, Nat.zero_add])
  refine wSeq ?_
  refine wRegion' ?_
  refine oAssign rfl ?_
  refine oNil ?_
  refine thn_n ?_
  refine wSeq ?_
  refine wDraw2 rfl rfl [0, 4, 7, 11] [1, 2, 3, 5, 6, 8, 9, 10, 12, 13, 14] 15 (by kernel_rfl) rfl rfl rfl (fun w0 => ?_)
  refine oPtr rfl ?_
  refine oFld (n := 0) (m := 0) rfl rfl rfl ?_
  first | refine oLd rfl (by repeat (first | exact Pick.here | apply Pick.there)) rfl rfl ?_ | refine oLdI rfl (by repeat (first | exact Pick.here | apply Pick.there)) (by assumption) rfl rfl ?_
  refine oIdxR rfl rfl (by repeat (first | exact Pick.here | apply Pick.there)) (by omega) rfl rfl (fun g14 hg14 => ?_)
  first | subst hg14 | (injection hg14 with hg14; injection hg14 with hg14; subst hg14)
  first | refine oLdX rfl hc14 rfl rfl ?_ | refine oLdXA rfl hc14 rfl (by repeat (first | exact SubL.done | apply SubL.take | apply SubL.drop)) ?_ | (refine oLdR1 rfl (by repeat (first | exact Pick.here | apply Pick.there)) (by omega) rfl (fun u15 hu15 => ?_))
  obtain rfl := Option.some.inj (hi.symm.trans hu15)
  refine oPtr rfl ?_
  refine oFld (n := 0) (m := 0) rfl rfl rfl ?_
  first | refine oLd rfl (by repeat (first | exact Pick.here | apply Pick.there)) rfl rfl ?_ | refine oLdI rfl (by repeat (first | exact Pick.here | apply Pick.there)) (by assumption) rfl rfl ?_
  refine oIdxR rfl rfl (by repeat (first | exact Pick.here | apply Pick.there)) (by omega) rfl rfl (fun g21 hg21 => ?_)
  first | subst hg21 | (injection hg21 with hg21; injection hg21 with hg21; subst hg21)
  first | refine oLdX rfl hc21 rfl rfl ?_ | refine oLdXA rfl hc21 rfl (by repeat (first | exact SubL.done | apply SubL.take | apply SubL.drop)) ?_ | (refine oLdR1 rfl (by repeat (first | exact Pick.here | apply Pick.there)) (by omega) rfl (fun u22 hu22 => ?_))
  obtain rfl := Option.some.inj (hj.symm.trans hu22)
  refine oAssign rfl ?_
  refine oHead ?_
  refine oAssign rfl ?_
  refine oNilT ?_
  refine thn_n ?_
  refine wSeq ?_
  refine wSeq ?_
  refine wDraw2 rfl rfl [0, 4] [1, 2, 3, 5, 6, 7] 8 (by kernel_rfl) rfl rfl rfl (fun w0 => ?_)
  refine oPtr rfl ?_
  refine oFld (n := 1) (m := 1) rfl rfl rfl ?_
  first | refine oLd rfl (by repeat (first | exact Pick.here | apply Pick.there)) rfl rfl ?_ | refine oLdI rfl (by repeat (first | exact Pick.here | apply Pick.there)) (by assumption) rfl rfl ?_
  refine oPtr rfl ?_
  refine oFld (n := 1) (m := 1) rfl rfl rfl ?_
  first | refine oLd rfl (by repeat (first | exact Pick.here | apply Pick.there)) rfl rfl ?_ | refine oLdI rfl (by repeat (first | exact Pick.here | apply Pick.there)) (by assumption) rfl rfl ?_
  refine oHead ?_
  refine oNeq rfl rfl ?_
  refine oNilT ?_
  refine thn_n ?_
  first | refine wCond rfl (fun h31 => ?_) (fun h31 => ?_) | refine wCondB rfl (fun h31 => ?_) (fun h31 => ?_)
  ·
    refine wSeq ?_
    refine wDraw2 rfl rfl [0, 4] [1, 2, 3, 5, 6, 7, 8] 9 (by kernel_rfl) rfl rfl rfl (fun w0 => ?_)
    refine oPtr rfl ?_
    refine oFld (n := 1) (m := 1) rfl rfl rfl ?_
    first | refine oLd rfl (by repeat (first | exact Pick.here | apply Pick.there)) rfl rfl ?_ | refine oLdI rfl (by repeat (first | exact Pick.here | apply Pick.there)) (by assumption) rfl rfl ?_
    refine oPtr rfl ?_
    refine oFld (n := 1) (m := 1) rfl rfl rfl ?_
    first | refine oLd rfl (by repeat (first | exact Pick.here | apply Pick.there)) rfl rfl ?_ | refine oLdI rfl (by repeat (first | exact Pick.here | apply Pick.there)) (by assumption) rfl rfl ?_
    refine oLss rfl rfl ?_
    refine oHead ?_
    refine oAssign rfl ?_
    refine oNilT ?_
    refine thn_n ?_
    refine wRet ?_
    refine thn_r ?_
    refine fin_r ?_
    refine ⟨rfl, _, (ResL.cons (ResR.tmp rfl) ResL.nil), ?_⟩
    exact ⟨(), trivial, by simp [resVal, ltI, h31], (Leads.has (by repeat' (first | exact Has.nil | exact Pick.here | apply Has.cons | apply Pick.there)))⟩
  ·
    refine wSkip ?_
    refine thn_n ?_
    refine wSeq ?_
    refine wDraw2 rfl rfl [0, 4] [1, 2, 3, 5, 6, 7, 8] 9 (by kernel_rfl) rfl rfl rfl (fun w0 => ?_)
    refine oPtr rfl ?_
    refine oFld (n := 0) (m := 0) rfl rfl rfl ?_
    first | refine oLd rfl (by repeat (first | exact Pick.here | apply Pick.there)) rfl rfl ?_ | refine oLdI rfl (by repeat (first | exact Pick.here | apply Pick.there)) (by assumption) rfl rfl ?_
    refine oPtr rfl ?_
    refine oFld (n := 0) (m := 0) rfl rfl rfl ?_
    first | refine oLd rfl (by repeat (first | exact Pick.here | apply Pick.there)) rfl rfl ?_ | refine oLdI rfl (by repeat (first | exact Pick.here | apply Pick.there)) (by assumption) rfl rfl ?_
    refine oLss rfl rfl ?_
    refine oHead ?_
    refine oAssign rfl ?_
    refine oNilT ?_
    refine thn_n ?_
    refine wRet ?_
    refine fin_r ?_
    refine ⟨rfl, _, (ResL.cons (ResR.tmp rfl) ResL.nil), ?_⟩
    exact ⟨(), trivial, by have := Decidable.not_not.1 h31; simp [resVal, ltI, this], (Leads.has (by repeat' (first | exact Has.nil | exact Pick.here | apply Has.cons | apply Pick.there)))⟩
end Go.Proofs.YtcacohoanlljhaaQ


/-
  Package queue: a pile's exchange.
-/
namespace Go.Proofs.YtcacohoanlljhaaQ
set_option linter.unusedVariables false
set_option linter.unusedSimpArgs false
open Go.RowKit Go.Proofs.YtcacohoanlljhaaK

structure POk (s : Pile) : Prop where
  nd : s.l.Nodup
  pl : ∀ (i b : Nat), s.l[i]? = some b → (s.f b).pl = (i : Int)
  mp : ∀ k b, s.m k = some b ↔ b ∈ s.l ∧ (s.f b).id = k
  sm : s.l.length ≤ 1000000
def Same (f f' : Nat → It) : Prop := ∀ b, (f' b).id = (f b).id ∧ (f' b).key = (f b).key
section
variable {c : Cx} {N : Md c} {M : Me c} {d : Nat} {ty : TypeId} {pos : String} {af : Array Edge} {rest : List Oper} {E : Env} {D : List Deferred} {H H' : List Res} {v : Value} {x y : Operand} {t : TypeId} {S : Nat → Prop} {f : Nat → It}
theorem oStI {b i : Nat} (x' : It) (hx : E.op x = some (.pointer (some ⟨b, i, none⟩))) (hy : E.op y = some v) (hv : v.cells = #[v]) (h1 : v.oneCell' = true) (hs : (c.P.info? t).map (·.size) = some 1) (hp : Pick H (its S f) H') (hb : S b) (hi : i < 3) (he : (itCells (f b)).set i v = itCells x')
    (h : O M.toMd rest E D (its S (fun k => if k = b then x' else f k) :: H')) : O M.toMd (⟨none, .store t x y, ty, pos, af, none⟩ :: rest) E D H :=
  oEffs rfl fun a w ha hw => by
    have hbb := (hw.get hp) b hb
    refine ⟨w.setCell ⟨b, i, none⟩ v, its S (fun k => if k = b then x' else f k) :: H', ?_, hw.upd' hp ((Chg.setCell w ⟨b, i, none⟩ v).mono (fun k hk => by subst hk; exact hb)) ?_ (fun k hk => .inl hk), h⟩
    · simp [execOp, ha.op hx, ha.op hy, run_store1 hbb (by simp [itCells]; omega) hv h1 hs]
    · intro k hk
      by_cases e : k = b
      · subst e
        simp only [if_true]
        rw [set_heap hbb, he]
      · simp only [if_neg e]
        rw [Below.heap_setCell _ _ _ _ (show k ≠ _ from e)]
        exact (hw.get hp) k hk
end
theorem mem_swp {l : List Nat} {i j : Nat} (hi : i < l.length) (hj : j < l.length) : (fun b => b ∈ l) = (fun b => b ∈ swp l i j) := by
  funext b; exact propext (swp_perm hi hj).mem_iff.symm

theorem nd_inj {l : List Nat} (h : l.Nodup) {i j b : Nat} (hi : l[i]? = some b) (hj : l[j]? = some b) : i = j :=
  (List.getElem?_inj (List.getElem?_eq_some_iff.1 hi).1 h).1 (hi.trans hj.symm)
def swF (f : Nat → It) (a b : Nat) (i j : Int) : Nat → It := fun k =>
  if k = a then { (if a = b then { f b with pl := i } else f a) with pl := j } else if k = b then { f b with pl := i } else f k
theorem swF_same (f : Nat → It) (a b : Nat) (i j : Int) : Same f (swF f a b i j) := by
  intro k
  unfold swF
  by_cases h1 : k = a
  · subst h1
    by_cases h2 : k = b
    · subst h2; simp
    · simp [h2]
  · by_cases h2 : k = b
    · subst h2; simp [h1]
    · simp [h1, h2]
theorem swap_ok {A A' : Option Addr} {cp mb : Nat} {l : List Nat} {f : Nat → It} {m : Int → Option Nat} (h : POk ⟨A, cp, mb, l, f, m⟩) {i j : Nat} (li : i < l.length) (lj : j < l.length) :
    POk ⟨A', cp, mb, swp l i j, swF f (at_ l i) (at_ l j) i j, m⟩ := by
  obtain ⟨nd, pl, mp, sm⟩ := h
  dsimp only at *
  refine ⟨(swp_perm li lj).nodup_iff.2 nd, fun k b hk => ?_, fun k b => ?_, by show (swp l i j).length ≤ _; rw [swp_length]; exact sm⟩
  · dsimp only at hk ⊢
    rw [swp_get li lj, get_at li, get_at lj] at hk
    unfold swF
    by_cases h1 : k = i
    · subst h1
      rw [if_pos rfl] at hk
      obtain rfl := Option.some.inj hk
      by_cases h2 : at_ l j = at_ l k
      · have := nd_inj nd (get_at lj) (h2 ▸ get_at li)
        subst this
        simp
      · simp [h2]
    · rw [if_neg h1] at hk
      by_cases h2 : k = j
      · subst h2
        rw [if_pos rfl] at hk
        obtain rfl := Option.some.inj hk
        simp
      · rw [if_neg h2] at hk
        have h3 : ¬ b = at_ l i := by rintro rfl; exact h1 (nd_inj nd hk (get_at li))
        have h4 : ¬ b = at_ l j := by rintro rfl; exact h2 (nd_inj nd hk (get_at lj))
        simp [h3, h4, pl k b hk]
  · show m k = some b ↔ b ∈ swp l i j ∧ (swF f (at_ l i) (at_ l j) i j b).id = k
    rw [mp, (swp_perm li lj).mem_iff, (swF_same f _ _ _ _ b).1]

set_option maxRecDepth 100000 in
theorem pile_Swap {B : Base} {w : World} {p : Nat} {s : Pile} (hS : St B (pileR p s) w) (hok : POk s) (i j : Nat) (li : i < s.l.length) (lj : j < s.l.length) :
    CallsIn Fence.wide 0 Try.prog 150 #[ptrV p, .int .i64 (i : Int), .int .i64 (j : Int)] w (Ret B (fun s' => POk s' ∧ s'.l = swp s.l i j ∧ Same s.f s'.f) (fun _ => .tuple #[]) (fun s' => pileR p s')) := by
  have hi := get_at li
  have hj := get_at lj
  obtain ⟨A, cp, mb, l, f, m⟩ := s
  have hok' := fun A' => swap_ok (A' := A') hok li lj
  obtain ⟨nd, pl, mp, sm⟩ := hok
  unfold pileR at hS
  dsimp only at *
  have hg : ((l.set i (at_ l j)).set j (at_ l i))[i]? = _ := swp_get (k := i) li lj
  have hg' : ((l.set i (at_ l j)).set j (at_ l i))[j]? = _ := swp_get (k := j) li lj
  have hlen : ((l.set i (at_ l j)).set j (at_ l i)).length = l.length := swp_length l i j
  have hmem := mem_swp li lj
  have mi : at_ l i ∈ l := List.mem_of_getElem? hi
  have mj : at_ l j ∈ l := List.mem_of_getElem? hj
  (refine enter Try.func150 rfl rfl hS ?_; simp only [List.zipIdx_cons, List.zipIdx_nil, List.map_cons, List.map_nil, Nat.reduceAdd, Nat.zero_add])
  refine wSeq ?_
  refine wDraw2 rfl rfl [0, 4, 5, 9, 10, 14, 17, 21] [1, 2, 3, 6, 7, 8, 11, 12, 13, 15, 16, 18, 19, 20, 22, 23, 24] 25 (by kernel_rfl) rfl rfl rfl (fun w0 => ?_)
  refine oPtr rfl ?_
  refine oFld (n := 0) (m := 0) rfl rfl rfl ?_
  refine oLd rfl (by repeat (first | exact Pick.here | apply Pick.there)) rfl rfl ?_
  refine oPtr rfl ?_
  refine oFld (n := 0) (m := 0) rfl rfl rfl ?_
  refine oLd rfl (by repeat (first | exact Pick.here | apply Pick.there)) rfl rfl ?_
  refine oPtr rfl ?_
  refine oFld (n := 0) (m := 0) rfl rfl rfl ?_
  refine oLd rfl (by repeat (first | exact Pick.here | apply Pick.there)) rfl rfl ?_
  refine oIdxR rfl rfl (by repeat (first | exact Pick.here | apply Pick.there)) (by omega) rfl rfl (fun g21 hg21 => ?_)
  first | subst hg21 | (injection hg21 with hg21; injection hg21 with hg21; subst hg21)
  first | refine oLdX rfl hc21 rfl rfl ?_ | refine oLdXA rfl hc21 rfl (by repeat (first | exact SubL.done | apply SubL.take | apply SubL.drop)) ?_ | (refine oLdR1 rfl (by repeat (first | exact Pick.here | apply Pick.there)) (by omega) rfl (fun u22 hu22 => ?_))
  obtain rfl := Option.some.inj (hu22.symm.trans hj)
  refine oPtr rfl ?_
  refine oFld (n := 0) (m := 0) rfl rfl rfl ?_
  refine oLd rfl (by repeat (first | exact Pick.here | apply Pick.there)) rfl rfl ?_
  refine oIdxR rfl rfl (by repeat (first | exact Pick.here | apply Pick.there)) (by omega) rfl rfl (fun g28 hg28 => ?_)
  first | subst hg28 | (injection hg28 with hg28; injection hg28 with hg28; subst hg28)
  first | refine oLdX rfl hc28 rfl rfl ?_ | refine oLdXA rfl hc28 rfl (by repeat (first | exact SubL.done | apply SubL.take | apply SubL.drop)) ?_ | (refine oLdR1 rfl (by repeat (first | exact Pick.here | apply Pick.there)) (by omega) rfl (fun u29 hu29 => ?_))
  obtain rfl := Option.some.inj (hu29.symm.trans hi)
  refine oIdxR rfl rfl (by repeat (first | exact Pick.here | apply Pick.there)) (by omega) rfl rfl (fun g30 hg30 => ?_)
  first | subst hg30 | (injection hg30 with hg30; injection hg30 with hg30; subst hg30)
  refine oHead ?_
  refine oStR _ rfl rfl rfl rfl (by repeat (first | exact Pick.here | apply Pick.there)) (by first | omega | (simp only [List.length_set]; omega)) ?_
  refine oIdxR rfl rfl (by repeat (first | exact Pick.here | apply Pick.there)) (by omega) rfl rfl (fun g31 hg31 => ?_)
  first | subst hg31 | (injection hg31 with hg31; injection hg31 with hg31; subst hg31)
  refine oStR _ rfl rfl rfl rfl (by repeat (first | exact Pick.here | apply Pick.there)) (by first | omega | (simp only [List.length_set]; omega)) ?_
  refine oNilT ?_
  refine thn_n ?_
  refine wDraw2 rfl rfl [0, 4, 7, 11, 14, 15] [1, 2, 3, 5, 6, 8, 9, 10, 12, 13, 16, 17] 18 (by kernel_rfl) rfl rfl rfl (fun w0 => ?_)
  refine oPtr rfl ?_
  refine oFld (n := 0) (m := 0) rfl rfl rfl ?_
  refine oLd rfl (by repeat (first | exact Pick.here | apply Pick.there)) rfl rfl ?_
  refine oIdxR rfl rfl (by repeat (first | exact Pick.here | apply Pick.there)) (by omega) rfl rfl (fun g37 hg37 => ?_)
  first | subst hg37 | (injection hg37 with hg37; injection hg37 with hg37; subst hg37)
  first | refine oLdX rfl hc37 rfl rfl ?_ | refine oLdXA rfl hc37 rfl (by repeat (first | exact SubL.done | apply SubL.take | apply SubL.drop)) ?_ | (refine oLdR1 rfl (by repeat (first | exact Pick.here | apply Pick.there)) (by omega) rfl (fun u38 hu38 => ?_))
  obtain rfl : u38 = at_ l j := by
    have := hu38.symm.trans hg; simp at this; rw [hj] at this; simpa using this
  refine oPtr rfl ?_
  refine oFld (n := 0) (m := 0) rfl rfl rfl ?_
  refine oLd rfl (by repeat (first | exact Pick.here | apply Pick.there)) rfl rfl ?_
  refine oIdxR rfl rfl (by repeat (first | exact Pick.here | apply Pick.there)) (by omega) rfl rfl (fun g44 hg44 => ?_)
  first | subst hg44 | (injection hg44 with hg44; injection hg44 with hg44; subst hg44)
  first | refine oLdX rfl hc44 rfl rfl ?_ | refine oLdXA rfl hc44 rfl (by repeat (first | exact SubL.done | apply SubL.take | apply SubL.drop)) ?_ | (refine oLdR1 rfl (by repeat (first | exact Pick.here | apply Pick.there)) (by omega) rfl (fun u45 hu45 => ?_))
  obtain rfl : u45 = at_ l i := by
    have h9 := hu45.symm.trans hg'
    by_cases e : j = i
    · subst e; simpa [hj] using h9
    · simpa [e, hi] using h9
  refine oPtr rfl ?_
  refine oFld (n := 2) (m := 2) rfl rfl rfl ?_
  refine oHead ?_
  refine oStI { f (at_ l j) with pl := (i : Int) } rfl rfl rfl rfl rfl (by repeat (first | exact Pick.here | apply Pick.there)) mj (by decide) rfl ?_
  refine oPtr rfl ?_
  refine oFld (n := 2) (m := 2) rfl rfl rfl ?_
  refine oStI { (if at_ l i = at_ l j then { f (at_ l j) with pl := (i : Int) } else f (at_ l i)) with pl := (j : Int) } rfl rfl rfl rfl rfl (by repeat (first | exact Pick.here | apply Pick.there)) mi (by decide) rfl ?_
  refine oNilT ?_
  refine fin_n ?_
  refine ⟨rfl, _, ResL.nil, ?_⟩
  refine ⟨⟨some ⟨g21, 0, none⟩, cp, mb, swp l i j, swF f (at_ l i) (at_ l j) i j, m⟩, ⟨hok' _, rfl, swF_same _ _ _ _ _⟩, rfl, ?_⟩
  show Leads _ _ [blk p _ [.slice _ (swp l i j).length cp, _], row _ _ _ (.slice _ (swp l i j).length cp) (swp l i j), its (fun b => b ∈ swp l i j) _, _]
  rw [swp_length, ← hmem]
  exact (Leads.has (by repeat' (first | exact Has.nil | exact Pick.here | apply Has.cons | apply Pick.there)))
end Go.Proofs.YtcacohoanlljhaaQ


/-
  Package queue: a pile's Push and Pop.
-/
namespace Go.Proofs.YtcacohoanlljhaaQ
set_option linter.unusedVariables false
set_option linter.unusedSimpArgs false
open Go.RowKit Go.Proofs.YtcacohoanlljhaaK

section
variable {B : Base} {w : World} {Φ Φ' Φ'' : List Res} {S S' : Nat → Prop} {f f' : Nat → It} {b : Nat}
theorem St.apart {r s : Res} (h : St B Φ w) (hp : Pick Φ r Φ') (hq : Pick Φ' s Φ'') {k : Nat} (hr : r.fp k) : ¬ s.fp k := by
  have := (h.perm (hp.perm.trans (hq.perm.cons _))).sep
  exact this.2.2.1 s List.mem_cons_self k hr
theorem its_congr (hp : Pick Φ (its S f) Φ') (hS : ∀ k, S' k ↔ S k) (hf : ∀ k, S k → f' k = f k) : Leads B Φ (its S' f' :: Φ') := fun w h =>
  (h.perm hp.perm).conv .here (fun hq k hk => by rw [hf k ((hS k).1 hk)]; exact hq k ((hS k).1 hk)) (fun k hk => (hS k).1 hk)
theorem its_join {cs : List Value} (hp : Pick Φ (its S f) Φ') (hq : Pick Φ' (blk b 122 cs) Φ'') (hS : ∀ k, S' k ↔ S k ∨ k = b) (hf : ∀ k, S k → k ≠ b → f' k = f k) (hb : cs = itCells (f' b)) : Leads B Φ (its S' f' :: Φ'') := fun w h => by
  have h1 := h.perm (hp.perm.trans (hq.perm.cons _))
  obtain ⟨g1, g2, g3, h2, h3, h4, h5⟩ := h1.sep
  refine ⟨h1.ok, fun k hk => ?_, fun k hk => ?_, fun s hs k hk => ?_, h5⟩
  · rcases (hS k).1 hk with hk | rfl
    · by_cases e : k = b
      · subst e; exact absurd rfl (g3 _ List.mem_cons_self k hk)
      · rw [hf k hk e]; exact g1 k hk
    · rw [← hb]; exact h2
  · rcases (hS k).1 hk with hk | rfl
    · exact g2 k hk
    · exact h3 k rfl
  · rcases (hS k).1 hk with hk | rfl
    · exact g3 s (List.mem_cons_of_mem _ hs) k hk
    · exact h4 s hs k rfl
theorem its_split (hp : Pick Φ (its S f) Φ') (hb : S b) (hS : ∀ k, S' k ↔ S k ∧ k ≠ b) : Leads B Φ (its S' f :: blk b 122 (itCells (f b)) :: Φ') := fun w h => by
  have h1 := h.perm hp.perm
  obtain ⟨g1, g2, g3, h5⟩ := h1.sep
  refine ⟨h1.ok, fun k hk => g1 k ((hS k).1 hk).1, fun k hk => g2 k ((hS k).1 hk).1, fun s hs k hk hsk => ?_, g1 b hb, fun k hk => ?_, fun s hs k hk => ?_, h5⟩
  · rcases List.mem_cons.1 hs with rfl | hs
    · exact ((hS k).1 hk).2 hsk
    · exact g3 s hs k ((hS k).1 hk).1 hsk
  · have : k = b := hk
    subst this; exact g2 k hb
  · have : k = b := hk
    subst this; exact g3 s hs k hb
end

def pushF (f : Nat → It) (b : Nat) (x : It) : Nat → It := fun k => if k = b then x else f k
set_option maxRecDepth 100000 in
theorem pile_Push {B : Base} {w : World} {p nb : Nat} {s : Pile} {x : It} (hS : St B (pileR p s ++ [blk nb 122 (itCells x)]) w) (hok : POk s) (hid : s.m x.id = none) (hl : s.l.length < 1000000) :
    CallsIn Fence.wide 0 Try.prog 149 #[ptrV p, .iface 119 (ptrV nb)] w (Ret B (fun s' => POk s' ∧ s'.l = s.l ++ [nb] ∧ s'.f = pushF s.f nb { x with pl := s.l.length }) (fun _ => .tuple #[]) (fun s' => pileR p s')) := by
  obtain ⟨nd, pl, mp, sm⟩ := hok
  obtain ⟨A, cp, mb, l, f, m⟩ := s
  unfold pileR at hS
  dsimp only [List.cons_append, List.nil_append] at *
  have hnb : nb ∉ l := fun hm => St.apart hS (by repeat (first | exact Pick.here | apply Pick.there)) (by repeat (first | exact Pick.here | apply Pick.there)) (r := its (· ∈ l) f) (s := blk nb _ _) hm rfl
  obtain ⟨xi, xk, xp⟩ := x
  unfold itCells at hS
  dsimp only at hid hS
  (refine enter Try.func149 rfl rfl hS ?_; simp only [List.zipIdx_cons, List.zipIdx_nil, List.map_cons, List.map_nil, Nat.reduceAdd, Nat.zero_add])
  refine wSeq ?_
  refine wRegion' ?_
  refine oMove rfl ?_
  refine oAssertT rfl rfl ?_
  refine oMove rfl ?_
  refine oExt rfl (by repeat (first | exact GetAt.here | apply GetAt.there)) ?_
  refine oExt rfl (by repeat (first | exact GetAt.here | apply GetAt.there)) ?_
  refine oAssign rfl ?_
  refine oAssign rfl ?_
  refine oNil ?_
  refine thn_n ?_
  refine wSeq ?_
  refine wSeq ?_
  refine wRegion' ?_
  refine oMove rfl ?_
  refine oNotT rfl ?_
  refine oNil ?_
  refine thn_n ?_
  refine wCondF rfl ?_
  refine wSkip ?_
  refine thn_n ?_
  refine wSeq ?_
  refine wRegion' ?_
  refine oMove rfl ?_
  refine oMove rfl ?_
  refine oPtr rfl ?_
  refine oFld (n := 0) (m := 0) rfl rfl rfl ?_
  refine oLd rfl (by repeat (first | exact Pick.here | apply Pick.there)) rfl rfl ?_
  refine oLenS rfl rfl ?_
  refine oPtr rfl ?_
  refine oFld (n := 2) (m := 2) rfl rfl rfl ?_
  refine oSt rfl rfl rfl rfl rfl (by repeat (first | exact Pick.here | apply Pick.there)) (by repeat (first | exact SetAt.here | apply SetAt.there)) ?_
  refine oNil ?_
  refine thn_n ?_
  refine wSeq ?_
  refine wRegion' ?_
  refine oMove rfl ?_
  refine oMove rfl ?_
  refine oPtr rfl ?_
  refine oFld (n := 0) (m := 0) rfl rfl rfl ?_
  refine oLd rfl (by repeat (first | exact Pick.here | apply Pick.there)) rfl rfl ?_
  refine oMove rfl ?_
  refine oBuildSlice1 rfl rfl rfl rfl rfl (by first | exact CellsOf.agg | exact CellsOf.one rfl) rfl (fun b27 => ?_)
  refine oApp1 _ rfl rfl rfl rfl (by repeat (first | exact Pick.here | apply Pick.there)) (by repeat (first | exact Pick.here | apply Pick.there)) rfl (by omega) rfl (fun g28 cp28 => ?_)
  refine oPtr rfl ?_
  refine oFld (n := 0) (m := 0) rfl rfl rfl ?_
  refine oSt rfl rfl rfl rfl rfl (by repeat (first | exact Pick.here | apply Pick.there)) (by repeat (first | exact SetAt.here | apply SetAt.there)) ?_
  refine oNil ?_
  refine thn_n ?_
  refine wDraw2 rfl rfl [0, 4, 8] [1, 2, 3, 5, 6, 7] 9 (by kernel_rfl) rfl rfl rfl (fun w0 => ?_)
  refine oPtr rfl ?_
  refine oFld (n := 1) (m := 1) rfl rfl rfl ?_
  refine oLd rfl (by repeat (first | exact Pick.here | apply Pick.there)) rfl rfl ?_
  refine oPtr rfl ?_
  refine oFld (n := 0) (m := 0) rfl rfl rfl ?_
  refine oLd rfl (by repeat (first | exact Pick.here | apply Pick.there)) rfl rfl ?_
  refine oHead ?_
  refine oMapUpd (ev := ptrV) (u := nb) (keyE_int .i64) rfl rfl rfl rfl (by repeat (first | exact Pick.here | apply Pick.there)) ?_
  refine oNilT ?_
  refine fin_n ?_
  refine ⟨rfl, _, ResL.nil, ?_⟩
  refine ⟨⟨some ⟨g28, 0, none⟩, cp28, mb, l ++ [nb], pushF f nb ⟨xi, xk, l.length⟩, fun k => if k = xi then some nb else m k⟩, ⟨⟨?_, ?_, ?_, ?_⟩, rfl, rfl⟩, rfl, ?_⟩
  · exact List.nodup_append.2 ⟨nd, by simp, fun a ha b hb => by simp at hb; subst hb; rintro rfl; exact hnb ha⟩
  · intro i b hb
    dsimp only at hb ⊢
    unfold pushF
    rcases Nat.lt_or_ge i l.length with hi | hi
    · rw [List.getElem?_append_left hi] at hb
      have : ¬ b = nb := by rintro rfl; exact hnb (List.mem_of_getElem? hb)
      rw [if_neg this]; exact pl i b hb
    · rw [List.getElem?_append_right hi] at hb
      have h0 : i - l.length = 0 := by
        have := (List.getElem?_eq_some_iff.1 hb).1; simp at this; omega
      rw [h0] at hb
      obtain rfl : nb = b := by simpa using hb
      rw [if_pos rfl]
      show ((l.length : Nat) : Int) = i
      omega
  · intro k b
    show (if k = xi then some nb else m k) = some b ↔ b ∈ l ++ [nb] ∧ (pushF f nb ⟨xi, xk, l.length⟩ b).id = k
    unfold pushF
    by_cases hb : b = nb
    · subst hb
      simp only [List.mem_append, List.mem_singleton, or_true, true_and, if_true]
      by_cases hk : k = xi
      · simp [hk]
      · rw [if_neg hk]
        constructor
        · intro h; exact absurd ((mp k b).1 h).1 hnb
        · intro h; exact absurd h.symm hk
    · rw [if_neg hb]
      by_cases hk : k = xi
      · subst hk
        rw [if_pos rfl]
        constructor
        · intro h; exact absurd (Option.some.inj h).symm hb
        · rintro ⟨h1, h2⟩
          have := (mp k b).2 ⟨by simpa [hb] using h1, h2⟩
          rw [hid] at this; cases this
      · rw [if_neg hk, mp]; simp [hb]
  · show (l ++ [nb]).length ≤ _
    simp; omega
  · refine (its_join (S' := (· ∈ l ++ [nb])) (f' := pushF f nb ⟨xi, xk, l.length⟩) (by repeat (first | exact Pick.here | apply Pick.there)) (by repeat (first | exact Pick.here | apply Pick.there)) (fun k => by simp) (fun k h1 h2 => by simp [pushF, h2]) (by simp [pushF, itCells])).trans ?_
    show Leads _ _ [blk p _ [.slice _ (l ++ [nb]).length cp28, _], row _ _ _ (.slice _ (l ++ [nb]).length cp28) (l ++ [nb]), its (fun b => b ∈ l ++ [nb]) _, _]
    rw [List.length_append]
    exact (Leads.has (by repeat' (first | exact Has.nil | exact Pick.here | apply Has.cons | apply Pick.there)))
end Go.Proofs.YtcacohoanlljhaaQ


/-
  Package queue: a pile's Pop; container/heap's up and down.
-/
namespace Go.Proofs.YtcacohoanlljhaaQ
set_option linter.unusedVariables false
set_option linter.unusedSimpArgs false
open Go.RowKit Go.Proofs.YtcacohoanlljhaaK

theorem last_of {l : List Nat} (h : l ≠ []) : l[l.length - 1]? = some (at_ l (l.length - 1)) := get_at (by have := List.length_pos_iff.2 h; omega)
theorem mem_drop {l : List Nat} (nd : l.Nodup) (h : l ≠ []) (k : Nat) : k ∈ l.take (l.length - 1) ↔ k ∈ l ∧ k ≠ at_ l (l.length - 1) := by
  have hl := List.length_pos_iff.2 h
  constructor
  · intro hk
    refine ⟨List.mem_of_mem_take hk, ?_⟩
    rintro rfl
    obtain ⟨i, hi⟩ := List.getElem?_of_mem hk
    have hlt : i < l.length - 1 := by have := (List.getElem?_eq_some_iff.1 hi).1; simp at this; omega
    rw [List.getElem?_take, if_pos hlt] at hi
    have := nd_inj nd hi (last_of h)
    omega
  · rintro ⟨hk, hne⟩
    obtain ⟨i, hi⟩ := List.getElem?_of_mem hk
    have hlt : i < l.length := (List.getElem?_eq_some_iff.1 hi).1
    have : i ≠ l.length - 1 := by
      rintro rfl
      rw [last_of h] at hi
      exact hne (Option.some.inj hi).symm
    exact List.mem_of_getElem? (i := i) (by rw [List.getElem?_take, if_pos (by omega)]; exact hi)
set_option maxRecDepth 100000 in
theorem pile_Pop {B : Base} {w : World} {p : Nat} {s : Pile} (hS : St B (pileR p s) w) (hok : POk s) (hl : s.l ≠ []) :
    CallsIn Fence.wide 0 Try.prog 148 #[ptrV p] w (Ret B (fun s' => POk s' ∧ s'.l = s.l.take (s.l.length - 1) ∧ s'.f = s.f) (fun _ => .iface 119 (ptrV (at_ s.l (s.l.length - 1))))
      (fun s' => blk (at_ s.l (s.l.length - 1)) 122 (itCells (s.f (at_ s.l (s.l.length - 1)))) :: pileR p s')) := by
  obtain ⟨nd, pl, mp, sm⟩ := hok
  obtain ⟨A, cp, mb, l, f, m⟩ := s
  unfold pileR at hS
  dsimp only at *
  have hl0 := List.length_pos_iff.2 hl
  have hlast := last_of hl
  have hmem := mem_drop nd hl
  obtain ⟨n1, hn1⟩ : ∃ n1, l.length = n1 + 1 := ⟨l.length - 1, by omega⟩
  have e1 : ((l.length : Nat) : Int) - 1 = ((l.length - 1 : Nat) : Int) := by omega
  have hx : at_ l (l.length - 1) ∈ l := List.mem_of_getElem? hlast
  generalize hb : at_ l (l.length - 1) = xb at *
  (refine enter Try.func148 rfl rfl hS ?_; simp only [List.zipIdx_cons, List.zipIdx_nil, List.map_cons, List.map_nil, Nat.reduceAdd, Nat.zero_add])
  refine wSeq ?_
  refine wRegion' ?_
  refine oAssign rfl ?_
  refine oNil ?_
  refine thn_n ?_
  refine wSeq ?_
  refine wRegion' ?_
  refine oMove rfl ?_
  refine oPtr rfl ?_
  refine oFld (n := 0) (m := 0) rfl rfl rfl ?_
  first | refine oLd rfl (by repeat (first | exact Pick.here | apply Pick.there)) rfl rfl ?_ | refine oLdI rfl (by repeat (first | exact Pick.here | apply Pick.there)) hx rfl rfl ?_
  refine oLenS rfl rfl ?_
  first | refine oSub rfl rfl (by omega) ?_ | refine oSubW rfl rfl ?_
  refine oSet (t := 10) (v' := .int .i64 ((l.length - 1 : Nat) : Int)) rfl (by rw [e1]) ?_
  refine oAssign rfl ?_
  refine oNil ?_
  refine thn_n ?_
  refine wSeq ?_
  refine wRegion' ?_
  refine oMove rfl ?_
  refine oPtr rfl ?_
  refine oFld (n := 0) (m := 0) rfl rfl rfl ?_
  first | refine oLd rfl (by repeat (first | exact Pick.here | apply Pick.there)) rfl rfl ?_ | refine oLdI rfl (by repeat (first | exact Pick.here | apply Pick.there)) hx rfl rfl ?_
  refine oMove rfl ?_
  refine oIdxR rfl rfl (by repeat (first | exact Pick.here | apply Pick.there)) (by omega) rfl rfl (fun g16 hg16 => ?_)
  first | subst hg16 | (injection hg16 with hg16; injection hg16 with hg16; subst hg16)
  first | refine oLdX rfl hc16 rfl rfl ?_ | refine oLdXA rfl hc16 rfl (by repeat (first | exact SubL.done | apply SubL.take | apply SubL.drop)) ?_ | (refine oLdR1 rfl (by repeat (first | exact Pick.here | apply Pick.there)) (by omega) rfl (fun u17 hu17 => ?_))
  obtain rfl : u17 = xb := by rw [hlast] at hu17; exact (Option.some.inj hu17).symm
  refine oAssign rfl ?_
  refine oNil ?_
  refine thn_n ?_
  refine wSeq ?_
  refine wRegion' ?_
  refine oMove rfl ?_
  refine oMove rfl ?_
  refine oPtr rfl ?_
  refine oFld (n := 0) (m := 0) rfl rfl rfl ?_
  first | refine oLd rfl (by repeat (first | exact Pick.here | apply Pick.there)) rfl rfl ?_ | refine oLdI rfl (by repeat (first | exact Pick.here | apply Pick.there)) hx rfl rfl ?_
  refine oMove rfl ?_
  refine oSliceTo rfl rfl (by omega) rfl (by repeat (first | exact Pick.here | apply Pick.there)) ?_
  refine oPtr rfl ?_
  refine oFld (n := 0) (m := 0) rfl rfl rfl ?_
  refine oSt rfl rfl rfl rfl rfl (by repeat (first | exact Pick.here | apply Pick.there)) (by repeat (first | exact SetAt.here | apply SetAt.there)) ?_
  refine oNil ?_
  refine thn_n ?_
  refine wSeq ?_
  refine wDraw2 rfl rfl [0, 4] [1, 2, 3, 5, 6, 7] 8 (by kernel_rfl) rfl rfl rfl (fun w0 => ?_)
  refine oPtr rfl ?_
  refine oFld (n := 1) (m := 1) rfl rfl rfl ?_
  first | refine oLd rfl (by repeat (first | exact Pick.here | apply Pick.there)) rfl rfl ?_ | refine oLdI rfl (by repeat (first | exact Pick.here | apply Pick.there)) hx rfl rfl ?_
  refine oPtr rfl ?_
  refine oFld (n := 0) (m := 0) rfl rfl rfl ?_
  first | refine oLd rfl (by repeat (first | exact Pick.here | apply Pick.there)) rfl rfl ?_ | refine oLdI rfl (by repeat (first | exact Pick.here | apply Pick.there)) hx rfl rfl ?_
  refine oHead ?_
  refine oDelete (ev := ptrV) (keyE_int .i64) rfl rfl rfl (by repeat (first | exact Pick.here | apply Pick.there)) ?_
  refine oNilT ?_
  refine thn_n ?_
  refine wSeq ?_
  refine wRegion' ?_
  refine oMove rfl ?_
  refine oIface rfl rfl ?_
  refine oAssign rfl ?_
  refine oNil ?_
  refine thn_n ?_
  refine wRet ?_
  refine fin_r ?_
  refine ⟨rfl, _, (ResL.cons (ResR.tmp rfl) ResL.nil), ?_⟩
  refine ⟨⟨some ⟨g16, 0, none⟩, cp, mb, l.take (l.length - 1), f, fun k => if k = (f u17).id then none else m k⟩, ⟨⟨?_, ?_, ?_, ?_⟩, rfl, rfl⟩, rfl, ?_⟩
  · exact nd.sublist (List.take_sublist _ _)
  · intro i b hb
    dsimp only at hb ⊢
    have hlt : i < l.length - 1 := by have := (List.getElem?_eq_some_iff.1 hb).1; simp at this; omega
    rw [List.getElem?_take, if_pos hlt] at hb
    exact pl i b hb
  · intro k b
    show (if k = (f u17).id then none else m k) = some b ↔ b ∈ l.take (l.length - 1) ∧ (f b).id = k
    rw [hmem]
    by_cases hk : k = (f u17).id
    · subst hk
      simp only [if_true, reduceCtorEq, false_iff]
      rintro ⟨⟨h1, h2⟩, h3⟩
      have h4 := (mp (f u17).id u17).2 ⟨hx, rfl⟩
      have h5 := (mp (f u17).id b).2 ⟨h1, h3⟩
      exact h2 (Option.some.inj (h5.symm.trans h4))
    · rw [if_neg hk, mp]
      constructor
      · rintro ⟨h1, rfl⟩; exact ⟨⟨h1, by rintro rfl; exact hk rfl⟩, rfl⟩
      · rintro ⟨⟨h1, _⟩, h2⟩; exact ⟨h1, h2⟩
  · show (l.take (l.length - 1)).length ≤ _
    simp; omega
  · refine (its_split (b := u17) (S' := (· ∈ l.take (l.length - 1))) (by repeat (first | exact Pick.here | apply Pick.there)) hx hmem).trans ?_
    show Leads _ _ [blk u17 _ _, blk p _ [.slice _ (l.take (l.length - 1)).length cp, _], row _ _ _ (.slice _ (l.take (l.length - 1)).length cp) (l.take (l.length - 1)), _, _]
    rw [List.length_take, Nat.min_eq_left (by omega)]
    exact (Leads.has (by repeat' (first | exact Has.nil | exact Pick.here | apply Has.cons | apply Pick.there)))
end Go.Proofs.YtcacohoanlljhaaQ


/-
  container/heap over a pile: up and down.
-/
namespace Go.Proofs.YtcacohoanlljhaaQ
set_option linter.unusedVariables false
set_option linter.unusedSimpArgs false
open Go.RowKit Go.Proofs.YtcacohoanlljhaaK

def ltB (f : Nat → It) (a b : Nat) : Prop := ltI (f a) (f b)
theorem Same.refl (f : Nat → It) : Same f f := fun _ => ⟨rfl, rfl⟩
theorem Same.trans {f g h : Nat → It} (a : Same f g) (b : Same g h) : Same f h := fun k => ⟨(b k).1.trans (a k).1, (b k).2.trans (a k).2⟩
theorem Same.lt {f g : Nat → It} (h : Same f g) : ltB g = ltB f := by
  funext a b; unfold ltB ltI; rw [(h a).1, (h a).2, (h b).1, (h b).2]
theorem lt_asy (f : Nat → It) : ∀ a b, ltB f a b → ¬ ltB f b a := by intro a b; unfold ltB ltI; omega
theorem lt_tr (f : Nat → It) : ∀ a b c, ¬ ltB f b a → ¬ ltB f c b → ¬ ltB f c a := by intro a b c; unfold ltB ltI; omega
theorem lt_ir (f : Nat → It) : ∀ a, ¬ ltB f a a := by intro a; unfold ltB ltI; omega
abbrev pileI (p : Nat) : Value := .iface 112 (ptrV p)
theorem swp_fun {l : List Nat} {i j : Nat} (hi : i < l.length) (hj : j < l.length) : at_ (swp l i j) = sw (at_ l) i j := funext (swp_at hi hj)
theorem half (j : Nat) : ((j : Int) - 1).tdiv 2 = (((j - 1) / 2 : Nat) : Int) := by
  rcases Nat.eq_zero_or_pos j with rfl | h
  · rfl
  · rw [show (j : Int) - 1 = ((j - 1 : Nat) : Int) by omega, Int.tdiv_eq_ediv_of_nonneg (by omega)]; omega

set_option maxRecDepth 100000 in
theorem heap_up {B : Base} {w : World} {p : Nat} {s : Pile} (hS : St B (pileR p s) w) (hok : POk s) (n : Nat) (hn : n ≤ s.l.length) (j : Nat) (hj : j < n) (hup : UpInv (ltB s.f) (at_ s.l) n j) :
    CallsIn Fence.wide 0 Try.prog 103 #[pileI p, .int .i64 (j : Int)] w (Ret B (fun s' => POk s' ∧ s'.l.Perm s.l ∧ Same s.f s'.f ∧ (∀ k, n ≤ k → at_ s'.l k = at_ s.l k) ∧ HeapN (ltB s.f) (at_ s'.l) n) (fun _ => .tuple #[]) (fun s' => pileR p s')) := by
  have hm := hok.sm
  (refine enter Try.func103 rfl rfl hS ?_; simp only [List.zipIdx_cons, List.zipIdx_nil, List.map_cons, List.map_nil, Nat.reduceAdd, Nat.zero_add])
  refine wBlock ?_
  refine wLoop (ι := Pile × Nat) (fun q => [(0, pileI p), (1, .int .i64 (q.2 : Int))]) (fun q => pileR p q.1) (fun q => POk q.1 ∧ q.1.l.Perm s.l ∧ Same s.f q.1.f ∧ (∀ k, n ≤ k → at_ q.1.l k = at_ s.l k) ∧ UpInv (ltB s.f) (at_ q.1.l) n q.2 ∧ q.2 < n) (fun q => q.2) (s, j) ?_ (by repeat (first | exact trivial | refine And.intro rfl ?_)) (Leads.has (by repeat' (first | exact Has.nil | exact Pick.here | apply Has.cons | apply Pick.there))) ?_
  ·
    exact ⟨hok, .refl _, Same.refl _, fun _ _ => rfl, hup, hj⟩
  ·
    rintro ⟨s1, j1⟩ ⟨hok1, hpm, hsm, hout, hup1, hj1⟩
    dsimp only at hok1 hpm hsm hout hup1 hj1
    have hl1 := hpm.length_eq
    have hh := half j1
    try dsimp only
    refine wBlock ?_
    refine wSeq ?_
    refine wRegion' ?_
    refine oMove rfl ?_
    first | refine oSub rfl rfl (by omega) ?_ | refine oSubW rfl rfl ?_
    refine oQuo rfl rfl (by omega) ?_
    refine oSet (t := 7) (v' := .int .i64 (((j1 - 1) / 2 : Nat) : Int)) rfl (by rw [hh]) ?_
    refine oAssign rfl ?_
    refine oNil ?_
    refine thn_n ?_
    refine wSeq ?_
    refine wSeq ?_
    refine wRegion' ?_
    refine oMove rfl ?_
    refine oMove rfl ?_
    refine oEql rfl rfl ?_
    refine oMove rfl ?_
    first | refine oSplit (t := 11) rfl (fun h11 => ?_) (fun h11 => ?_) | refine oSplitB (t := 11) rfl (fun h11 => ?_) (fun h11 => ?_)
    ·
      refine oSkip rfl rfl rfl rfl ?_
      refine oSkip rfl rfl rfl rfl ?_
      refine oSkip rfl rfl rfl rfl ?_
      refine oSkip rfl rfl rfl rfl ?_
      refine oSkip rfl rfl rfl rfl ?_
      refine oPickT rfl rfl ?_
      refine oNil ?_
      refine thn_n ?_
      refine wCondT rfl ?_
      refine wExit ?_
      refine thn_x ?_
      refine blk_y rfl ?_
      refine thn_x ?_
      refine blk_x ?_
      refine fin_n ?_
      refine ⟨rfl, _, ResL.nil, ?_⟩
      exact ⟨s1, ⟨hok1, hpm, hsm, hout, up_end hup1 (.inl (by omega))⟩, rfl, (Leads.has (by repeat' (first | exact Has.nil | exact Pick.here | apply Has.cons | apply Pick.there)))⟩
    ·
      refine oWant rfl rfl ?_
      refine oMove rfl ?_
      refine oWant rfl rfl ?_
      refine oMove rfl ?_
      refine oWant rfl rfl ?_
      refine oMove rfl ?_
      refine oWant rfl rfl ?_
      (refine oInvoke rfl rfl (fun _ => by kernel_rfl) (g := 147) (by kernel_rfl) (fun w hS => frame hS (by repeat' (first | exact Split.nil | exact Pick.here | apply Split.cons | apply Pick.there)) (fun B' hB hS' => pile_Less hS' j1 ((j1 - 1) / 2) (at_ s1.l j1) (at_ s1.l ((j1 - 1) / 2)) (get_at (by omega)) (get_at (by omega)))) ?_; rintro ⟨⟩ -)
      refine oWant rfl rfl ?_
      first | refine oNot rfl ?_ | refine oNotB rfl ?_
      refine oPickF rfl rfl ?_
      refine oNil ?_
      refine thn_n ?_
      first | refine wCond rfl (fun h17 => ?_) (fun h17 => ?_) | refine wCondB rfl (fun h17 => ?_) (fun h17 => ?_)
      ·
        refine wExit ?_
        refine thn_x ?_
        refine blk_y rfl ?_
        refine thn_x ?_
        refine blk_x ?_
        refine fin_n ?_
        refine ⟨rfl, _, ResL.nil, ?_⟩
        exact ⟨s1, ⟨hok1, hpm, hsm, hout, up_end hup1 (.inr (by rw [← hsm.lt]; exact h17))⟩, rfl, (Leads.has (by repeat' (first | exact Has.nil | exact Pick.here | apply Has.cons | apply Pick.there)))⟩
      ·
        have hlt : ltB s1.f (at_ s1.l j1) (at_ s1.l ((j1 - 1) / 2)) := Classical.not_not.1 h17
        refine wSkip ?_
        refine thn_n ?_
        refine wSeq ?_
        refine wRegion' ?_
        refine oMove rfl ?_
        refine oMove rfl ?_
        refine oMove rfl ?_
        (refine oInvoke rfl rfl (fun _ => by kernel_rfl) (g := 150) (by kernel_rfl) (fun w hS => frame hS (by repeat' (first | exact Split.nil | exact Pick.here | apply Split.cons | apply Pick.there)) (fun B' hB hS' => pile_Swap hS' hok1 ((j1 - 1) / 2) j1 (by omega) (by omega))) ?_; rintro s2 ⟨hok2, hl2, hsm2⟩)
        refine oNil ?_
        refine thn_n ?_
        refine wRegion' ?_
        refine oMove rfl ?_
        refine oAssign rfl ?_
        refine oNil ?_
        refine blk_n ?_
        refine thn_n ?_
        exact ⟨rfl, (s2, (j1 - 1) / 2), ⟨hok2, by rw [hl2]; exact (swp_perm (by omega) (by omega)).trans hpm, hsm.trans hsm2, fun k hk => by rw [hl2, swp_at (by omega) (by omega), sw, if_neg (by omega), if_neg (by omega)]; exact hout k hk, by rw [hl2, swp_fun (by omega) (by omega)]; exact up_step (lt_asy _) (lt_tr _) hup1 (by omega) hj1 (hsm.lt ▸ hlt), by show (j1 - 1) / 2 < _; omega⟩, by show (j1 - 1) / 2 < j1; omega, (by repeat (first | exact trivial | refine And.intro rfl ?_)), (Leads.has (by repeat' (first | exact Has.nil | exact Pick.here | apply Has.cons | apply Pick.there)))⟩
theorem kids {i k : Nat} (h0 : 0 < k) (h : (k - 1) / 2 = i) : k = 2 * i + 1 ∨ k = 2 * i + 2 := by omega
set_option maxRecDepth 100000 in
theorem heap_down {B : Base} {w : World} {p : Nat} {s : Pile} (hS : St B (pileR p s) w) (hok : POk s) (i n : Nat) (hn : n ≤ s.l.length) (hi : i ≤ n) (hd : DownInv (ltB s.f) (at_ s.l) n i i) :
    CallsIn Fence.wide 0 Try.prog 105 #[pileI p, .int .i64 (i : Int), .int .i64 (n : Int)] w
      (Ret B (fun q : Pile × Nat => POk q.1 ∧ q.1.l.Perm s.l ∧ Same s.f q.1.f ∧ (∀ k, n ≤ k → at_ q.1.l k = at_ s.l k) ∧ i ≤ q.2 ∧ (i < q.2 ∨ q.2 = 0 → HeapN (ltB s.f) (at_ q.1.l) n) ∧ UpInv (ltB s.f) (at_ q.1.l) n q.2)
        (fun q => .bool (decide ((i : Int) < q.2))) (fun q => pileR p q.1)) := by
  have hm := hok.sm
  (refine enter Try.func105 rfl rfl hS ?_; simp only [List.zipIdx_cons, List.zipIdx_nil, List.map_cons, List.map_nil, Nat.reduceAdd, Nat.zero_add])
  refine wSeq ?_
  refine wRegion' ?_
  refine oAssign rfl ?_
  refine oNil ?_
  refine thn_n ?_
  refine wSeq ?_
  refine wRegion' ?_
  refine oMove rfl ?_
  refine oAssign rfl ?_
  refine oNil ?_
  refine thn_n ?_
  refine wSeq ?_
  refine wBlock ?_
  refine wLoop (ι := Pile × Nat) (fun q => [(0, pileI p), (1, .int .i64 (i : Int)), (2, .int .i64 (n : Int)), (7, .int .i64 (q.2 : Int))]) (fun q => pileR p q.1) (fun q => POk q.1 ∧ q.1.l.Perm s.l ∧ Same s.f q.1.f ∧ (∀ k, n ≤ k → at_ q.1.l k = at_ s.l k) ∧ DownInv (ltB s.f) (at_ q.1.l) n q.2 i ∧ q.2 ≤ n) (fun q => n - q.2) (s, i) ?_ (by repeat (first | exact trivial | refine And.intro rfl ?_)) (Leads.has (by repeat' (first | exact Has.nil | exact Pick.here | apply Has.cons | apply Pick.there))) ?_
  ·
    exact ⟨hok, .refl _, Same.refl _, fun _ _ => rfl, hd, hi⟩
  ·
    rintro ⟨s1, i1⟩ ⟨hok1, hpm, hsm, hout, hd1, hi1⟩
    dsimp only at hok1 hpm hsm hout hd1 hi1
    have hl1 := hpm.length_eq
    try dsimp only
    refine wBlock ?_
    refine wSeq ?_
    refine wRegion' ?_
    refine oMove rfl ?_
    first | refine oMul rfl rfl (by omega) ?_ | refine oMulW rfl rfl ?_
    first | refine oAdd rfl rfl (by omega) ?_ | refine oAddW rfl rfl ?_
    refine oSet (t := 14) (v' := .int .i64 ((2 * i1 + 1 : Nat) : Int)) rfl (by simp) ?_
    refine oAssign rfl ?_
    refine oNil ?_
    refine thn_n ?_
    refine wSeq ?_
    refine wSeq ?_
    refine wRegion' ?_
    refine oMove rfl ?_
    refine oMove rfl ?_
    refine oGeq rfl rfl ?_
    refine oMove rfl ?_
    first | refine oSplit (t := 18) rfl (fun h18 => ?_) (fun h18 => ?_) | refine oSplitB (t := 18) rfl (fun h18 => ?_) (fun h18 => ?_)
    ·
      refine oSkip rfl rfl rfl rfl ?_
      refine oSkip rfl rfl rfl rfl ?_
      refine oPickT rfl rfl ?_
      refine oNil ?_
      refine thn_n ?_
      refine wCondT rfl ?_
      refine wExit ?_
      refine thn_x ?_
      refine blk_y rfl ?_
      refine thn_x ?_
      refine blk_x ?_
      refine thn_n ?_
      refine wSeq ?_
      refine wRegion' ?_
      refine oMove rfl ?_
      refine oMove rfl ?_
      refine oGtr rfl rfl ?_
      refine oAssign rfl ?_
      refine oNil ?_
      refine thn_n ?_
      refine wRet ?_
      refine fin_r ?_
      refine ⟨rfl, _, (ResL.cons (ResR.tmp rfl) ResL.nil), ?_⟩
      exact ⟨(s1, i1), ⟨hok1, hpm, hsm, hout, hd1.2.2.2, down_end hd1 (fun k k0 kn kp => by omega)⟩, rfl, (Leads.has (by repeat' (first | exact Has.nil | exact Pick.here | apply Has.cons | apply Pick.there)))⟩
    ·
      refine oWant rfl rfl ?_
      refine oMove rfl ?_
      refine oWant rfl rfl ?_
      refine oLss rfl rfl ?_
      refine oPickF rfl rfl ?_
      refine oNil ?_
      refine thn_n ?_
      first | refine wCond rfl (fun h21 => ?_) (fun h21 => ?_) | refine wCondB rfl (fun h21 => ?_) (fun h21 => ?_)
      ·
        omega
      ·
        refine wSkip ?_
        refine thn_n ?_
        refine wSeq ?_
        refine wRegion' ?_
        refine oMove rfl ?_
        refine oAssign rfl ?_
        refine oNil ?_
        refine thn_n ?_
        refine wSeq ?_
        refine wSeq ?_
        refine wRegion' ?_
        refine oMove rfl ?_
        first | refine oAdd rfl rfl (by omega) ?_ | refine oAddW rfl rfl ?_
        refine oSet (t := 24) (v' := .int .i64 ((2 * i1 + 2 : Nat) : Int)) rfl (by simp; try omega) ?_
        refine oAssign rfl ?_
        refine oNil ?_
        refine thn_n ?_
        refine wSeq ?_
        refine wRegion' ?_
        refine oMove rfl ?_
        refine oMove rfl ?_
        refine oLss rfl rfl ?_
        refine oMove rfl ?_
        first | refine oSplit (t := 28) rfl (fun h28 => ?_) (fun h28 => ?_) | refine oSplitB (t := 28) rfl (fun h28 => ?_) (fun h28 => ?_)
        ·
          refine oWant rfl rfl ?_
          refine oMove rfl ?_
          refine oWant rfl rfl ?_
          refine oMove rfl ?_
          refine oWant rfl rfl ?_
          refine oMove rfl ?_
          refine oWant rfl rfl ?_
          (refine oInvoke rfl rfl (fun _ => by kernel_rfl) (g := 147) (by kernel_rfl) (fun w hS => frame hS (by repeat' (first | exact Split.nil | exact Pick.here | apply Split.cons | apply Pick.there)) (fun B' hB hS' => pile_Less hS' _ _ (at_ s1.l _) (at_ s1.l _) (get_at (by omega)) (get_at (by omega)))) ?_; rintro ⟨⟩ -)
          refine oPickT rfl rfl ?_
          refine oNil ?_
          refine thn_n ?_
          first | refine wCond rfl (fun h33 => ?_) (fun h33 => ?_) | refine wCondB rfl (fun h33 => ?_) (fun h33 => ?_)
          ·
            have hs : ∀ k, 0 < k → k < n → (k - 1) / 2 = i1 → ¬ ltB s.f (at_ s1.l k) (at_ s1.l (2 * i1 + 2)) := fun k k0 kn kp => by
              rw [← hsm.lt]
              rcases kids k0 kp with rfl | rfl
              · exact lt_asy _ _ _ h33
              · exact lt_ir _ _
            refine wRegion' ?_
            refine oMove rfl ?_
            refine oAssign rfl ?_
            refine oNil ?_
            refine thn_n ?_
            refine wSeq ?_
            refine wSeq ?_
            refine wRegion' ?_
            refine oMove rfl ?_
            refine oMove rfl ?_
            refine oMove rfl ?_
            (refine oInvoke rfl rfl (fun _ => by kernel_rfl) (g := 147) (by kernel_rfl) (fun w hS => frame hS (by repeat' (first | exact Split.nil | exact Pick.here | apply Split.cons | apply Pick.there)) (fun B' hB hS' => pile_Less hS' _ i1 (at_ s1.l _) (at_ s1.l i1) (get_at (by omega)) (get_at (by omega)))) ?_; rintro ⟨⟩ -)
            first | refine oNot rfl ?_ | refine oNotB rfl ?_
            refine oNil ?_
            refine thn_n ?_
            first | refine wCond rfl (fun h39 => ?_) (fun h39 => ?_) | refine wCondB rfl (fun h39 => ?_) (fun h39 => ?_)
            ·
              refine wExit ?_
              refine thn_x ?_
              refine blk_y rfl ?_
              refine thn_x ?_
              refine blk_x ?_
              refine thn_n ?_
              refine wSeq ?_
              refine wRegion' ?_
              refine oMove rfl ?_
              refine oMove rfl ?_
              refine oGtr rfl rfl ?_
              refine oAssign rfl ?_
              refine oNil ?_
              refine thn_n ?_
              refine wRet ?_
              refine fin_r ?_
              refine ⟨rfl, _, (ResL.cons (ResR.tmp rfl) ResL.nil), ?_⟩
              exact ⟨(s1, i1), ⟨hok1, hpm, hsm, hout, hd1.2.2.2, down_end hd1 (fun k k0 kn kp => lt_tr _ _ _ _ (by rw [← hsm.lt]; exact h39) (hs k k0 kn kp))⟩, rfl, (Leads.has (by repeat' (first | exact Has.nil | exact Pick.here | apply Has.cons | apply Pick.there)))⟩
            ·
              refine wSkip ?_
              refine thn_n ?_
              refine wSeq ?_
              refine wRegion' ?_
              refine oMove rfl ?_
              refine oMove rfl ?_
              refine oMove rfl ?_
              (refine oInvoke rfl rfl (fun _ => by kernel_rfl) (g := 150) (by kernel_rfl) (fun w hS => frame hS (by repeat' (first | exact Split.nil | exact Pick.here | apply Split.cons | apply Pick.there)) (fun B' hB hS' => pile_Swap hS' hok1 i1 _ (by omega) (by omega))) ?_; rintro s2 ⟨hok2, hl2, hsm2⟩)
              refine oNil ?_
              refine thn_n ?_
              refine wRegion' ?_
              refine oMove rfl ?_
              refine oAssign rfl ?_
              refine oNil ?_
              refine blk_n ?_
              refine thn_n ?_
              exact ⟨rfl, (s2, _), ⟨hok2, by rw [hl2]; exact (swp_perm (by omega) (by omega)).trans hpm, hsm.trans hsm2, fun k hk => by rw [hl2, swp_at (by omega) (by omega), sw, if_neg (by omega), if_neg (by omega)]; exact hout k hk, by rw [hl2, swp_fun (by omega) (by omega)]; exact down_step (lt_asy _) hd1 (by omega) (by omega) (by omega) hs (by rw [← hsm.lt]; exact Classical.not_not.1 h39), by show _ ≤ n; omega⟩, by show n - _ < n - i1; omega, (by repeat (first | exact trivial | refine And.intro rfl ?_)), (Leads.has (by repeat' (first | exact Has.nil | exact Pick.here | apply Has.cons | apply Pick.there)))⟩
          ·
            have hs : ∀ k, 0 < k → k < n → (k - 1) / 2 = i1 → ¬ ltB s.f (at_ s1.l k) (at_ s1.l (2 * i1 + 1)) := fun k k0 kn kp => by
              rw [← hsm.lt]
              rcases kids k0 kp with rfl | rfl
              · exact lt_ir _ _
              · exact h33
            refine wSkip ?_
            refine thn_n ?_
            refine wSeq ?_
            refine wSeq ?_
            refine wRegion' ?_
            refine oMove rfl ?_
            refine oMove rfl ?_
            refine oMove rfl ?_
            (refine oInvoke rfl rfl (fun _ => by kernel_rfl) (g := 147) (by kernel_rfl) (fun w hS => frame hS (by repeat' (first | exact Split.nil | exact Pick.here | apply Split.cons | apply Pick.there)) (fun B' hB hS' => pile_Less hS' _ i1 (at_ s1.l _) (at_ s1.l i1) (get_at (by omega)) (get_at (by omega)))) ?_; rintro ⟨⟩ -)
            first | refine oNot rfl ?_ | refine oNotB rfl ?_
            refine oNil ?_
            refine thn_n ?_
            first | refine wCond rfl (fun h39 => ?_) (fun h39 => ?_) | refine wCondB rfl (fun h39 => ?_) (fun h39 => ?_)
            ·
              refine wExit ?_
              refine thn_x ?_
              refine blk_y rfl ?_
              refine thn_x ?_
              refine blk_x ?_
              refine thn_n ?_
              refine wSeq ?_
              refine wRegion' ?_
              refine oMove rfl ?_
              refine oMove rfl ?_
              refine oGtr rfl rfl ?_
              refine oAssign rfl ?_
              refine oNil ?_
              refine thn_n ?_
              refine wRet ?_
              refine fin_r ?_
              refine ⟨rfl, _, (ResL.cons (ResR.tmp rfl) ResL.nil), ?_⟩
              exact ⟨(s1, i1), ⟨hok1, hpm, hsm, hout, hd1.2.2.2, down_end hd1 (fun k k0 kn kp => lt_tr _ _ _ _ (by rw [← hsm.lt]; exact h39) (hs k k0 kn kp))⟩, rfl, (Leads.has (by repeat' (first | exact Has.nil | exact Pick.here | apply Has.cons | apply Pick.there)))⟩
            ·
              refine wSkip ?_
              refine thn_n ?_
              refine wSeq ?_
              refine wRegion' ?_
              refine oMove rfl ?_
              refine oMove rfl ?_
              refine oMove rfl ?_
              (refine oInvoke rfl rfl (fun _ => by kernel_rfl) (g := 150) (by kernel_rfl) (fun w hS => frame hS (by repeat' (first | exact Split.nil | exact Pick.here | apply Split.cons | apply Pick.there)) (fun B' hB hS' => pile_Swap hS' hok1 i1 _ (by omega) (by omega))) ?_; rintro s2 ⟨hok2, hl2, hsm2⟩)
              refine oNil ?_
              refine thn_n ?_
              refine wRegion' ?_
              refine oMove rfl ?_
              refine oAssign rfl ?_
              refine oNil ?_
              refine blk_n ?_
              refine thn_n ?_
              exact ⟨rfl, (s2, _), ⟨hok2, by rw [hl2]; exact (swp_perm (by omega) (by omega)).trans hpm, hsm.trans hsm2, fun k hk => by rw [hl2, swp_at (by omega) (by omega), sw, if_neg (by omega), if_neg (by omega)]; exact hout k hk, by rw [hl2, swp_fun (by omega) (by omega)]; exact down_step (lt_asy _) hd1 (by omega) (by omega) (by omega) hs (by rw [← hsm.lt]; exact Classical.not_not.1 h39), by show _ ≤ n; omega⟩, by show n - _ < n - i1; omega, (by repeat (first | exact trivial | refine And.intro rfl ?_)), (Leads.has (by repeat' (first | exact Has.nil | exact Pick.here | apply Has.cons | apply Pick.there)))⟩
        ·
          have hs : ∀ k, 0 < k → k < n → (k - 1) / 2 = i1 → ¬ ltB s.f (at_ s1.l k) (at_ s1.l (2 * i1 + 1)) := fun k k0 kn kp => by
            rcases kids k0 kp with rfl | rfl
            · exact lt_ir _ _
            · omega
          refine oSkip rfl rfl rfl rfl ?_
          refine oSkip rfl rfl rfl rfl ?_
          refine oSkip rfl rfl rfl rfl ?_
          refine oSkip rfl rfl rfl rfl ?_
          refine oPickF rfl rfl ?_
          refine oNil ?_
          refine thn_n ?_
          refine wCondF rfl ?_
          refine wSkip ?_
          refine thn_n ?_
          refine wSeq ?_
          refine wSeq ?_
          refine wRegion' ?_
          refine oMove rfl ?_
          refine oMove rfl ?_
          refine oMove rfl ?_
          (refine oInvoke rfl rfl (fun _ => by kernel_rfl) (g := 147) (by kernel_rfl) (fun w hS => frame hS (by repeat' (first | exact Split.nil | exact Pick.here | apply Split.cons | apply Pick.there)) (fun B' hB hS' => pile_Less hS' _ i1 (at_ s1.l _) (at_ s1.l i1) (get_at (by omega)) (get_at (by omega)))) ?_; rintro ⟨⟩ -)
          first | refine oNot rfl ?_ | refine oNotB rfl ?_
          refine oNil ?_
          refine thn_n ?_
          first | refine wCond rfl (fun h39 => ?_) (fun h39 => ?_) | refine wCondB rfl (fun h39 => ?_) (fun h39 => ?_)
          ·
            refine wExit ?_
            refine thn_x ?_
            refine blk_y rfl ?_
            refine thn_x ?_
            refine blk_x ?_
            refine thn_n ?_
            refine wSeq ?_
            refine wRegion' ?_
            refine oMove rfl ?_
            refine oMove rfl ?_
            refine oGtr rfl rfl ?_
            refine oAssign rfl ?_
            refine oNil ?_
            refine thn_n ?_
            refine wRet ?_
            refine fin_r ?_
            refine ⟨rfl, _, (ResL.cons (ResR.tmp rfl) ResL.nil), ?_⟩
            exact ⟨(s1, i1), ⟨hok1, hpm, hsm, hout, hd1.2.2.2, down_end hd1 (fun k k0 kn kp => lt_tr _ _ _ _ (by rw [← hsm.lt]; exact h39) (hs k k0 kn kp))⟩, rfl, (Leads.has (by repeat' (first | exact Has.nil | exact Pick.here | apply Has.cons | apply Pick.there)))⟩
          ·
            refine wSkip ?_
            refine thn_n ?_
            refine wSeq ?_
            refine wRegion' ?_
            refine oMove rfl ?_
            refine oMove rfl ?_
            refine oMove rfl ?_
            (refine oInvoke rfl rfl (fun _ => by kernel_rfl) (g := 150) (by kernel_rfl) (fun w hS => frame hS (by repeat' (first | exact Split.nil | exact Pick.here | apply Split.cons | apply Pick.there)) (fun B' hB hS' => pile_Swap hS' hok1 i1 _ (by omega) (by omega))) ?_; rintro s2 ⟨hok2, hl2, hsm2⟩)
            refine oNil ?_
            refine thn_n ?_
            refine wRegion' ?_
            refine oMove rfl ?_
            refine oAssign rfl ?_
            refine oNil ?_
            refine blk_n ?_
            refine thn_n ?_
            exact ⟨rfl, (s2, _), ⟨hok2, by rw [hl2]; exact (swp_perm (by omega) (by omega)).trans hpm, hsm.trans hsm2, fun k hk => by rw [hl2, swp_at (by omega) (by omega), sw, if_neg (by omega), if_neg (by omega)]; exact hout k hk, by rw [hl2, swp_fun (by omega) (by omega)]; exact down_step (lt_asy _) hd1 (by omega) (by omega) (by omega) hs (by rw [← hsm.lt]; exact Classical.not_not.1 h39), by show _ ≤ n; omega⟩, by show n - _ < n - i1; omega, (by repeat (first | exact trivial | refine And.intro rfl ?_)), (Leads.has (by repeat' (first | exact Has.nil | exact Pick.here | apply Has.cons | apply Pick.there)))⟩
end Go.Proofs.YtcacohoanlljhaaQ


/-
  container/heap over a pile: Push, Pop, Remove.
-/
namespace Go.Proofs.YtcacohoanlljhaaQ
set_option linter.unusedVariables false
set_option linter.unusedSimpArgs false
open Go.RowKit Go.Proofs.YtcacohoanlljhaaK

/-- What a pile holds: ids and keys. -/
def vw (s : Pile) : List (Int × Int) := s.l.map fun b => ((s.f b).id, (s.f b).key)
theorem vw_perm {s t : Pile} (h : t.l.Perm s.l) (hf : Same s.f t.f) : (vw t).Perm (vw s) := by
  unfold vw
  have : t.l.map (fun b => ((t.f b).id, (t.f b).key)) = t.l.map (fun b => ((s.f b).id, (s.f b).key)) := List.map_congr_left (fun b _ => by rw [(hf b).1, (hf b).2])
  rw [this]; exact h.map _
def Heap (s : Pile) : Prop := HeapN (ltB s.f) (at_ s.l) s.l.length
theorem at_app {l : List Nat} {k b : Nat} : at_ (l ++ [b]) k = if k < l.length then at_ l k else if k = l.length then b else 0 := by
  unfold at_
  simp only [List.getD_eq_getElem?_getD, List.getElem?_append]
  by_cases h : k < l.length
  · simp [h]
  · by_cases e : k = l.length
    · simp [h, e]
    · simp [h, e, show k - l.length ≠ 0 by omega]
theorem at_mem {l : List Nat} {k : Nat} (h : k < l.length) : at_ l k ∈ l := List.mem_of_getElem? (get_at h)
theorem push_up {s s' : Pile} {nb : Nat} {x : It} (h : Heap s) (hl : s'.l = s.l ++ [nb]) (hf : s'.f = pushF s.f nb x) (hok : POk s') : UpInv (ltB s'.f) (at_ s'.l) s'.l.length s.l.length := by
  have hnb : nb ∉ s.l := by
    have := hok.nd
    rw [hl] at this
    intro hm
    exact (List.nodup_append.1 this).2.2 nb hm nb (by simp) rfl
  have hlen : s'.l.length = s.l.length + 1 := by rw [hl]; simp
  have key : ∀ k, k < s.l.length → at_ s'.l k = at_ s.l k ∧ s'.f (at_ s.l k) = s.f (at_ s.l k) := fun k hk => ⟨by rw [hl, at_app, if_pos hk], by
    rw [hf]; unfold pushF
    rw [if_neg (by rintro e; exact hnb (e ▸ at_mem hk))]⟩
  refine ⟨fun k k0 kn kj => ?_, fun k k0 kn kp _ => by omega⟩
  have h1 := h k k0 (by omega)
  unfold ltB at h1 ⊢
  rw [(key k (by omega)).1, (key ((k - 1) / 2) (by omega)).1, (key k (by omega)).2, (key ((k - 1) / 2) (by omega)).2]
  exact h1
theorem push_vw {s s' : Pile} {nb : Nat} {x : It} (hl : s'.l = s.l ++ [nb]) (hf : s'.f = pushF s.f nb x) (hok : POk s') : vw s' = vw s ++ [(x.id, x.key)] := by
  have hnb : nb ∉ s.l := by
    have := hok.nd
    rw [hl] at this
    intro hm
    exact (List.nodup_append.1 this).2.2 nb hm nb (by simp) rfl
  unfold vw
  rw [hl, hf, List.map_append]
  congr 1
  · exact List.map_congr_left (fun b hb => by unfold pushF; rw [if_neg (by rintro rfl; exact hnb hb)])
  · simp [pushF]

set_option maxRecDepth 100000 in
theorem heap_Push {B : Base} {w : World} {p nb : Nat} {s : Pile} {x : It} (hS : St B (pileR p s ++ [blk nb 122 (itCells x)]) w) (hok : POk s) (hh : Heap s) (hid : s.m x.id = none) (hl : s.l.length < 1000000) :
    CallsIn Fence.wide 0 Try.prog 82 #[pileI p, .iface 119 (ptrV nb)] w (Ret B (fun s' => POk s' ∧ (vw s').Perm (vw s ++ [(x.id, x.key)]) ∧ Heap s') (fun _ => .tuple #[]) (fun s' => pileR p s')) := by
  (refine enter Try.func82 rfl rfl hS ?_; simp only [List.zipIdx_cons, List.zipIdx_nil, List.map_cons, List.map_nil, Nat.reduceAdd, Nat.zero_add])
  refine wSeq ?_
  refine wRegion' ?_
  refine oMove rfl ?_
  refine oMove rfl ?_
  (refine oInvoke rfl rfl (fun _ => by kernel_rfl) (g := 149) (by kernel_rfl) (fun w hS => frame hS (by repeat' (first | exact Split.nil | exact Pick.here | apply Split.cons | apply Pick.there)) (fun B' hB hS' => pile_Push hS' hok hid hl)) ?_; rintro s1 ⟨hok1, hl1, hf1⟩)
  have hv1 := push_vw hl1 hf1 hok1
  have hu1 := push_up hh hl1 hf1 hok1
  have hn1 : s1.l.length = s.l.length + 1 := by rw [hl1]; simp
  have hm1 := hok1.sm
  refine oNil ?_
  refine thn_n ?_
  refine wRegion' ?_
  refine oMove rfl ?_
  refine oMove rfl ?_
  (refine oInvoke rfl rfl (fun _ => by kernel_rfl) (g := 104) (by kernel_rfl) (fun w hS => frame hS (by repeat' (first | exact Split.nil | exact Pick.here | apply Split.cons | apply Pick.there)) (fun B' hB hS' => pile_Len hS')) ?_; rintro ⟨⟩ -)
  first | refine oSub rfl rfl (by omega) ?_ | refine oSubW rfl rfl ?_
  refine oSet (t := 10) (v' := .int .i64 ((s.l.length : Nat) : Int)) rfl (by rw [hn1]; simp) ?_
  (refine oCall rfl (by kernel_rfl) (fun w hS => frame hS (by repeat' (first | exact Split.nil | exact Pick.here | apply Split.cons | apply Pick.there)) (fun B' hB hS' => heap_up hS' hok1 _ (Nat.le_refl _) s.l.length (by omega) hu1)) ?_; rintro s2 ⟨hok2, hp2, hs2, _, hh2⟩)
  refine oNil ?_
  refine fin_n ?_
  refine ⟨rfl, _, ResL.nil, ?_⟩
  exact ⟨s2, ⟨hok2, hv1 ▸ vw_perm hp2 hs2, by unfold Heap; rw [hs2.lt, hp2.length_eq]; exact hh2⟩, rfl, (Leads.has (by repeat' (first | exact Has.nil | exact Pick.here | apply Has.cons | apply Pick.there)))⟩

theorem pop_vw {s s' : Pile} (hl : s.l ≠ []) (hl' : s'.l = s.l.take (s.l.length - 1)) (hf : s'.f = s.f) : vw s = vw s' ++ [((s.f (at_ s.l (s.l.length - 1))).id, (s.f (at_ s.l (s.l.length - 1))).key)] := by
  have h0 := List.length_pos_iff.2 hl
  have : s.l = s.l.take (s.l.length - 1) ++ [at_ s.l (s.l.length - 1)] := by
    have h1 := List.take_append_drop (s.l.length - 1) s.l
    have h2 : s.l.drop (s.l.length - 1) = [at_ s.l (s.l.length - 1)] := by
      rw [List.drop_eq_getElem_cons (by omega), List.drop_of_length_le (by omega)]
      have := last_of hl
      rw [List.getElem?_eq_getElem (by omega)] at this
      rw [Option.some.inj this]
    rw [h2] at h1; exact h1.symm
  unfold vw
  rw [hl', hf]
  conv => lhs; rw [this]
  rw [List.map_append]; rfl
theorem pop_heap {s s' : Pile} {g : Nat → It} (hs : Same g s.f) (hl' : s'.l = s.l.take (s.l.length - 1)) (hf : s'.f = s.f) (h : HeapN (ltB g) (at_ s.l) (s.l.length - 1)) : Heap s' := by
  unfold Heap
  rw [hf, hs.lt, hl', List.length_take, Nat.min_eq_left (by omega)]
  exact heap_congr h (fun k hk => by unfold at_; rw [List.getD_eq_getElem?_getD, List.getElem?_take, if_pos hk, List.getD_eq_getElem?_getD])

set_option maxRecDepth 100000 in
theorem heap_Pop {B : Base} {w : World} {p : Nat} {s : Pile} (hS : St B (pileR p s) w) (hok : POk s) (hh : Heap s) (hl : s.l ≠ []) :
    CallsIn Fence.wide 0 Try.prog 84 #[pileI p] w (Ret B (fun q : Pile × Nat × It => POk q.1 ∧ Heap q.1 ∧ (vw s).Perm ((q.2.2.id, q.2.2.key) :: vw q.1) ∧ (∀ k, k < s.l.length → ¬ ltI (s.f (at_ s.l k)) q.2.2))
      (fun q => .iface 119 (ptrV q.2.1)) (fun q => blk q.2.1 122 (itCells q.2.2) :: pileR p q.1)) := by
  have hm := hok.sm
  have h0 := List.length_pos_iff.2 hl
  (refine enter Try.func84 rfl rfl hS ?_; simp only [List.zipIdx_cons, List.zipIdx_nil, List.map_cons, List.map_nil, Nat.reduceAdd, Nat.zero_add])
  refine wSeq ?_
  refine wRegion' ?_
  refine oAssign rfl ?_
  refine oNil ?_
  refine thn_n ?_
  refine wSeq ?_
  refine wRegion' ?_
  refine oMove rfl ?_
  (refine oInvoke rfl rfl (fun _ => by kernel_rfl) (g := 104) (by kernel_rfl) (fun w hS => frame hS (by repeat' (first | exact Split.nil | exact Pick.here | apply Split.cons | apply Pick.there)) (fun B' hB hS' => pile_Len hS')) ?_; rintro ⟨⟩ -)
  first | refine oSub rfl rfl (by omega) ?_ | refine oSubW rfl rfl ?_
  refine oSet (t := 6) (v' := .int .i64 ((s.l.length - 1 : Nat) : Int)) rfl (by congr 1; omega) ?_
  refine oAssign rfl ?_
  refine oNil ?_
  refine thn_n ?_
  refine wSeq ?_
  refine wRegion' ?_
  refine oMove rfl ?_
  refine oMove rfl ?_
  (refine oInvoke rfl rfl (fun _ => by kernel_rfl) (g := 150) (by kernel_rfl) (fun w hS => frame hS (by repeat' (first | exact Split.nil | exact Pick.here | apply Split.cons | apply Pick.there)) (fun B' hB hS' => pile_Swap hS' hok 0 (s.l.length - 1) h0 (by omega))) ?_; rintro s1 ⟨hok1, hl1, hs1⟩)
  have hn1 : s1.l.length = s.l.length := by rw [hl1, swp_length]
  have hd1 : DownInv (ltB s1.f) (at_ s1.l) (s.l.length - 1) 0 0 := by
    rw [hs1.lt]
    refine heap_at (lt_tr _) hh (by omega) h0 (fun k kn k0 => ?_)
    rw [hl1, swp_at h0 (by omega), sw, if_neg k0, if_neg (by omega)]
  refine oNil ?_
  refine thn_n ?_
  refine wSeq ?_
  refine wRegion' ?_
  refine oMove rfl ?_
  refine oMove rfl ?_
  (refine oCall rfl (by kernel_rfl) (fun w hS => frame hS (by repeat' (first | exact Split.nil | exact Pick.here | apply Split.cons | apply Pick.there)) (fun B' hB hS' => heap_down hS' hok1 0 (s.l.length - 1) (by omega) (by omega) hd1)) ?_; rintro ⟨s2, i2⟩ ⟨hok2, hp2, hs2, ho2, _, hh2, _⟩)
  dsimp only at hok2 hp2 hs2 ho2 hh2
  have hn2 : s2.l.length = s.l.length := by rw [hp2.length_eq, hn1]
  have hne2 : s2.l ≠ [] := by intro e; rw [e] at hn2; simp at hn2; omega
  have hx2 : at_ s2.l (s2.l.length - 1) = at_ s.l 0 := by
    rw [hn2, ho2 _ (Nat.le_refl _), hl1, swp_at h0 (by omega), sw]
    by_cases e : s.l.length - 1 = 0
    · rw [if_pos e, e]
    · rw [if_neg e, if_pos rfl]
  refine oNil ?_
  refine thn_n ?_
  refine wSeq ?_
  refine wRegion' ?_
  refine oMove rfl ?_
  (refine oInvoke rfl rfl (fun _ => by kernel_rfl) (g := 148) (by kernel_rfl) (fun w hS => frame hS (by repeat' (first | exact Split.nil | exact Pick.here | apply Split.cons | apply Pick.there)) (fun B' hB hS' => pile_Pop hS' hok2 hne2)) ?_; rintro s3 ⟨hok3, hl3, hf3⟩)
  refine oAssign rfl ?_
  refine oNil ?_
  refine thn_n ?_
  refine wRet ?_
  refine fin_r ?_
  refine ⟨rfl, _, (ResL.cons (ResR.tmp rfl) ResL.nil), ?_⟩
  refine ⟨(s3, _, s2.f (at_ s2.l (s2.l.length - 1))), ⟨hok3, pop_heap (hs2) hl3 hf3 (by rw [hn2]; exact hh2 (by omega)), ?_, fun k hk => ?_⟩, rfl, (Leads.has (by repeat' (first | exact Has.nil | exact Pick.here | apply Has.cons | apply Pick.there)))⟩
  · have e1 := pop_vw hne2 hl3 hf3
    have e2 := vw_perm hp2 hs2
    have e3 : (vw s1).Perm (vw s) := vw_perm (hl1 ▸ swp_perm h0 (by omega)) hs1
    exact (e3.symm.trans (e2.symm.trans (e1 ▸ List.perm_append_singleton _ _)))
  · have h4 := heap_least (lt_tr _) (lt_ir _) hh k hk
    unfold ltB at h4
    rw [hx2]
    have e5 := (hs1.trans hs2) (at_ s.l 0)
    unfold ltI at h4 ⊢
    rw [e5.1, e5.2]; exact h4

end Go.Proofs.YtcacohoanlljhaaQ


/-
  Package queue: queues, as sorted lists of ids and keys.
-/
namespace Go.Proofs.YtcacohoanlljhaaQ
set_option linter.unusedVariables false
set_option linter.unusedSimpArgs false
open Go.RowKit Go.Proofs.YtcacohoanlljhaaK

def lt2 (a b : Int × Int) : Prop := a.2 < b.2 ∨ a.2 = b.2 ∧ a.1 < b.1
instance (a b : Int × Int) : Decidable (lt2 a b) := by unfold lt2; infer_instance
def Sorted (W : List (Int × Int)) : Prop := W.Pairwise lt2
structure QOk (s : Pile) (W : List (Int × Int)) : Prop where
  ok : POk s
  heap : Heap s
  perm : (vw s).Perm W
  sorted : Sorted W
def queueR (q p : Nat) (s : Pile) : List Res := blk q 118 [ptrV p] :: pileR p s
def qhas (W : List (Int × Int)) (id : Int) : Bool := W.any fun x => x.1 == id
def qkey (W : List (Int × Int)) (id : Int) : Int := ((W.find? fun x => x.1 == id).map (·.2)).getD 0
def qins (x : Int × Int) : List (Int × Int) → List (Int × Int)
  | [] => [x]
  | y :: W => if lt2 x y then x :: y :: W else y :: qins x W
def qdel (W : List (Int × Int)) (id : Int) : List (Int × Int) := W.filter fun x => x.1 != id
def hd1 : List (Int × Int) → Int
  | [] => 0
  | x :: _ => x.1
def hd2 : List (Int × Int) → Int
  | [] => 0
  | x :: _ => x.2
def hd3 : List (Int × Int) → Bool
  | [] => false
  | _ :: _ => true
theorem qins_perm (x : Int × Int) (W : List (Int × Int)) : (qins x W).Perm (x :: W) := by
  induction W with
  | nil => exact .refl _
  | cons y W ih =>
    simp only [qins]
    split
    · exact .refl _
    · exact (ih.cons y).trans (.swap _ _ _)
theorem lt2_tr {a b c : Int × Int} (h : lt2 a b) (k : lt2 b c) : lt2 a c := by unfold lt2 at *; omega
theorem qins_sorted {x : Int × Int} {W : List (Int × Int)} (h : Sorted W) (hx : ∀ y ∈ W, y.1 ≠ x.1) : Sorted (qins x W) := by
  induction W with
  | nil => exact List.pairwise_singleton _ _
  | cons y W ih =>
    unfold Sorted at h
    rw [List.pairwise_cons] at h
    simp only [qins]
    split
    · rename_i hl
      refine List.pairwise_cons.2 ⟨fun z hz => ?_, List.pairwise_cons.2 h⟩
      rcases List.mem_cons.1 hz with rfl | hz
      · exact hl
      · exact lt2_tr hl (h.1 z hz)
    · rename_i hl
      refine List.pairwise_cons.2 ⟨fun z hz => ?_, ih h.2 (fun y hy => hx y (List.mem_cons_of_mem _ hy))⟩
      rcases List.mem_cons.1 ((qins_perm x W).mem_iff.1 hz) with rfl | hz
      · have := hx y List.mem_cons_self
        unfold lt2 at *; omega
      · exact h.1 z hz
theorem Sorted.filter {W : List (Int × Int)} (h : Sorted W) (p : Int × Int → Bool) : Sorted (W.filter p) := List.Pairwise.sublist List.filter_sublist h
theorem nodup_map {α β : Type} (f : α → β) {W : List α} (h : W.Nodup) (hi : ∀ a ∈ W, ∀ b ∈ W, f a = f b → a = b) : (W.map f).Nodup := by
  unfold List.Nodup at *
  rw [List.pairwise_map]
  exact h.imp_of_mem (fun ha hb hne e => hne (hi _ ha _ hb e))
theorem inj_nodup {α β : Type} (f : α → β) : ∀ {W : List α}, (W.map f).Nodup → ∀ x ∈ W, ∀ y ∈ W, f x = f y → x = y
  | [], _, x, hx, _, _, _ => by cases hx
  | z :: W, h, x, hx, y, hy, e => by
    rw [List.map_cons, List.nodup_cons] at h
    rcases List.mem_cons.1 hx with e1 | hx'
    · rcases List.mem_cons.1 hy with e2 | hy'
      · rw [e1, e2]
      · exact absurd (e1 ▸ e ▸ List.mem_map_of_mem hy') h.1
    · rcases List.mem_cons.1 hy with e2 | hy'
      · exact absurd (e2 ▸ e ▸ List.mem_map_of_mem hx') h.1
      · exact inj_nodup f h.2 x hx' y hy' e
theorem ids_nodup {s : Pile} (h : POk s) : ((vw s).map (·.1)).Nodup := by
  unfold vw
  rw [List.map_map]
  refine nodup_map _ h.nd ?_
  intro a ha b hb e
  have e : (s.f a).id = (s.f b).id := e
  have h1 := (h.mp _ a).2 ⟨ha, rfl⟩
  have h2 := (h.mp _ b).2 ⟨hb, e.symm⟩
  exact Option.some.inj (h1.symm.trans h2)
theorem mem_vw {s : Pile} {x : Int × Int} : x ∈ vw s ↔ ∃ b ∈ s.l, (s.f b).id = x.1 ∧ (s.f b).key = x.2 := by
  unfold vw
  rw [List.mem_map]
  constructor
  · rintro ⟨b, hb, rfl⟩; exact ⟨b, hb, rfl, rfl⟩
  · rintro ⟨b, hb, h1, h2⟩; exact ⟨b, hb, by rw [h1, h2]⟩
theorem has_iff {s : Pile} {W : List (Int × Int)} (h : QOk s W) (id : Int) : qhas W id = (s.m id).isSome := by
  rw [Bool.eq_iff_iff, Option.isSome_iff_exists, qhas, List.any_eq_true]
  constructor
  · rintro ⟨x, hx, e⟩
    obtain ⟨b, hb, h1, _⟩ := mem_vw.1 (h.perm.mem_iff.2 hx)
    exact ⟨b, (h.ok.mp id b).2 ⟨hb, by rw [h1]; simpa using e⟩⟩
  · rintro ⟨b, hb⟩
    obtain ⟨h1, h2⟩ := (h.ok.mp id b).1 hb
    exact ⟨((s.f b).id, (s.f b).key), h.perm.mem_iff.1 (mem_vw.2 ⟨b, h1, rfl, rfl⟩), by simpa using h2⟩
theorem len_eq {s : Pile} {W : List (Int × Int)} (h : QOk s W) : s.l.length = W.length := by rw [← h.perm.length_eq]; simp [vw]
theorem ids_W {s : Pile} {W : List (Int × Int)} (h : QOk s W) : (W.map (·.1)).Nodup := (h.perm.map _).nodup_iff.1 (ids_nodup h.ok)
theorem put_ok {s s' : Pile} {W : List (Int × Int)} {id key : Int} (h : QOk s W) (hid : s.m id = none) (hok : POk s') (hp : (vw s').Perm (vw s ++ [(id, key)])) (hh : Heap s') : QOk s' (qins (id, key) W) := by
  refine ⟨hok, hh, ?_, qins_sorted h.sorted (fun y hy e => ?_)⟩
  · exact hp.trans ((List.perm_append_singleton _ _).trans ((h.perm.cons _).trans (qins_perm _ _).symm))
  · have h1 := has_iff h id
    rw [hid] at h1
    have : qhas W id = true := List.any_eq_true.2 ⟨y, hy, by simpa using e⟩
    rw [h1] at this; cases this
theorem take_ok {s s' : Pile} {W : List (Int × Int)} {x : It} (h : QOk s W) (hok : POk s') (hh : Heap s') (hp : (vw s).Perm ((x.id, x.key) :: vw s')) (hx : ∀ k, k < s.l.length → ¬ ltI (s.f (at_ s.l k)) x) : ∃ W', W = (x.id, x.key) :: W' ∧ QOk s' W' := by
  have hxs : (x.id, x.key) ∈ W := h.perm.mem_iff.1 (hp.mem_iff.2 List.mem_cons_self)
  cases hW : W with
  | nil => rw [hW] at hxs; cases hxs
  | cons y W' =>
    have hs := h.sorted
    rw [hW] at hs hxs
    have hy : y ∈ vw s := h.perm.mem_iff.2 (hW ▸ List.mem_cons_self)
    obtain ⟨b, hb, h1, h2⟩ := mem_vw.1 hy
    obtain ⟨k, hk⟩ := List.getElem?_of_mem hb
    have hlt := hx k (List.getElem?_eq_some_iff.1 hk).1
    rw [at_some hk] at hlt
    have hyx : (x.id, x.key) = y := by
      rcases List.mem_cons.1 hxs with e | e
      · exact e
      · have := (List.pairwise_cons.1 hs).1 _ e
        unfold lt2 at this; unfold ltI at hlt; rw [h1, h2] at hlt
        exact absurd this (by simpa using hlt)
    refine ⟨W', by rw [hyx], hok, hh, ?_, (List.pairwise_cons.1 hs).2⟩
    have := hp.symm.trans h.perm
    rw [hW, ← hyx] at this
    exact List.Perm.cons_inv this
theorem drop_ok {s s' : Pile} {W : List (Int × Int)} {x : It} (h : QOk s W) (hok : POk s') (hh : Heap s') (hp : (vw s).Perm ((x.id, x.key) :: vw s')) : QOk s' (qdel W x.id) := by
  refine ⟨hok, hh, ?_, h.sorted.filter _⟩
  have h1 : ((vw s).filter fun y => y.1 != x.id).Perm (qdel W x.id) := h.perm.filter _
  have h2 := hp.filter (fun y => y.1 != x.id)
  have hnd : (((x.id, x.key) :: vw s').map (·.1)).Nodup := (hp.map _).nodup_iff.1 (ids_nodup h.ok)
  rw [List.map_cons, List.nodup_cons] at hnd
  have h3 : ((x.id, x.key) :: vw s').filter (fun y => y.1 != x.id) = vw s' := by
    rw [List.filter_cons_of_neg (by simp), List.filter_eq_self.2]
    intro y hy
    have : y.1 ≠ x.id := fun e => hnd.1 (List.mem_map.2 ⟨y, hy, e⟩)
    simpa using this
  rw [h3] at h2
  exact h2.symm.trans h1
theorem key_of {s : Pile} {W : List (Int × Int)} (h : QOk s W) {id : Int} {b : Nat} (hb : s.m id = some b) : qkey W id = (s.f b).key := by
  obtain ⟨h1, h2⟩ := (h.ok.mp id b).1 hb
  have hm : ((s.f b).id, (s.f b).key) ∈ W := h.perm.mem_iff.1 (mem_vw.2 ⟨b, h1, rfl, rfl⟩)
  have hnd := ids_W h
  unfold qkey
  cases hf : W.find? (fun x => x.1 == id) with
  | none => exact absurd (List.find?_eq_none.1 hf _ hm) (by simpa using h2)
  | some y =>
    have hy := List.mem_of_find?_eq_some hf
    have hy1 : y.1 = id := by simpa using List.find?_some hf
    have : y = ((s.f b).id, (s.f b).key) := inj_nodup (·.1) hnd y hy _ hm (by rw [hy1]; exact h2.symm)
    rw [this]; rfl
end Go.Proofs.YtcacohoanlljhaaQ


/-
  Package queue: New and the methods, over sorted lists.
-/
namespace Go.Proofs.YtcacohoanlljhaaQ
set_option linter.unusedVariables false
set_option linter.unusedSimpArgs false
open Go.RowKit Go.Proofs.YtcacohoanlljhaaK

/-- A queue that nobody made. -/
inductive Dead : Option Addr → List Res → Prop
  | nil : Dead none []
  | odd {q : Nat} : Dead (some ⟨q, 0, none⟩) [blk q 118 [.pointer none]]

set_option maxRecDepth 100000 in
theorem live_yes {B : Base} {w : World} {q p : Nat} {s : Pile} (hS : St B (queueR q p s) w) :
    CallsIn Fence.wide 0 Try.prog 81 #[ptrV q] w (Ret B (fun _ : Unit => True) (fun _ => .bool true) (fun _ => queueR q p s)) := by
  unfold queueR at hS ⊢
  (refine enter Try.func81 rfl rfl hS ?_; simp only [List.zipIdx_cons, List.zipIdx_nil, List.map_cons, List.map_nil, Nat.reduceAdd, Nat.zero_add])
  refine wSeq ?_
  refine wRegion' ?_
  refine oAssign rfl ?_
  refine oNil ?_
  refine thn_n ?_
  refine wSeq ?_
  refine wRegion' ?_
  refine oMove rfl ?_
  refine oNeqP rfl rfl rfl ?_
  refine oMove rfl ?_
  first | refine oSplit (t := 5) rfl (fun h5 => ?_) (fun h5 => ?_) | refine oSplitB (t := 5) rfl (fun h5 => ?_) (fun h5 => ?_)
  ·
    refine oWant rfl rfl ?_
    refine oMove rfl ?_
    refine oWant rfl rfl ?_
    refine oPtr rfl ?_
    refine oWant rfl rfl ?_
    refine oFld (n := 0) (m := 0) rfl rfl rfl ?_
    refine oWant rfl rfl ?_
    refine oLd rfl (by repeat (first | exact Pick.here | apply Pick.there)) rfl rfl ?_
    refine oWant rfl rfl ?_
    refine oNeqP rfl rfl rfl ?_
    refine oPickT rfl rfl ?_
    refine oAssign rfl ?_
    refine oNil ?_
    refine thn_n ?_
    refine wRet ?_
    refine fin_r ?_
    refine ⟨rfl, _, (ResL.cons (ResR.tmp rfl) ResL.nil), ?_⟩
    exact ⟨(), trivial, by simp [resVal], (Leads.has (by repeat' (first | exact Has.nil | exact Pick.here | apply Has.cons | apply Pick.there)))⟩
  ·
    exact absurd h5 (by simp)
set_option maxRecDepth 100000 in
theorem live_no {B : Base} {w : World} {A : Option Addr} {H : List Res} (hA : Dead A H) (hS : St B H w) :
    CallsIn Fence.wide 0 Try.prog 81 #[.pointer A] w (Ret B (fun _ : Unit => True) (fun _ => .bool false) (fun _ => H)) := by
  cases hA with
  | nil =>
    (refine enter Try.func81 rfl rfl hS ?_; simp only [List.zipIdx_cons, List.zipIdx_nil, List.map_cons, List.map_nil, Nat.reduceAdd, Nat.zero_add])
    refine wSeq ?_
    refine wRegion' ?_
    refine oAssign rfl ?_
    refine oNil ?_
    refine thn_n ?_
    refine wSeq ?_
    refine wRegion' ?_
    refine oMove rfl ?_
    refine oNeqP rfl rfl rfl ?_
    refine oMove rfl ?_
    first | refine oSplit (t := 5) rfl (fun h5 => ?_) (fun h5 => ?_) | refine oSplitB (t := 5) rfl (fun h5 => ?_) (fun h5 => ?_)
    ·
      exact absurd rfl h5
    ·
      refine oSkip rfl rfl rfl rfl ?_
      refine oSkip rfl rfl rfl rfl ?_
      refine oSkip rfl rfl rfl rfl ?_
      refine oSkip rfl rfl rfl rfl ?_
      refine oSkip rfl rfl rfl rfl ?_
      refine oPickF rfl rfl ?_
      refine oAssign rfl ?_
      refine oNil ?_
      refine thn_n ?_
      refine wRet ?_
      refine fin_r ?_
      refine ⟨rfl, _, (ResL.cons (ResR.tmp rfl) ResL.nil), ?_⟩
      exact ⟨(), trivial, by simp [resVal], (Leads.has (by repeat' (first | exact Has.nil | exact Pick.here | apply Has.cons | apply Pick.there)))⟩
  | odd =>
    (refine enter Try.func81 rfl rfl hS ?_; simp only [List.zipIdx_cons, List.zipIdx_nil, List.map_cons, List.map_nil, Nat.reduceAdd, Nat.zero_add])
    refine wSeq ?_
    refine wRegion' ?_
    refine oAssign rfl ?_
    refine oNil ?_
    refine thn_n ?_
    refine wSeq ?_
    refine wRegion' ?_
    refine oMove rfl ?_
    refine oNeqP rfl rfl rfl ?_
    refine oMove rfl ?_
    first | refine oSplit (t := 5) rfl (fun h5 => ?_) (fun h5 => ?_) | refine oSplitB (t := 5) rfl (fun h5 => ?_) (fun h5 => ?_)
    ·
      refine oWant rfl rfl ?_
      refine oMove rfl ?_
      refine oWant rfl rfl ?_
      refine oPtr rfl ?_
      refine oWant rfl rfl ?_
      refine oFld (n := 0) (m := 0) rfl rfl rfl ?_
      refine oWant rfl rfl ?_
      refine oLd rfl (by repeat (first | exact Pick.here | apply Pick.there)) rfl rfl ?_
      refine oWant rfl rfl ?_
      refine oNeqP rfl rfl rfl ?_
      refine oPickT rfl rfl ?_
      refine oAssign rfl ?_
      refine oNil ?_
      refine thn_n ?_
      refine wRet ?_
      refine fin_r ?_
      refine ⟨rfl, _, (ResL.cons (ResR.tmp rfl) ResL.nil), ?_⟩
      exact ⟨(), trivial, by simp [resVal], (Leads.has (by repeat' (first | exact Has.nil | exact Pick.here | apply Has.cons | apply Pick.there)))⟩
    ·
      exact absurd h5 (by simp)

set_option maxRecDepth 100000 in
theorem queue_New {B : Base} {w : World} (hS : St B [] w) :
    CallsIn Fence.wide 0 Try.prog 57 #[] w (Ret B (fun i : Nat × Nat × Pile => QOk i.2.2 []) (fun i => ptrV i.1) (fun i => queueR i.1 i.2.1 i.2.2)) := by
  (refine enter Try.func57 rfl rfl hS ?_; simp only [List.zipIdx_cons, List.zipIdx_nil, List.map_cons, List.map_nil, Nat.reduceAdd, Nat.zero_add])
  refine wSeq ?_
  refine wRegion' ?_
  refine oAssign rfl ?_
  refine oNil ?_
  refine thn_n ?_
  refine wSeq ?_
  refine wRegion' ?_
  refine oMakeMap (Value.int .i64) ptrV (fun b1 => ?_)
  refine oBuild (Parts.cons rfl Parts.nil) rfl rfl (Built.cons (off := 1) (s := 1) rfl (by first | exact CellsOf.agg | exact CellsOf.one rfl) rfl (by repeat (first | exact PutL.done | apply PutL.put | apply PutL.skip)) Built.nil) ?_
  refine oBox rfl (by first | exact CellsOf.agg | exact CellsOf.one rfl) (fun b3 => ?_)
  refine oBuild (Parts.cons rfl Parts.nil) rfl rfl (Built.cons (off := 0) (s := 1) rfl (by first | exact CellsOf.agg | exact CellsOf.one rfl) rfl (by repeat (first | exact PutL.done | apply PutL.put | apply PutL.skip)) Built.nil) ?_
  refine oBox rfl (by first | exact CellsOf.agg | exact CellsOf.one rfl) (fun b5 => ?_)
  refine oAssign rfl ?_
  refine oNil ?_
  refine thn_n ?_
  refine wRet ?_
  refine fin_r ?_
  refine ⟨rfl, _, (ResL.cons (ResR.tmp rfl) ResL.nil), ?_⟩
  refine ⟨(b5, b3, ⟨none, 0, b1, [], fun _ => ⟨0, 0, 0⟩, fun _ => none⟩), ⟨⟨List.nodup_nil, by simp, by simp, by simp⟩, fun k _ h => by simp at h, .refl _, List.Pairwise.nil⟩, rfl, ?_⟩
  intro w1 h1
  have h2 := h1.nilrow ptrK default 119
  have h3 : St B (its (· ∈ ([] : List Nat)) (fun _ => ⟨0, 0, 0⟩) :: _) w1 := h2.add (Chg.refl _ _) (fun b hb => by simp at hb) (fun k hk => by have : k ∈ ([] : List Nat) := hk; simp at this)
  exact (Leads.has (by repeat' (first | exact Has.nil | exact Pick.here | apply Has.cons | apply Pick.there))) w1 h3

set_option maxRecDepth 100000 in
theorem queue_Len {B : Base} {w : World} {q p : Nat} {s : Pile} {W : List (Int × Int)} (hS : St B (queueR q p s) w) (hq : QOk s W) :
    CallsIn Fence.wide 0 Try.prog 83 #[ptrV q] w (Ret B (fun _ : Unit => True) (fun _ => .int .i64 (W.length : Int)) (fun _ => queueR q p s)) := by
  have hl := len_eq hq
  (refine enter Try.func83 rfl rfl hS ?_; simp only [List.zipIdx_cons, List.zipIdx_nil, List.map_cons, List.map_nil, Nat.reduceAdd, Nat.zero_add])
  refine wSeq ?_
  refine wRegion' ?_
  refine oAssign rfl ?_
  refine oNil ?_
  refine thn_n ?_
  refine wSeq ?_
  refine wSeq ?_
  refine wRegion' ?_
  refine oMove rfl ?_
  (refine oCall rfl (by kernel_rfl) (fun w hS => frame hS (by repeat' (first | exact Split.nil | exact Pick.here | apply Split.cons | apply Pick.there)) (fun B' hB hS' => live_yes (p := p) (s := s) hS')) ?_; rintro ⟨⟩ -)
  refine oNotT rfl ?_
  refine oNil ?_
  refine thn_n ?_
  refine wCondF rfl ?_
  refine wSkip ?_
  refine thn_n ?_
  refine wSeq ?_
  refine wRegion' ?_
  refine oMove rfl ?_
  refine oPtr rfl ?_
  refine oFld (n := 0) (m := 0) rfl rfl rfl ?_
  refine oLd rfl (by repeat (first | exact Pick.here | apply Pick.there)) rfl rfl ?_
  (refine oCall rfl (by kernel_rfl) (fun w hS => frame hS (by repeat' (first | exact Split.nil | exact Pick.here | apply Split.cons | apply Pick.there)) (fun B' hB hS' => pile_Len (s := s) hS')) ?_; rintro ⟨⟩ -)
  refine oAssign rfl ?_
  refine oNil ?_
  refine thn_n ?_
  refine wRet ?_
  refine fin_r ?_
  refine ⟨rfl, _, (ResL.cons (ResR.tmp rfl) ResL.nil), ?_⟩
  exact ⟨(), trivial, by rw [← hl]; rfl, (Leads.has (by repeat' (first | exact Has.nil | exact Pick.here | apply Has.cons | apply Pick.there)))⟩
set_option maxRecDepth 100000 in
theorem queue_Len0 {B : Base} {w : World} {A : Option Addr} {H : List Res} (hA : Dead A H) (hS : St B H w) :
    CallsIn Fence.wide 0 Try.prog 83 #[.pointer A] w (Ret B (fun _ : Unit => True) (fun _ => .int .i64 0) (fun _ => H)) := by
  (refine enter Try.func83 rfl rfl hS ?_; simp only [List.zipIdx_cons, List.zipIdx_nil, List.map_cons, List.map_nil, Nat.reduceAdd, Nat.zero_add])
  refine wSeq ?_
  refine wRegion' ?_
  refine oAssign rfl ?_
  refine oNil ?_
  refine thn_n ?_
  refine wSeq ?_
  refine wSeq ?_
  refine wRegion' ?_
  refine oMove rfl ?_
  (refine oCall rfl (by kernel_rfl) (fun w hS => live_no hA hS) ?_; rintro ⟨⟩ -)
  refine oNotF rfl ?_
  refine oNil ?_
  refine thn_n ?_
  refine wCondT rfl ?_
  refine wSeq ?_
  refine wRegion' ?_
  refine oAssign rfl ?_
  refine oNil ?_
  refine thn_n ?_
  refine wRet ?_
  refine thn_r ?_
  refine fin_r ?_
  refine ⟨rfl, _, (ResL.cons (ResR.tmp rfl) ResL.nil), ?_⟩
  exact ⟨(), trivial, rfl, fun _ h => h⟩

theorem look_eq {m : Int → Option Nat} (id : Int) : ((m id).map ptrV).getD (.pointer none) = .pointer ((m id).map fun b => (⟨b, 0, none⟩ : Addr)) := by cases m id <;> rfl
set_option maxRecDepth 100000 in
theorem queue_Put {B : Base} {w : World} {q p : Nat} {s : Pile} {W : List (Int × Int)} (hS : St B (queueR q p s) w) (hq : QOk s W) (id key : Int) (hl : W.length < 1000000) :
    CallsIn Fence.wide 0 Try.prog 60 #[ptrV q, .int .i64 id, .int .i64 key] w
      (Ret B (fun s' => QOk s' (if qhas W id then W else qins (id, key) W)) (fun _ => .bool (!qhas W id)) (fun s' => queueR q p s')) := by
  have hh := has_iff hq id
  have hlen := len_eq hq
  (refine enter Try.func60 rfl rfl hS ?_; simp only [List.zipIdx_cons, List.zipIdx_nil, List.map_cons, List.map_nil, Nat.reduceAdd, Nat.zero_add])
  refine wSeq ?_
  refine wRegion' ?_
  refine oAssign rfl ?_
  refine oNil ?_
  refine thn_n ?_
  refine wSeq ?_
  refine wSeq ?_
  refine wRegion' ?_
  refine oMove rfl ?_
  (refine oCall rfl (by kernel_rfl) (fun w hS => frame hS (by repeat' (first | exact Split.nil | exact Pick.here | apply Split.cons | apply Pick.there)) (fun B' hB hS' => live_yes (p := p) (s := s) hS')) ?_; rintro ⟨⟩ -)
  refine oNotT rfl ?_
  refine oMove rfl ?_
  refine oWant rfl rfl ?_
  refine oMove rfl ?_
  refine oWant rfl rfl ?_
  refine oPtr rfl ?_
  refine oWant rfl rfl ?_
  refine oFld (n := 0) (m := 0) rfl rfl rfl ?_
  refine oWant rfl rfl ?_
  refine oLd rfl (by repeat (first | exact Pick.here | apply Pick.there)) rfl rfl ?_
  refine oWant rfl rfl ?_
  refine oPtr rfl ?_
  refine oWant rfl rfl ?_
  refine oFld (n := 1) (m := 1) rfl rfl rfl ?_
  refine oWant rfl rfl ?_
  refine oLd rfl (by repeat (first | exact Pick.here | apply Pick.there)) rfl rfl ?_
  refine oWant rfl rfl ?_
  refine oMove rfl ?_
  refine oWant rfl rfl ?_
  refine oLook (ev := ptrV) (m := s.m) (keyE_int .i64) rfl rfl rfl (by repeat (first | exact Pick.here | apply Pick.there)) (look_eq id) ?_
  refine oWant rfl rfl ?_
  refine oNeqP rfl rfl rfl ?_
  refine oPickF rfl rfl ?_
  refine oNil ?_
  refine thn_n ?_
  first | refine wCond rfl (fun h21 => ?_) (fun h21 => ?_) | refine wCondB rfl (fun h21 => ?_) (fun h21 => ?_)
  ·
    have hm : (s.m id).isSome = true := by cases hm : s.m id <;> simp [hm] at h21 ⊢
    refine wSeq ?_
    refine wRegion' ?_
    refine oAssign rfl ?_
    refine oNil ?_
    refine thn_n ?_
    refine wRet ?_
    refine thn_r ?_
    refine fin_r ?_
    refine ⟨rfl, _, (ResL.cons (ResR.tmp rfl) ResL.nil), ?_⟩
    exact ⟨s, by rw [hh, hm]; exact hq, by rw [hh, hm]; rfl, (Leads.has (by repeat' (first | exact Has.nil | exact Pick.here | apply Has.cons | apply Pick.there)))⟩
  ·
    have hm : s.m id = none := by cases hm : s.m id <;> simp [hm] at h21 ⊢
    refine wSkip ?_
    refine thn_n ?_
    refine wSeq ?_
    refine wRegion' ?_
    refine oMove rfl ?_
    refine oPtr rfl ?_
    refine oFld (n := 0) (m := 0) rfl rfl rfl ?_
    refine oLd rfl (by repeat (first | exact Pick.here | apply Pick.there)) rfl rfl ?_
    refine oIface rfl rfl ?_
    refine oMove rfl ?_
    refine oMove rfl ?_
    refine oBuild (Parts.cons rfl (Parts.cons rfl Parts.nil)) rfl rfl (Built.cons (off := 0) (s := 1) rfl (by first | exact CellsOf.agg | exact CellsOf.one rfl) rfl (by repeat (first | exact PutL.done | apply PutL.put | apply PutL.skip)) (Built.cons (off := 1) (s := 1) rfl (by first | exact CellsOf.agg | exact CellsOf.one rfl) rfl (by repeat (first | exact PutL.done | apply PutL.put | apply PutL.skip)) Built.nil)) ?_
    refine oBox rfl (by first | exact CellsOf.agg | exact CellsOf.one rfl) (fun b30 => ?_)
    refine oIface rfl rfl ?_
    (refine oCall rfl (by kernel_rfl) (fun w hS => frame hS (by repeat' (first | exact Split.nil | exact Pick.here | apply Split.cons | apply Pick.there)) (fun B' hB hS' => heap_Push (s := s) (x := ⟨id, key, 0⟩) hS' hq.ok hq.heap hm (by omega))) ?_; rintro s1 ⟨hok1, hv1, hh1⟩)
    refine oNil ?_
    refine thn_n ?_
    refine wSeq ?_
    refine wRegion' ?_
    refine oAssign rfl ?_
    refine oNil ?_
    refine thn_n ?_
    refine wRet ?_
    refine fin_r ?_
    refine ⟨rfl, _, (ResL.cons (ResR.tmp rfl) ResL.nil), ?_⟩
    exact ⟨s1, by rw [hh, hm]; exact put_ok hq hm hok1 hv1 hh1, by rw [hh, hm]; rfl, (Leads.has (by repeat' (first | exact Has.nil | exact Pick.here | apply Has.cons | apply Pick.there)))⟩
set_option maxRecDepth 100000 in
theorem queue_Put0 {B : Base} {w : World} {A : Option Addr} {H : List Res} (hA : Dead A H) (hS : St B H w) (id key : Int) :
    CallsIn Fence.wide 0 Try.prog 60 #[.pointer A, .int .i64 id, .int .i64 key] w (Ret B (fun _ : Unit => True) (fun _ => .bool false) (fun _ => H)) := by
  (refine enter Try.func60 rfl rfl hS ?_; simp only [List.zipIdx_cons, List.zipIdx_nil, List.map_cons, List.map_nil, Nat.reduceAdd, Nat.zero_add])
  refine wSeq ?_
  refine wRegion' ?_
  refine oAssign rfl ?_
  refine oNil ?_
  refine thn_n ?_
  refine wSeq ?_
  refine wSeq ?_
  refine wRegion' ?_
  refine oMove rfl ?_
  (refine oCall rfl (by kernel_rfl) (fun w hS => live_no hA hS) ?_; rintro ⟨⟩ -)
  refine oNotF rfl ?_
  refine oMove rfl ?_
  refine oSkip rfl rfl rfl rfl ?_
  refine oSkip rfl rfl rfl rfl ?_
  refine oSkip rfl rfl rfl rfl ?_
  refine oSkip rfl rfl rfl rfl ?_
  refine oSkip rfl rfl rfl rfl ?_
  refine oSkip rfl rfl rfl rfl ?_
  refine oSkip rfl rfl rfl rfl ?_
  refine oSkip rfl rfl rfl rfl ?_
  refine oSkip rfl rfl rfl rfl ?_
  refine oSkip rfl rfl rfl rfl ?_
  refine oPickT rfl rfl ?_
  refine oNil ?_
  refine thn_n ?_
  refine wCondT rfl ?_
  refine wSeq ?_
  refine wRegion' ?_
  refine oAssign rfl ?_
  refine oNil ?_
  refine thn_n ?_
  refine wRet ?_
  refine thn_r ?_
  refine fin_r ?_
  refine ⟨rfl, _, (ResL.cons (ResR.tmp rfl) ResL.nil), ?_⟩
  exact ⟨(), trivial, rfl, fun _ h => h⟩

set_option maxRecDepth 100000 in
theorem queue_Take {B : Base} {w : World} {q p : Nat} {s : Pile} {W : List (Int × Int)} (hS : St B (queueR q p s) w) (hq : QOk s W) :
    CallsIn Fence.wide 0 Try.prog 62 #[ptrV q] w
      (Ret B (fun s' => QOk s' W.tail) (fun _ => .tuple #[.int .i64 (hd1 W), .int .i64 (hd2 W), .bool (hd3 W)]) (fun s' => queueR q p s')) := by
  have hlen := len_eq hq
  (refine enter Try.func62 rfl rfl hS ?_; simp only [List.zipIdx_cons, List.zipIdx_nil, List.map_cons, List.map_nil, Nat.reduceAdd, Nat.zero_add])
  refine wSeq ?_
  refine wRegion' ?_
  refine oAssign rfl ?_
  refine oAssign rfl ?_
  refine oAssign rfl ?_
  refine oNil ?_
  refine thn_n ?_
  refine wSeq ?_
  refine wSeq ?_
  refine wRegion' ?_
  refine oMove rfl ?_
  (refine oCall rfl (by kernel_rfl) (fun w hS => frame hS (by repeat' (first | exact Split.nil | exact Pick.here | apply Split.cons | apply Pick.there)) (fun B' hB hS' => queue_Len (p := p) (s := s) hS' hq)) ?_; rintro ⟨⟩ -)
  refine oEql rfl rfl ?_
  refine oNil ?_
  refine thn_n ?_
  first | refine wCond rfl (fun h9 => ?_) (fun h9 => ?_) | refine wCondB rfl (fun h9 => ?_) (fun h9 => ?_)
  ·
    have hW : W = [] := List.eq_nil_of_length_eq_zero (by omega)
    refine wSeq ?_
    refine wRegion' ?_
    refine oAssign rfl ?_
    refine oAssign rfl ?_
    refine oAssign rfl ?_
    refine oNil ?_
    refine thn_n ?_
    refine wRet ?_
    refine thn_r ?_
    refine fin_r ?_
    refine ⟨rfl, _, (ResL.cons (ResR.tmp rfl) (ResL.cons (ResR.tmp rfl) (ResL.cons (ResR.tmp rfl) ResL.nil))), ?_⟩
    subst hW
    exact ⟨s, hq, rfl, (Leads.has (by repeat' (first | exact Has.nil | exact Pick.here | apply Has.cons | apply Pick.there)))⟩
  ·
    have hne : s.l ≠ [] := by intro e; rw [e] at hlen; simp at hlen; omega
    refine wSkip ?_
    refine thn_n ?_
    refine wSeq ?_
    refine wRegion' ?_
    refine oMove rfl ?_
    refine oPtr rfl ?_
    refine oFld (n := 0) (m := 0) rfl rfl rfl ?_
    refine oLd rfl (by repeat (first | exact Pick.here | apply Pick.there)) rfl rfl ?_
    refine oIface rfl rfl ?_
    (refine oCall rfl (by kernel_rfl) (fun w hS => frame hS (by repeat' (first | exact Split.nil | exact Pick.here | apply Split.cons | apply Pick.there)) (fun B' hB hS' => heap_Pop (s := s) hS' hq.ok hq.heap hne)) ?_; rintro ⟨s1, nb, x⟩ ⟨hok1, hh1, hv1, hx1⟩)
    dsimp only at hok1 hh1 hv1 hx1
    obtain ⟨W', hW, hq1⟩ := take_ok hq hok1 hh1 hv1 hx1
    refine oAssertT rfl rfl ?_
    refine oMove rfl ?_
    refine oExt rfl (by repeat (first | exact GetAt.here | apply GetAt.there)) ?_
    refine oExt rfl (by repeat (first | exact GetAt.here | apply GetAt.there)) ?_
    refine oAssign rfl ?_
    refine oAssign rfl ?_
    refine oNil ?_
    refine thn_n ?_
    refine wSeq ?_
    refine wSeq ?_
    refine wRegion' ?_
    refine oMove rfl ?_
    refine oNotT rfl ?_
    refine oNil ?_
    refine thn_n ?_
    refine wCondF rfl ?_
    refine wSkip ?_
    refine thn_n ?_
    refine wSeq ?_
    refine wDraw2 rfl rfl [0, 4] [1, 2, 3, 5, 6, 7, 8, 9] 10 (by kernel_rfl) rfl rfl rfl (fun w0 => ?_)
    refine oPtr rfl ?_
    refine oFld (n := 0) (m := 0) rfl rfl rfl ?_
    refine oLd rfl (by repeat (first | exact Pick.here | apply Pick.there)) rfl rfl ?_
    refine oPtr rfl ?_
    refine oFld (n := 1) (m := 1) rfl rfl rfl ?_
    refine oLd rfl (by repeat (first | exact Pick.here | apply Pick.there)) rfl rfl ?_
    refine oAssign rfl ?_
    refine oAssign rfl ?_
    refine oHead ?_
    refine oAssign rfl ?_
    refine oNilT ?_
    refine thn_n ?_
    refine wRet ?_
    refine fin_r ?_
    refine ⟨rfl, _, (ResL.cons (ResR.tmp rfl) (ResL.cons (ResR.tmp rfl) (ResL.cons (ResR.tmp rfl) ResL.nil))), ?_⟩
    subst hW
    exact ⟨s1, hq1, rfl, (Leads.has (by repeat' (first | exact Has.nil | exact Pick.here | apply Has.cons | apply Pick.there)))⟩
set_option maxRecDepth 100000 in
theorem queue_Take0 {B : Base} {w : World} {A : Option Addr} {H : List Res} (hA : Dead A H) (hS : St B H w) :
    CallsIn Fence.wide 0 Try.prog 62 #[.pointer A] w (Ret B (fun _ : Unit => True) (fun _ => .tuple #[.int .i64 0, .int .i64 0, .bool false]) (fun _ => H)) := by
  (refine enter Try.func62 rfl rfl hS ?_; simp only [List.zipIdx_cons, List.zipIdx_nil, List.map_cons, List.map_nil, Nat.reduceAdd, Nat.zero_add])
  refine wSeq ?_
  refine wRegion' ?_
  refine oAssign rfl ?_
  refine oAssign rfl ?_
  refine oAssign rfl ?_
  refine oNil ?_
  refine thn_n ?_
  refine wSeq ?_
  refine wSeq ?_
  refine wRegion' ?_
  refine oMove rfl ?_
  (refine oCall rfl (by kernel_rfl) (fun w hS => queue_Len0 hA hS) ?_; rintro ⟨⟩ -)
  refine oEql rfl rfl ?_
  refine oNil ?_
  refine thn_n ?_
  first | refine wCond rfl (fun h9 => ?_) (fun h9 => ?_) | refine wCondB rfl (fun h9 => ?_) (fun h9 => ?_)
  ·
    refine wSeq ?_
    refine wRegion' ?_
    refine oAssign rfl ?_
    refine oAssign rfl ?_
    refine oAssign rfl ?_
    refine oNil ?_
    refine thn_n ?_
    refine wRet ?_
    refine thn_r ?_
    refine fin_r ?_
    refine ⟨rfl, _, (ResL.cons (ResR.tmp rfl) (ResL.cons (ResR.tmp rfl) (ResL.cons (ResR.tmp rfl) ResL.nil))), ?_⟩
    exact ⟨(), trivial, rfl, fun _ h => h⟩
  ·
    exact absurd rfl h9
end Go.Proofs.YtcacohoanlljhaaQ
