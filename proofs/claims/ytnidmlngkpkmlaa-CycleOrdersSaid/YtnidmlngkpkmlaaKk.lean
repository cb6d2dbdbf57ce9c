/-
  Rows that are only read from now on; calls that read what the walk owns.
-/
import Derived.Test.YtnidmlngkpkmlaaKj
namespace Go.Proofs.YtnidmlngkpkmlaaK
set_option linter.unusedVariables false
set_option linter.unusedSimpArgs false
open Go.RowKit
section
variable {c : Cx} {N : Md c} {M : Me c} {d : Nat} {ty : TypeId} {pos : String} {af : Array Edge} {rest : List Oper} {E : Env} {D : List Deferred} {H H' H'' : List Res} {v : Value} {x y z : Operand} {k : IntKind} {t t' : TypeId}
variable {B : Base} {w w' : World} {Φ Φ' Φ'' Ψ : List Res} {P : Program} {α : Type} {kd : Kd α} {W : World} {S : Nat → Prop} {A : Option Addr} {xs : List α}

/-- A call; what is not lent lies in the call's base as it lay. -/
theorem frame' {ι : Type} {inv : ι → Prop} {val : ι → Value} {post : ι → List Res} {g : FuncId} {args : Array Value} (hS : St B Φ w) (hs : Split Φ Ψ Φ') (h : ∀ B', Grow B.e B'.e → (∀ r Φ'', Pick Φ' r Φ'' → r.q B'.e) → St B' Ψ w → CallsIn Fence.wide 0 P g args w (Ret B' inv val post)) :
    CallsIn Fence.wide 0 P g args w (Ret B inv val (fun i => post i ++ Φ')) := by
  have hS' := hS.perm hs.perm
  refine (h (B.call w Ψ) hS'.egrow (fun r Φ'' hp => ?_) hS'.lend).mono ?_
  · obtain ⟨h1, h2⟩ := (Sep.all _ _ _).1 hS'.sep
    refine r.st w _ (h1 r (List.mem_append_right _ hp.mem)).1 (fun k hk => ?_)
    rw [Base.e_heap, if_neg]
    · rfl
    · rintro ⟨s, hs, hsk⟩
      exact (List.pairwise_append.1 h2).2.2 s hs r hp.mem k hsk hk
  · rintro e w' ⟨i, hi, he, hw⟩
    exact ⟨i, hi, he, hS'.give hw⟩
/-- Blocks S, by which (and by the base W) a row of elements is read. -/
def rdr (W : World) (S : Nat → Prop) (kd : Kd α) (A : Option Addr) (xs : List α) : Res where
  fp := S
  q w := (∀ k, S k → k < w.heap.size) ∧ ∀ w', Grow W w' → (∀ k, S k → w'.heap[k]? = w.heap[k]?) → kd.C w' A xs
  inb w h k hk := h.1 k hk
  st w w' h hk := ⟨fun k hs => by
    have h1 := h.1 k hs
    have h2 := hk k hs
    rw [Array.getElem?_eq_getElem h1] at h2
    exact (Array.getElem?_eq_some_iff.1 h2).1, fun w2 g h2 => h.2 w2 g (fun k hs => (h2 k hs).trans (hk k hs))⟩
theorem rdr_C (h : (rdr W S kd A xs).q w) (g : Grow W w) : kd.C w A xs := h.2 w g (fun _ _ => rfl)
theorem rdr_nil : Leads B Φ (rdr W (fun _ => False) kd none [] :: Φ) := fun w h => h.add (Chg.refl _ _) ⟨fun _ h => h.elim, fun _ _ _ => Kd.C_nil _ _ _⟩ (fun _ h => h.elim)
/-- A row of elements that lead nowhere, from now on only read. -/
theorem row_rdr {W0 W : World} {e : TypeId} {n cp : Nat} (hp : Pick Φ (row kd W0 e (.slice A n cp) xs) Φ') (hg : ∀ w x cs, kd.K W0 x cs → kd.K w x cs) : Leads B Φ (rdr W (fun k => (Value.slice A n cp).ownBlock = some k) kd A xs :: Φ') := fun w h =>
  (h.perm hp.perm).conv .here (fun hq => ⟨fun k hk => (row kd W0 e (.slice A n cp) xs).inb w hq k hk, fun w' _ hs => by
    have hq' := (row kd W0 e (.slice A n cp) xs).st w w' hq hs
    obtain ⟨cs, ho, hr⟩ := hq'
    have hr' : Cat kd w' xs cs := by
      clear ho hq hp
      induction xs generalizing cs with
      | nil => exact hr
      | cons x xs ih => obtain ⟨a, rest, e, hK, hR⟩ := hr; exact ⟨a, rest, e, hg _ _ _ hK, ih rest hR⟩
    exact (row_C (kd := kd) (W := w') (e := e) (n := n) (cp := cp) ⟨cs, ho, hr'⟩ (Grow.refl _)).2.2.1⟩) (fun k hk => hk)
/-- The k-th cell of the i-th element (of s cells each) at a. -/
@[irreducible] def elx (a : Addr) (i s k : Nat) : Addr := a.add (i * s + k)
theorem elx_add (a : Addr) (i s k j : Nat) : (elx a i s k).add j = elx a i s (k + j) := by unfold elx; rw [Addr.add_add, Nat.add_assoc]
theorem oFldD {g : Addr} {i s j l n m : Nat} (hx : E.op x = some (.pointer (some (elx g i s l)))) (hf : fplace c.P t j = some n) (hm : l + n = m) (h : O N rest ((d, .pointer (some (elx g i s m))) :: E) D H) (hN : Nat.blt d c.N = true := by rfl) : O N (⟨some d, .fieldAddr t x j, ty, pos, af, none⟩ :: rest) E D H :=
  oC _ rfl hN (fun u w ha hw => by simp [execOp, ha.op hx, run_fieldAt hf, elx_add, hm]) h
theorem oIdxD {n cp i s : Nat} {e' : TypeId} (hx : E.op x = some (.slice A n cp)) (hy : E.op y = some (.int k (i : Int))) (hp : Pick H (rdr c.B.e S kd A xs) H') (hn : xs.length = n) (hi : i < n) (ht : elemT c.P t = some (e', s)) (hsz : kd.sz = s)
    (h : ∀ g, A = some g → O N rest ((d, .pointer (some (elx g i s 0))) :: E) D H) (hN : Nat.blt d c.N = true := by rfl) : O N (⟨some d, .indexAddr t x y, ty, pos, af, none⟩ :: rest) E D H := by
  intro a w ha hw
  subst hsz hn
  obtain ⟨_, hC⟩ := rdr_C (hw.get hp) (Base.grow hw.ok)
  obtain ⟨ad, rfl, hc⟩ := hC (by omega)
  refine oC (.pointer (some (elx ad i kd.sz 0))) rfl hN (fun u w ha hw => ?_) (h ad rfl) a w ha hw
  have e1 : elx ad i kd.sz 0 = ad.add (i * kd.sz) := by unfold elx; rfl
  simp [execOp, ha.op hx, ha.op hy, run_indexAt ht ad _ cp i hi k w, e1]
theorem oLdD {g : Addr} {i j s : Nat} (hx : E.op x = some (.pointer (some (elx g i s j)))) (hp : Pick H (rdr c.B.e S kd A xs) H') (hA : A = some g) (hi : i < xs.length) (hsz : kd.sz = s) (hs : scalT c.P t = true)
    (h : ∀ u cs, xs[i]? = some u → (∃ w, kd.K w u cs) → ∃ v, cs[j]? = some v ∧ O N rest ((d, v) :: E) D H) (hN : Nat.blt d c.N = true := by rfl) : O N (⟨some d, .load t x, ty, pos, af, none⟩ :: rest) E D H := by
  intro a w ha hw
  subst hsz hA
  obtain ⟨_, hC⟩ := rdr_C (hw.get hp) (Base.grow hw.ok)
  obtain ⟨ad, e, hc⟩ := hC (by omega)
  injection e with e
  subst e
  obtain ⟨cs, hK, hcell⟩ := hc i _ (List.getElem?_eq_getElem hi)
  obtain ⟨v, hv, hO⟩ := h _ cs (List.getElem?_eq_getElem hi) ⟨w, hK⟩
  have hc1 := hcell j v hv
  refine N.calm _ _ _ _ v rfl rfl ?_ (hO _ _ (ha.put hN) hw)
  have e1 : elx g i kd.sz j = g.add (i * kd.sz + j) := by unfold elx; rfl
  simp [execOp, ha.fit.op hx, Instr.loadAt, Instr.sureAddr, loadVar, run_isAgg_s hs, e1, hc1]
/-- What is behind the first elements. -/
theorem oSliceFrom {n cp m s : Nat} {e' : TypeId} (hx : E.op x = some (.slice A n cp)) (hy : E.op y = some (.int k (m : Int))) (hp : Pick H (rdr c.B.e S kd A xs) H') (hn : xs.length = n) (hm : m ≤ n) (hnc : n ≤ cp) (ht : elemT c.P t = some (e', s)) (hsz : kd.sz = s)
    (h : ∀ A' cp', n - m ≤ cp' → O M.toMd rest ((d, .slice A' (n - m) cp') :: E) D (rdr c.B.e S kd A' (xs.drop m) :: H')) (hN : Nat.blt d c.N = true := by rfl) : O M.toMd (⟨some d, .slice t x (some y) none none, ty, pos, af, none⟩ :: rest) E D H :=
  oEff rfl hN fun a w ha hw => by
    subst hsz hn
    obtain ⟨h1, inf, h2, h3⟩ := run_elemT ht
    refine ⟨.slice (if cp = m then A else A.map (·.add (m * kd.sz))) (xs.length - m) (cp - m), w, _, ?_, ?_, h _ _ (by omega)⟩
    · simp [execOp, ha.op hx, ha.op hy, Instr.sliceAt, Instr.slice, run_underlying h1, Instr.sliceBounds, Instr.sliceBound, asIntOf, hm, sizeOf, typeInfo, h2, h3]
    · refine hw.upd' hp (Chg.refl _ _) ⟨fun k hk => (hw.get hp).1 k hk, fun w' g hs => ?_⟩ (fun k hk => .inl hk)
      obtain ⟨hl, hC⟩ := (hw.get hp).2 w' g hs
      refine ⟨by rw [List.length_drop]; omega, fun h0 => ?_⟩
      rw [List.length_drop] at h0
      obtain ⟨ad, rfl, hc⟩ := hC (by omega)
      refine ⟨ad.add (m * kd.sz), by rw [if_neg (by omega)]; rfl, fun j u hj => ?_⟩
      rw [List.getElem?_drop] at hj
      obtain ⟨cs, hK, hcell⟩ := hc (m + j) u hj
      refine ⟨cs, hK, fun i v hv => ?_⟩
      rw [Addr.add_add, show m * kd.sz + (j * kd.sz + i) = (m + j) * kd.sz + i by rw [Nat.add_mul]; omega]
      exact hcell i v hv
/-- A row's room. -/
theorem oRoom {W0 : World} {e : TypeId} {n cp : Nat} (hp : Pick H (row kd W0 e (.slice A n cp) xs) H') (h : n = xs.length → n ≤ cp → O N rest E D H) : O N rest E D H := fun a w ha hw => by
  obtain ⟨cs, ⟨hl, ho⟩, hr⟩ : (row kd W0 e (.slice A n cp) xs).q w := hw.get hp
  rcases ho with ⟨e1, e2⟩ | ⟨b, cap, cur, e1, _, hh, h1, h2, h3, h4⟩
  · injection e1 with e1 e3 e4
    exact h (by omega) (by omega) a w ha hw
  · injection e1 with e1 e3 e4
    exact h (by omega) (by omega) a w ha hw
end
end Go.Proofs.YtnidmlngkpkmlaaK
