import Derived.Test.YtogaiijhicfoaaaGreatMB

/-
  Elements at hand; blocks as rows; rows of scalars, in whatever world.
-/
namespace Go.Proofs.YtogaiijhicfoaaaGreatK
open Go.RowKit
structure Elm {α : Type} (kd : Kd α) (W : World) (A : Option Addr) (i : Nat) (u : α) (e : Addr) (cs : List Value) : Prop where
  at_ : ∃ ad, A = some ad ∧ e = ad.add (i * kd.sz)
  K : kd.K W u cs
  cell : ∀ j v, cs[j]? = some v → W.cell? (adr e j) = some v
theorem Kd.C.elm {α : Type} {kd : Kd α} {W : World} {A : Option Addr} {xs : List α} {i : Nat} {u : α} (hC : kd.C W A xs) (hu : xs[i]? = some u) : ∃ e cs, Elm kd W A i u e cs := by
  obtain ⟨hi, rfl⟩ := List.getElem?_eq_some_iff.1 hu
  obtain ⟨_, hC⟩ := hC
  obtain ⟨ad, rfl, hc⟩ := hC (by omega)
  obtain ⟨cs, hK, hcell⟩ := hc i _ hu
  exact ⟨_, cs, ⟨ad, rfl, rfl⟩, hK, fun j v hv => by
    have e1 : adr (ad.add (i * kd.sz)) j = ad.add (i * kd.sz + j) := by unfold adr; exact Addr.add_add _ _ _
    rw [e1]; exact hcell j v hv⟩
section
variable {c : Cx} {M : Md c} {d : Nat} {ty t : TypeId} {pos : String} {af : Array Edge} {rest : List Oper} {E : Env} {D : List Deferred} {H : List Res} {x y : Operand}
theorem oIdxE {α : Type} {kd : Kd α} {k : IntKind} {A : Option Addr} {i : Nat} {n cp : Nat} {e : TypeId} {s : Nat} {u : α} {e' : Addr} {cs : List Value} (hx : E.op x = some (.slice A n cp)) (hy : E.op y = some (.int k (i : Int))) (hE : Elm kd c.B.e A i u e' cs) (hi : i < n) (ht : elemT c.P t = some (e, s)) (hsz : kd.sz = s)
    (h : O M rest ((d, .pointer (some (adr e' 0))) :: E) D H) (hN : Nat.blt d c.N = true := by rfl) : O M (⟨some d, .indexAddr t x y, ty, pos, af, none⟩ :: rest) E D H := by
  subst hsz
  obtain ⟨ad, rfl, rfl⟩ := hE.at_
  refine oC (.pointer (some (adr (ad.add (i * kd.sz)) 0))) rfl hN (fun u w ha hw => ?_) h
  have e1 : adr (ad.add (i * kd.sz)) 0 = ad.add (i * kd.sz) := by unfold adr; rfl
  simp [execOp, ha.op hx, ha.op hy, run_indexAt ht ad _ cp i hi k w, e1]
end
theorem okWide_arrL {P : Program} {w : World} {t e : TypeId} {n : Nat} {r : Reach} {base : Nat} {v : Value} (hu : P.underlying t = some (.array n e)) (h : Value.okWide P w r base t v) : ∃ cs : List Value, v = .agg cs.toArray := by
  unfold Value.okWide at h
  rw [hu] at h
  obtain ⟨cs, rfl, _⟩ := h
  exact ⟨cs.toList, by simp⟩
theorem row_Cs {α : Type} {enc : α → Value} {h1 : ∀ x, (enc x).oneCell' = true} {W w : World} {e : TypeId} {A : Option Addr} {n cp : Nat} {xs : List α} (h : (row (Kd.scalar enc h1) W e (.slice A n cp) xs).q w) : (Kd.scalar enc h1).C w A xs := by
  obtain ⟨cs, ho, hr⟩ := h
  exact (row_C (kd := Kd.scalar enc h1) (W := w) (e := e) (n := n) (cp := cp) ⟨cs, ho, cat_scalar.2 (cat_scalar.1 hr)⟩ (Grow.refl _)).2.2.1
theorem blk_row {α : Type} {B : Base} {Φ Φ' : List Res} {enc : α → Value} {h1 : ∀ x, (enc x).oneCell' = true} {W : World} {xs : List α} {e : TypeId} {b n : Nat} {cs : List Value} (hp : Pick Φ (blk b e cs) Φ') (hc : cs = xs.map enc) (hn : xs.length = n) (hm : n ≤ maxLen) : Leads B Φ (row (Kd.scalar enc h1) W e (.slice (some ⟨b, 0, none⟩) n n) xs :: Φ') := fun w h =>
  (h.perm hp.perm).conv .here (fun hq => by
    subst hn hc
    exact row_mk (cur := (xs.map enc).toArray) hq (Nat.le_refl _) hm (by simp) (by rw [← List.length_map (f := enc), List.take_length])) (fun k hk => by
      have : some b = some k := hk
      injection this with h; exact h.symm)
end Go.Proofs.YtogaiijhicfoaaaGreatK
