/-
  What is frozen for the rest of a body; bundles of rows (a slice of slices of one's own).
-/
import Derived.Test.YtnidmlngkpkmlaaKp
import Derived.Test.YtnidmlngkpkmlaaKl
namespace Go.Proofs.YtnidmlngkpkmlaaK
set_option linter.unusedVariables false
set_option linter.unusedSimpArgs false
open Go.RowKit
/-! ### the rest of a body over another base -/
@[reducible] def Cx.base (c : Cx) (B' : Base) : Cx := ⟨c.P, c.F, c.N, B', c.fn, c.dp, c.call⟩
section
variable {c : Cx} {Q : Post} {x : Code} {E : Env} {D : List Deferred} {H H' Ψ Φ : List Res}
/-- What lies in Ψ is data of the base from here on. -/
theorem wFreeze (Ψ : List Res) (hs : Split H Ψ Φ) (h : ∀ B', Grow c.B.e B'.e → (∀ r Φ'', Pick Ψ r Φ'' → r.q B'.e) → W (c.base B') x (fun e E D H' => Q e E D (H' ++ Ψ)) E D Φ) : W c x Q E D H := by
  intro a w ha hw
  have hS : St c.B (Φ ++ Ψ) w := (hw.perm hs.perm).swap
  have hq : ∀ r Φ'', Pick Ψ r Φ'' → r.q (c.B.call w Φ).e := fun r Φ'' hp => by
    obtain ⟨h1, h2⟩ := (Sep.all _ _ _).1 hS.sep
    refine r.st w _ (h1 r (List.mem_append_right _ hp.mem)).1 (fun k hk => ?_)
    rw [Base.e_heap, if_neg]
    · rfl
    · rintro ⟨s, hs, hsk⟩
      exact (List.pairwise_append.1 h2).2.2 s hs r hp.mem k hsk hk
  refine wpIn_mono (h (c.B.call w Φ) hS.egrow hq a w ha hS.lend) ?_
  rintro e a' w' ⟨E', D', H', h1, h2, h3, h4⟩
  exact ⟨E', D', H' ++ Ψ, h1, hS.give h2, h3, h4⟩
end
/-! ### bundles -/
section
variable {B : Base} {Φ Φ' Ψ : List Res} {r r' : Res} {i : Nat}
theorem perm_at {α : Type} {l : List α} {i : Nat} {r : α} (h : l[i]? = some r) : (r :: l.eraseIdx i).Perm l := by
  induction l generalizing i with
  | nil => simp at h
  | cons x l ih =>
    cases i with
    | zero => simp at h; subst h; exact List.Perm.refl _
    | succ i => exact (List.Perm.swap _ _ _).trans ((ih (by simpa using h)).cons _)
theorem bun_focus (h : Ψ[i]? = some r) : Leads B (bun Ψ :: Φ) (r :: bun (Ψ.eraseIdx i) :: Φ) := fun w hS => by
  have h1 := hS.unpack
  have h2 : St B (Ψ.eraseIdx i ++ (r :: Φ)) w := h1.perm (((perm_at h).symm.append_right Φ).trans List.perm_middle.symm)
  exact h2.pack.perm (List.Perm.swap _ _ _)
theorem bun_back (hi : i < Ψ.length) : Leads B (r' :: bun (Ψ.eraseIdx i) :: Φ) (bun (Ψ.set i r') :: Φ) := fun w hS => by
  have h1 := (hS.perm (List.Perm.swap _ _ _)).unpack
  refine St.pack (h1.perm (List.perm_middle.trans ?_))
  have h2 : (Ψ.set i r')[i]? = some r' := by simp [hi]
  have := perm_at h2
  rw [List.eraseIdx_set_eq] at this
  exact this.append_right Φ
end
/-! ### rows of rows -/
abbrev Hdr := Option Addr × Nat × Nat
abbrev hV (h : Hdr) : Value := .slice h.1 h.2.1 h.2.2
def kHdr : Kd Hdr := Kd.scalar hV (fun _ => rfl)
section
variable {α : Type} {kd : Kd α} {W : World} {ei eo : TypeId} {hs : List Hdr} {xss : List (List α)} {B : Base} {Φ Φ' Φ'' : List Res} {w : World}
def rws (kd : Kd α) (W : World) (ei : TypeId) (hs : List Hdr) (xss : List (List α)) : List Res := List.zipWith (fun h xs => row kd W ei (hV h) xs) hs xss
theorem rws_at {i : Nat} {u : Hdr} {xs : List α} (hu : hs[i]? = some u) (hx : xss[i]? = some xs) : (rws kd W ei hs xss)[i]? = some (row kd W ei (hV u) xs) := by
  unfold rws; rw [List.getElem?_zipWith, hu, hx]
theorem rws_set {i : Nat} {u : Hdr} {xs : List α} : (rws kd W ei hs xss).set i (row kd W ei (hV u) xs) = rws kd W ei (hs.set i u) (xss.set i xs) := by
  unfold rws
  induction hs generalizing xss i with
  | nil => simp
  | cons h hs ih =>
    cases xss with
    | nil => simp
    | cons x xss =>
      cases i with
      | zero => rfl
      | succ i => simp only [List.zipWith_cons_cons, List.set_cons_succ]; rw [ih]
theorem rws_new (n : Nat) : Leads B Φ (bun (rws kd W ei (List.replicate n (none, 0, 0)) (List.replicate n [])) :: Φ) := fun w h => by
  have hmem : ∀ r ∈ rws kd W ei (List.replicate n (none, 0, 0)) (List.replicate n []), r = row kd W ei (.slice none 0 0) [] := by
    intro r hr
    unfold rws at hr
    rw [List.zipWith_replicate, Nat.min_self] at hr
    exact (List.mem_replicate.1 hr).2
  have hfp : ∀ k, ¬ (row kd W ei (.slice none 0 0) []).fp k := fun k hk => by simp [row, Value.ownBlock] at hk
  refine h.add (Chg.refl _ _) ⟨fun r hr => ?_, ?_⟩ (fun k hk => ?_)
  · rw [hmem r hr]; exact ⟨[], World.ownsRow_nil _ _ _ _, rfl⟩
  · refine List.pairwise_of_forall_mem_list (fun r hr s hs k hk => ?_)
    rw [hmem r hr] at hk; exact (hfp k hk).elim
  · obtain ⟨r, hr, hk⟩ := hk
    rw [hmem r hr] at hk; exact (hfp k hk).elim
theorem Pick.leads {r r' : Res} (hp : Pick Φ r Φ') (h : ∀ Φ, Leads B (r :: Φ) (r' :: Φ)) : Leads B Φ (r' :: Φ') := fun w hS => h _ w (hS.perm hp.perm)
/-- Such a slice, read as data. -/
theorem grid_C {A : Option Addr} {n cp : Nat} {W0 : World} (h1 : (row kHdr W0 eo (.slice A n cp) hs).q w) (h2 : (bun (rws kd W ei hs xss)).q w) (hl : hs.length = xss.length) (g : Grow W w) : (Kd.slice kd).C w A xss := by
  have hn : ∀ w' x cs, kHdr.K W0 x cs → kHdr.K w' x cs := fun _ _ _ h => h
  obtain ⟨cs, ho, hr⟩ := h1
  have hr' : Cat kHdr w hs cs := by
    clear ho hl h2
    induction hs generalizing cs with
    | nil => exact hr
    | cons x xs ih => obtain ⟨a, rest, e, hK, hR⟩ := hr; exact ⟨a, rest, e, hK, ih rest hR⟩
  obtain ⟨e1, e2, ⟨hbig, hC⟩, _⟩ := row_C (kd := kHdr) (W := w) (e := eo) (n := n) (cp := cp) (A := A) ⟨cs, ho, hr'⟩ (Grow.refl _)
  refine ⟨by omega, fun h0 => ?_⟩
  obtain ⟨ad, rfl, hc⟩ := hC (by omega)
  refine ⟨ad, rfl, fun j xs hj => ?_⟩
  have hjl : j < hs.length := by rw [hl]; exact (List.getElem?_eq_some_iff.1 hj).1
  obtain ⟨c, hK, hcell⟩ := hc j _ (List.getElem?_eq_getElem hjl)
  have hq := h2.1 _ (List.mem_of_getElem? (rws_at (kd := kd) (W := W) (ei := ei) (List.getElem?_eq_getElem hjl) hj))
  obtain ⟨f1, f2, f3, _⟩ := row_C hq g
  refine ⟨_, ⟨hs[j].1, hs[j].2.2, rfl, by omega, f3⟩, fun i u hi => ?_⟩
  refine hcell i u ?_
  rw [show c = [hV hs[j]] from hK]
  rw [← f1] at hi
  exact hi
end
section
variable {c : Cx} {N : Md c} {M : Me c} {rest : List Oper} {E : Env} {D : List Deferred} {H H' H'' : List Res}
variable {α : Type} {kd : Kd α} {W : World} {ei : TypeId} {hs : List Hdr} {xss : List (List α)}
theorem oFocus {i : Nat} {u : Hdr} {xs : List α} (hp : Pick H (bun (rws kd W ei hs xss)) H') (hu : hs[i]? = some u) (hx : xss[i]? = some xs) (h : O N rest E D (row kd W ei (hV u) xs :: bun ((rws kd W ei hs xss).eraseIdx i) :: H')) : O N rest E D H :=
  oConv (fun w hS => bun_focus (rws_at hu hx) w (hS.perm hp.perm)) h
theorem oBack {i : Nat} {u : Hdr} {xs : List α} (hp : Pick H (row kd W ei (hV u) xs) H') (hp' : Pick H' (bun ((rws kd W ei hs xss).eraseIdx i)) H'') (hi : i < hs.length) (hl : hs.length = xss.length) (h : O N rest E D (bun (rws kd W ei (hs.set i u) (xss.set i xs)) :: H'')) : O N rest E D H := by
  refine oConv (fun w hS => ?_) h
  rw [← rws_set]
  exact bun_back (by unfold rws; rw [List.length_zipWith]; omega) w (hS.perm (hp.perm.trans (hp'.perm.cons _)))
end
end Go.Proofs.YtnidmlngkpkmlaaK
