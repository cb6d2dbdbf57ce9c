/-
  The builtin copy; more on bundles.
-/
import Derived.Test.YtnidmlngkpkmlaaKq
import Derived.Laws.IdiomCopy
namespace Go.Proofs.YtnidmlngkpkmlaaK
set_option linter.unusedVariables false
set_option linter.unusedSimpArgs false
open Go.RowKit
def setL {α : Type} : List α → Nat → List α → List α
  | l, _, [] => l
  | l, o, v :: r => setL (l.set o v) (o + 1) r
theorem setL_eq {α : Type} : ∀ (vs l : List α) (o : Nat), o + vs.length ≤ l.length → setL l o vs = l.take o ++ vs ++ l.drop (o + vs.length)
  | [], l, o, h => by simp [setL]
  | v :: r, l, o, h => by
    rw [setL, setL_eq r _ _ (by simpa [Nat.add_assoc, Nat.add_comm 1] using h)]
    have ho : o < l.length := by simp at h; omega
    have h1 : (List.take (o + 1) l).set o v = List.take o l ++ [v] := by
      apply List.ext_getElem?
      intro i
      have e1 : (List.take o l).length = o := by rw [List.length_take]; omega
      have e2 : (List.take (o + 1) l).length = o + 1 := by rw [List.length_take]; omega
      rw [List.getElem?_set, List.getElem?_append, e1, e2]
      by_cases e : o = i
      · subst e; simp
      · rw [if_neg e]
        by_cases e2 : i < o
        · rw [if_pos e2, List.getElem?_take, List.getElem?_take, if_pos (by omega), if_pos e2]
        · rw [if_neg e2, List.getElem?_take, if_neg (by omega), List.getElem?_eq_none (by simp; omega)]
    rw [List.take_set, h1, List.drop_set_of_lt (by omega)]
    simp [Nat.add_assoc, Nat.add_comm 1]
theorem setCells_heap {b : Nat} {t : TypeId} : ∀ (vs : List Value) (o : Nat) (w : World) (l : List Value), w.heap[b]? = some (.cells l.toArray t (0, 0)) → (w.setCells b o vs).heap[b]? = some (.cells (setL l o vs).toArray t (0, 0))
  | [], _, _, _, h => h
  | v :: r, o, w, l, h => setCells_heap r (o + 1) _ _ (set_heap h)
theorem setCells_chg {b : Nat} : ∀ (vs : List Value) (o : Nat) (w : World), Chg w (w.setCells b o vs) (fun k => k = b)
  | [], _, w => Chg.refl _ _
  | v :: r, o, w => (Chg.setCell w ⟨b, o, none⟩ v).trans (setCells_chg r (o + 1) _)
section
variable {c : Cx} {N : Md c} {M : Me c} {d : Nat} {ty : TypeId} {pos : String} {af : Array Edge} {rest : List Oper} {E : Env} {D : List Deferred} {H H' H'' : List Res} {v : Value} {x y z : Operand} {k : IntKind} {t t' : TypeId}
/-- Elements of data over the first ones of a row of one's own. -/
theorem oCopy {α : Type} {enc : α → Value} {h1 : ∀ x, (enc x).oneCell' = true} {W : World} {e e' : TypeId} {A A' : Option Addr} {n cp m cp' : Nat} {xs ys : List α} {o : Option Nat} (hx : E.op x = some (.slice A n cp)) (hy : E.op y = some (.slice A' m cp'))
    (ht : elemT c.P t = some (e', 1)) (hp : Pick H (row (Kd.scalar enc h1) W e (.slice A n cp) xs) H') (hm : ys.length = m) (hC : (Kd.scalar enc h1).C c.B.e A' ys)
    (h : O M.toMd rest (match o with | some d => (d, .int .i64 ((Nat.min m n : Nat) : Int)) :: E | none => E) D (row (Kd.scalar enc h1) W e (.slice A n cp) (ys.take n ++ xs.drop m) :: H')) (hN : o.all (fun d => Nat.blt d c.N) = true := by rfl) :
    O M.toMd (⟨o, .call { callee := .builtin .copy, args := #[x, y], argTypes := #[t, t'] }, ty, pos, af, none⟩ :: rest) E D H := by
  intro a w ha hw
  obtain ⟨ht1, inf, hi, hsz⟩ := run_elemT ht
  have hs1 : (c.P.info? e').map (·.size) = some 1 := by rw [hi]; simp [hsz]
  obtain ⟨q, hq, hq1, hq2, hq3⟩ : ∃ q, Nat.min m n = q ∧ q ≤ m ∧ q ≤ n ∧ (q = m ∨ q = n) := ⟨_, rfl, Nat.min_le_left _ _, Nat.min_le_right _ _, by show min m n = m ∨ min m n = n; omega⟩
  rw [hq] at h
  have key : ∃ w', (Builtin.copy_ #[t, t'] ty #[.slice A n cp, .slice A' m cp']).run c.P w = .ok (goInt q) w' ∧ St c.B (row (Kd.scalar enc h1) W e (.slice A n cp) (ys.take n ++ xs.drop m) :: H') w' := by
    obtain ⟨cs0, ⟨hl, ho⟩, hr⟩ : (row (Kd.scalar enc h1) W e (.slice A n cp) xs).q w := hw.get hp
    have hcs := Cat.scal.1 hr
    have es : (Kd.scalar enc h1).sz = 1 := rfl
    rw [es] at hl ho
    have hnx : n = xs.length := by
      rcases ho with ⟨e1, e2⟩ | ⟨b, cap, cur, e1, _⟩
      · injection e1 with _ e1 _; omega
      · injection e1 with _ e1 _
    by_cases hmin : q = 0
    · refine ⟨w, by rw [hmin]; exact run_copy_none w t t' ty e' A A' n cp m cp' ht1 hs1 (hq.trans hmin), ?_⟩
      have : ys.take n ++ xs.drop m = xs := by
        rcases Nat.eq_zero_or_pos m with h0 | h0
        · have : ys = [] := List.eq_nil_of_length_eq_zero (by omega)
          subst this; subst h0; simp
        · have : n = 0 := by omega
          have hxs : xs = [] := List.eq_nil_of_length_eq_zero (by omega)
          subst this hxs; simp
      rw [this]
      exact hw.perm hp.perm
    · have hm0 : 0 < m := by omega
      have hn0 : 0 < n := by omega
      obtain ⟨ad, rfl, hc⟩ := hC.2 (by omega)
      rcases ho with ⟨e1, e2⟩ | ⟨b, cap, cur, e1, _, hb, g2, g3, g4, g5⟩
      · omega
      · injection e1 with e1 e2 e3
        subst e1 e3
        rw [Nat.mul_one] at g4 g5
        have hb' : w.heap[b]? = some (.cells cur.toList.toArray e (0, 0)) := by simpa using hb
        have hlen : ((ys.take n).map enc).length = q := by rw [List.length_map, List.length_take, hm]; omega
        have hcl : n ≤ cur.toList.length := by simp; omega
        have hrun := run_copy_cells (P := c.P) w t t' ty e' b 0 n cp ad m cp' ((ys.take n).map enc) ht1 hs1 (hlen.trans hq.symm) (fun j u hj => ?_) (fun j hj => ?_) (fun j hj => ?_) (fun u hu => ?_)
        · rw [hlen] at hrun
          refine ⟨_, hrun, hw.upd' hp ((setCells_chg _ _ _).mono (fun k hk => by subst hk; rfl)) ?_ (fun k hk => .inl hk)⟩
          have hL : (ys.take n ++ xs.drop m).length = n := by rw [List.length_append, List.length_take, List.length_drop, hm]; omega
          refine ⟨(ys.take n ++ xs.drop m).map enc, ⟨by rw [es, List.length_map, Nat.mul_one], .inr ⟨b, cp, _, by rw [hL], Nat.zero_le _, setCells_heap _ 0 w _ hb', by rw [hL]; omega, g3, ?_, ?_⟩⟩, Cat.scal.2 rfl⟩
          · rw [setL_eq _ _ _ (by omega)]; simp [es, hlen]; omega
          · rw [es, Nat.mul_one, hL]
            show (setL cur.toList 0 ((ys.take n).map enc)).take n = _
            rw [setL_eq _ _ _ (by omega), List.take_zero, List.nil_append, Nat.zero_add, hlen, List.take_append, hlen, List.take_of_length_le (by rw [hlen]; exact hq2), List.map_append]
            congr 1
            rw [show n - q = n - m by omega]
            apply List.ext_getElem?
            intro j
            rw [List.map_drop, ← hcs, ← g5, ← hnx]
            simp only [List.getElem?_take, List.getElem?_drop]
            rcases Nat.lt_or_ge n m with hh | hh
            · rw [if_neg (by omega), if_neg (by omega)]
            · by_cases hj : j < n - m
              · rw [if_pos hj, if_pos (by omega), show q = m by omega]
              · rw [if_neg hj, if_neg (by omega)]
        · obtain ⟨u', hu', rfl⟩ := List.mem_map.1 (List.mem_of_getElem? hj)
          rw [List.getElem?_map, List.getElem?_take] at hj
          split at hj
          · cases hyj : ys[j]? with
            | none => rw [hyj] at hj; cases hj
            | some q =>
              rw [hyj] at hj
              obtain ⟨cs, hK, hcell⟩ := hc j q hyj
              have := hcell 0 (enc q) (by rw [show cs = [enc q] from hK]; rfl)
              rw [es, Nat.mul_one, Nat.add_zero] at this
              have h2 : enc q = enc u' := Option.some.inj hj
              rw [← h2]
              exact hw.ext this
          · cases hj
        · rw [cell_of hb', Nat.zero_add]
          rw [List.getElem?_eq_getElem (by omega)]; rfl
        · rw [Nat.zero_add]
          exact frozen_of hb
        · obtain ⟨u', _, rfl⟩ := List.mem_map.1 hu
          exact h1 u'
  obtain ⟨w', hrun, hS'⟩ := key
  cases o with
  | none => exact M.eff _ _ _ _ (.int .i64 (q : Int)) w' rfl rfl (by simp [execOp, resolve, invoke, builtin, ha.fit.op hx, ha.fit.op hy, hrun, goInt]) (h _ _ ha hS')
  | some d => exact M.eff _ _ _ _ (.int .i64 (q : Int)) w' rfl rfl (by simp [execOp, resolve, invoke, builtin, ha.fit.op hx, ha.fit.op hy, hrun, goInt]) (h _ _ (ha.put (by simpa using hN)) hS')
end
section
variable {α : Type} {kd : Kd α} {W : World} {ei : TypeId} {hs : List Hdr} {xss : List (List α)} {B : Base} {Φ Φ' Φ'' : List Res}
theorem bun_snoc {Ψ : List Res} {r : Res} (h1 : Pick Φ r Φ') (h2 : Pick Φ' (bun Ψ) Φ'') : Leads B Φ (bun (Ψ ++ [r]) :: Φ'') := fun w h => by
  have h3 : St B (bun Ψ :: r :: Φ'') w := h.perm (h1.perm.trans ((h2.perm.cons _).trans (List.Perm.swap _ _ _)))
  have h4 := h3.unpack
  exact St.pack (Ψ := Ψ ++ [r]) (by rw [List.append_assoc]; exact h4)
theorem rws_snoc {u : Hdr} {l : List α} (hl : hs.length = xss.length) : rws kd W ei (hs ++ [u]) (xss ++ [l]) = rws kd W ei hs xss ++ [row kd W ei (hV u) l] := by
  unfold rws; rw [List.zipWith_append hl]; rfl
theorem bun_nil : Leads B Φ (bun [] :: Φ) := fun w h => St.pack (Ψ := []) h
end
section
variable {c : Cx} {N : Md c} {rest : List Oper} {E : Env} {D : List Deferred} {H H' H'' : List Res} {α : Type} {kd : Kd α} {W : World} {ei : TypeId} {hs : List Hdr} {xss : List (List α)}
theorem oSnoc {u : Hdr} {l : List α} (h1 : Pick H (row kd W ei (hV u) l) H') (h2 : Pick H' (bun (rws kd W ei hs xss)) H'') (hl : hs.length = xss.length) (h : O N rest E D (bun (rws kd W ei (hs ++ [u]) (xss ++ [l])) :: H'')) : O N rest E D H :=
  oConv (bun_snoc h1 h2) (by rw [← rws_snoc hl]; exact h)
end
end Go.Proofs.YtnidmlngkpkmlaaK
