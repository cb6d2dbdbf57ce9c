/-
  What the walk has built, as data that are read from now on (seal); rows of raw cells; append of a whole slice.
-/
import Derived.Test.YtnidmlngkpkmlaaKk
namespace Go.Proofs.YtnidmlngkpkmlaaK
set_option linter.unusedVariables false
set_option linter.unusedSimpArgs false
open Go.RowKit
section
variable {c : Cx} {N : Md c} {M : Me c} {d : Nat} {ty : TypeId} {pos : String} {af : Array Edge} {rest : List Oper} {E : Env} {D : List Deferred} {H H' H'' : List Res} {v : Value} {x y z : Operand} {k : IntKind} {t t' : TypeId}
variable {B : Base} {w w' : World} {Φ Φ' Φ'' Ψ : List Res} {P : Program} {α : Type} {kd : Kd α} {W : World} {S : Nat → Prop} {A : Option Addr} {xs : List α}
theorem oConv (hL : Leads c.B H H') (h : O N rest E D H') : O N rest E D H := fun a w ha hw => h a w ha (hL w hw)
theorem Has.refl : ∀ (H : List Res), Has H H
  | [] => .nil
  | r :: H => .cons .here (Has.refl H)
theorem qs_of : ∀ {Ψ : List Res}, (∀ r ∈ Ψ, r.q w) → ∀ r Φ'', Pick Ψ r Φ'' → r.q w := fun h r _ hp => h r hp.mem
/-- What lies in some resources, from now on only read, as data. -/
theorem sealed (hs : Split Φ Ψ Φ') (h : ∀ w, (∀ r Φ'', Pick Ψ r Φ'' → r.q w) → Grow W w → kd.C w A xs) : Leads B Φ (rdr W (fun k => ∃ r ∈ Ψ, r.fp k) kd A xs :: Φ') := by
  intro w hS
  have hS := hS.perm hs.perm
  obtain ⟨ok, sep⟩ := hS
  obtain ⟨h1, h2⟩ := (Sep.all _ _ _).1 sep
  obtain ⟨h3, h4, h5⟩ := List.pairwise_append.1 h2
  refine ⟨ok, (Sep.all _ _ _).2 ⟨?_, ?_⟩⟩
  · intro r hr
    rcases List.mem_cons.1 hr with rfl | hr
    · refine ⟨⟨?_, fun w' g hk => h w' (fun r Φ'' hp => r.st w w' (h1 r (List.mem_append_left _ hp.mem)).1 (fun k hf => hk k ⟨r, hp.mem, hf⟩)) g⟩, ?_⟩
      · rintro k ⟨r, hr, hf⟩
        exact r.inb w (h1 r (List.mem_append_left _ hr)).1 k hf
      · rintro k ⟨r, hr, hf⟩
        exact (h1 r (List.mem_append_left _ hr)).2 k hf
    · exact h1 r (List.mem_append_right _ hr)
  · refine List.pairwise_cons.2 ⟨?_, h4⟩
    rintro s hs k ⟨r, hr, hf⟩
    exact h5 r hr s hs k hf
theorem oSeal (Ψ : List Res) (hs : Split H Ψ H') (hC : ∀ w, (∀ r Φ'', Pick Ψ r Φ'' → r.q w) → Grow W w → kd.C w A xs) (h : ∀ S, O N rest E D (rdr W S kd A xs :: H')) : O N rest E D H :=
  oConv (sealed hs hC) (h _)
/-- A block's cells, read as elements. -/
theorem C_blk {b : Nat} {tb : TypeId} {cs : List Value} (h : (blk b tb cs).q w) (hl : xs.length ≤ 9223372036854775807) (hc : Cat kd w xs cs) : kd.C w (some ⟨b, 0, none⟩) xs := by
  refine ⟨hl, fun _ => ⟨_, rfl, fun j u hj => ?_⟩⟩
  obtain ⟨a, hK, ha⟩ := hc.at j u hj
  refine ⟨a, hK, fun i v hv => ?_⟩
  rw [add_at, Nat.zero_add, cell_of h]
  exact ha i v hv
/-- Cells as they are. -/
def kRaw (n : Nat) : Kd (List Value) where
  sz := n
  K _ x cs := cs = x ∧ x.length = n ∧ ∀ u ∈ x, u.oneCell' = true
  K_len h := by rw [h.1]; exact h.2.1
  K_one h u hu := by rw [h.1] at hu; exact h.2.2 u hu
  K_grow _ h := h
/-- Each as raw cells. -/
def Raws (kd : Kd α) (W : World) : List α → List (List Value) → Prop
  | [], rs => rs = []
  | x :: xs, rs => ∃ r rest, rs = r :: rest ∧ kd.K W x r ∧ Raws kd W xs rest
theorem Raws.length : ∀ {xs : List α} {rs : List (List Value)}, Raws kd W xs rs → rs.length = xs.length
  | [], rs, h => by rw [show rs = [] from h]; rfl
  | x :: xs, rs, ⟨r, rest, e, _, h⟩ => by rw [e, List.length_cons, List.length_cons, Raws.length h]
theorem Raws.app : ∀ {xs ys : List α} {rs qs : List (List Value)}, Raws kd W xs rs → Raws kd W ys qs → Raws kd W (xs ++ ys) (rs ++ qs)
  | [], ys, rs, qs, h, k => by rw [h]; exact k
  | x :: xs, ys, rs, qs, ⟨r, rest, e, hK, h⟩, k => ⟨r, rest ++ qs, by rw [e]; rfl, hK, h.app k⟩
theorem Raws.one {u : α} {r : List Value} (h : kd.K W u r) : Raws kd W [u] [r] := ⟨r, [], rfl, h, rfl⟩
theorem Raws.grow (g : Grow W w) : ∀ {xs : List α} {rs : List (List Value)}, Raws kd W xs rs → Raws kd w xs rs
  | [], rs, h => h
  | x :: xs, rs, ⟨r, rest, e, hK, h⟩ => ⟨r, rest, e, kd.K_grow g hK, Raws.grow g h⟩
theorem raws_of : ∀ {xs : List α} {cs : List Value}, Cat kd W xs cs → ∃ rs, Raws kd W xs rs ∧ Cat (kRaw kd.sz) W rs cs
  | [], cs, h => ⟨[], rfl, h⟩
  | x :: xs, cs, ⟨a, rest, e, hK, h⟩ => by
    obtain ⟨rs, h1, h2⟩ := raws_of h
    exact ⟨a :: rs, ⟨a, rs, rfl, hK, h1⟩, a, rest, e, ⟨rfl, kd.K_len hK, fun u hu => kd.K_one hK u hu⟩, h2⟩
theorem cat_raws : ∀ {xs : List α} {rs : List (List Value)} {cs : List Value} {n : Nat}, Raws kd W xs rs → Cat (kRaw n) w rs cs → Cat kd W xs cs
  | [], rs, cs, n, h, k => by rw [h] at k; exact k
  | x :: xs, rs, cs, n, ⟨r, rest, e, hK, h⟩, k => by
    rw [e] at k
    obtain ⟨a, cr, e2, hR, k2⟩ := k
    exact ⟨a, cr, e2, by rw [hR.1]; exact hK, cat_raws h k2⟩
/-- A row, its elements as raw cells. -/
theorem oRaw {e : TypeId} (hp : Pick H (row kd W e v xs) H') (h : ∀ rs, Raws kd W xs rs → O N rest E D (row (kRaw kd.sz) W e v rs :: H')) : O N rest E D H := fun a w ha hw => by
  obtain ⟨cs, ho, hr⟩ : (row kd W e v xs).q w := hw.get hp
  obtain ⟨rs, h1, h2⟩ := raws_of hr
  exact h rs h1 a w ha (hw.upd' hp (Chg.refl _ _) ⟨cs, by rw [h1.length]; exact ho, h2⟩ (fun k hk => .inl hk))
/-- .. and back. -/
theorem rawrow {e : TypeId} {n cp m : Nat} {rs : List (List Value)} (h : (row (kRaw m) W e (.slice A n cp) rs).q w) (hm : kd.sz = m) (hR : Raws kd w xs rs) : kd.C w A xs := by
  obtain ⟨cs, ho, hr⟩ := h
  have hq : (row kd w e (.slice A n cp) xs).q w := ⟨cs, by rw [← hR.length, hm]; exact ho, cat_raws hR hr⟩
  exact (row_C hq (Grow.refl _)).2.2.1
theorem row_len {e : TypeId} {n cp : Nat} (h : (row kd W e (.slice A n cp) xs).q w) : n = xs.length ∧ n ≤ cp := by
  obtain ⟨cs, ⟨hl, ho⟩, hr⟩ := h
  rcases ho with ⟨e1, e2⟩ | ⟨b, cap, cur, e1, _, hh, h1, h2, h3, h4⟩
  · injection e1 with e1 e3 e4; omega
  · injection e1 with e1 e3 e4; omega
/-! ### slices that are built whole -/
inductive AppL {α : Type} : List α → List α → List α → Prop
  | nil {es} : AppL [] es es
  | cons {x cs es r} : AppL cs es r → AppL (x :: cs) es (x :: r)
theorem AppL.spec {α : Type} {cs es r : List α} (h : AppL cs es r) : r = cs ++ es := by
  induction h with
  | nil => rfl
  | cons _ ih => rw [ih]; rfl
inductive Fulls (s : Nat) : Nat → List (Nat × Value) → List Value → Prop
  | nil {i : Nat} : Fulls s i [] []
  | cons {i : Nat} {v : Value} {cs es ds : List Value} {r : List (Nat × Value)} : CellsOf v cs → cs.length = s → Fulls s (i + 1) r es → AppL cs es ds → Fulls s i ((i, v) :: r) ds
theorem putL_at {α : Type} {vs : List α} : ∀ (off : Nat) (cs : List α), off + vs.length ≤ cs.length → PutL cs off vs (cs.take off ++ vs ++ cs.drop (off + vs.length))
  | 0, cs, h => by
    have key : ∀ (vs cs : List α), vs.length ≤ cs.length → PutL cs 0 vs (vs ++ cs.drop vs.length) := by
      intro vs
      induction vs with
      | nil => intro cs h; exact .done
      | cons v vs ih =>
        intro cs h
        cases cs with
        | nil => simp at h
        | cons c cs => exact .put (ih cs (by simpa using h))
    simpa using key vs cs (by simpa using h)
  | off + 1, cs, h => by
    cases cs with
    | nil => simp at h
    | cons c cs =>
      have := putL_at (vs := vs) off cs (by simp at h; omega)
      have e : (c :: cs).take (off + 1) ++ vs ++ (c :: cs).drop (off + 1 + vs.length) = c :: (cs.take off ++ vs ++ cs.drop (off + vs.length)) := by
        rw [List.take_succ_cons, show off + 1 + vs.length = (off + vs.length) + 1 by omega, List.drop_succ_cons]; rfl
      rw [e]
      exact .skip this
theorem Fulls.built {s : Nat} : ∀ {vs : List (Nat × Value)} {k : Nat} {es zs : List Value}, Fulls s k vs es → zs.length = (k + vs.length) * s → Built (fun i => some (i * s, s)) zs vs (zs.take (k * s) ++ es) ∧ es.length = vs.length * s
  | [], k, es, zs, h, hz => by
    cases h
    rw [List.append_nil, List.take_of_length_le (by rw [hz]; simp)]
    exact ⟨.nil, by simp⟩
  | (i, v) :: r, k, ds, zs, h, hz => by
    cases h with
    | cons hc hl hr ha =>
      rename_i cs es
      have hz' : zs.length = i * s + s + r.length * s := by rw [hz, List.length_cons]; simp [Nat.add_mul]; omega
      have hp := putL_at (vs := cs) (i * s) zs (by rw [hz', hl]; omega)
      have hln : (zs.take (i * s) ++ cs ++ zs.drop (i * s + cs.length)).length = (i + 1 + r.length) * s := by
        rw [List.length_append, List.length_append, List.length_take, List.length_drop, hz', hl]; simp [Nat.add_mul]; omega
      obtain ⟨h1, h2⟩ := Fulls.built hr hln
      have e : (zs.take (i * s) ++ cs ++ zs.drop (i * s + cs.length)).take ((i + 1) * s) = zs.take (i * s) ++ cs := by
        rw [List.take_append_of_le_length (by rw [List.length_append, List.length_take, hz', hl]; simp [Nat.add_mul]; omega), List.take_of_length_le]
        rw [List.length_append, List.length_take, hz', hl]; simp [Nat.add_mul]; omega
      rw [e] at h1
      rw [ha.spec]
      refine ⟨.cons (off := i * s) (s := s) rfl hc hl hp (by rw [← List.append_assoc]; exact h1), ?_⟩
      rw [List.length_append, hl, h2, List.length_cons, Nat.succ_mul]; omega
theorem oBuildSliceF {len : Nat} {ps : Array (Nat × Operand)} {vs : List (Nat × Value)} {cs : List Value} {e : TypeId} {s : Nat} {zv : Value} (hx : Parts E ps.toList vs) (ht : elemT c.P t = some (e, s)) (hz : ((c.P.info? e).map (·.zero)) = some (some zv))
    (hsm : Nat.ble (len * s) 16777216 = true) (h0 : Nat.beq (len * s) 0 = false) (hv : vs.length = len) (hf : Fulls s 0 vs cs)
    (h : ∀ b, O M.toMd rest ((d, .slice (some ⟨b, 0, none⟩) len len) :: E) D (blk b e cs :: H)) (hN : Nat.blt d c.N = true := by rfl) : O M.toMd (⟨some d, .buildSlice t len ps, ty, pos, af, none⟩ :: rest) E D H := by
  subst hv
  have hb := (hf.built (zs := ((Array.range (vs.length * s)).map (zv.cells[· % zv.cells.size]!)).toList) (by simp)).1
  rw [Nat.zero_mul, List.take_zero, List.nil_append] at hb
  exact oBuildSlice hx ht hz hsm h0 rfl hb h hN
/-! ### append of a whole slice -/
/-- The elements of a slice, as they lie. -/
def Src (kd : Kd α) (W w : World) (A : Option Addr) (ys : List α) : Prop := (0 < ys.length → ∃ ad, A = some ad) ∧ ∀ ad, A = some ad → ∃ news, Cat kd W ys news ∧ ∀ j u, news[j]? = some u → w.cell? (ad.add j) = some u
theorem cat_of_cells {ad : Addr} : ∀ {ys : List α} (n : Nat), (∀ j x, ys[j]? = some x → ∃ cs, kd.K W x cs ∧ ∀ i u, cs[i]? = some u → w.cell? (ad.add ((n + j) * kd.sz + i)) = some u) → ∃ news, Cat kd W ys news ∧ ∀ j u, news[j]? = some u → w.cell? (ad.add (n * kd.sz + j)) = some u
  | [], n, _ => ⟨[], rfl, fun j u h => by simp at h⟩
  | x :: ys, n, h => by
    obtain ⟨a, hK, ha⟩ := h 0 x rfl
    obtain ⟨news, h1, h2⟩ := cat_of_cells (ad := ad) (ys := ys) (n + 1) (fun j y hj => by
      obtain ⟨cs, k1, k2⟩ := h (j + 1) y (by simpa using hj)
      exact ⟨cs, k1, fun i u hu => by rw [show n + 1 + j = n + (j + 1) by omega]; exact k2 i u hu⟩)
    refine ⟨a ++ news, ⟨a, news, rfl, hK, h1⟩, fun j u hj => ?_⟩
    have hl := kd.K_len hK
    rcases Nat.lt_or_ge j a.length with hj' | hj'
    · rw [List.getElem?_append_left hj'] at hj
      exact ha j u hj
    · rw [List.getElem?_append_right hj'] at hj
      have := h2 _ u hj
      rwa [show (n + 1) * kd.sz + (j - a.length) = n * kd.sz + j by rw [Nat.succ_mul]; omega] at this
theorem src_C (hC : kd.C W A xs) (g : Grow W w) : Src kd W w A xs := by
  refine ⟨fun h0 => ?_, ?_⟩
  · obtain ⟨ad, e, _⟩ := hC.2 h0; exact ⟨ad, e⟩
  · rintro ad rfl
    by_cases h0 : 0 < xs.length
    · obtain ⟨ad', e, h⟩ := hC.2 h0
      injection e with e
      subst e
      obtain ⟨news, h1, h2⟩ := cat_of_cells (W := W) (w := w) (ad := ad) (ys := xs) (kd := kd) 0 (fun j x hj => by
        obtain ⟨cs, k1, k2⟩ := h j x hj
        exact ⟨cs, k1, fun i u hu => by rw [Nat.zero_add]; exact g _ _ (k2 i u hu)⟩)
      exact ⟨news, h1, fun j u hj => by have := h2 j u hj; rwa [Nat.zero_mul, Nat.zero_add] at this⟩
    · have : xs = [] := List.eq_nil_of_length_eq_zero (by omega)
      subst this
      exact ⟨[], rfl, fun j u hj => by simp at hj⟩
theorem src_row {e : TypeId} {n cp : Nat} (h : (row kd W e (.slice A n cp) xs).q w) : Src kd W w A xs := by
  obtain ⟨cs, ho, hr⟩ := h
  refine ⟨fun h0 => ?_, ?_⟩
  · obtain ⟨hl, ho⟩ := ho
    rcases ho with ⟨e1, e2⟩ | ⟨b, cap, cur, e1, _⟩
    · omega
    · injection e1 with e1; exact ⟨_, e1⟩
  · rintro ad rfl
    refine ⟨cs, hr, fun j u hj => ?_⟩
    have ho' := ho
    obtain ⟨hl, ho⟩ := ho
    rcases ho with ⟨e1, e2⟩ | ⟨b, cap, cur, e1, _⟩
    · injection e1 with e1; cases e1
    · injection e1 with e1
      injection e1 with e1
      subst e1
      exact ho'.cells (g := b) rfl j u hj
theorem src_rdr (h : (rdr W S kd A xs).q w) (g : Grow W w) : Src kd w w A xs := src_C (rdr_C h g) (Grow.refl _)
theorem oAppA {e : TypeId} {zv : Value} {s by_ m cp : Nat} {ys : List α} (hx : E.op x = some v) (hy : E.op y = some (.slice A m cp)) (ht : elemI c.P t = some (e, zv, s, by_)) (hsz : kd.sz = s)
    (hp : Pick H (row kd W e v xs) H') (hm : ys.length = m) (hsrc : ∀ w, St c.B H w → Src kd W w A ys) (hl : xs.length + m ≤ 1000000000) (hby : Nat.ble by_ 140000 = true)
    (h : ∀ A' cp', xs.length + m ≤ cp' → O M.toMd rest ((d, .slice A' (xs.length + m) cp') :: E) D (row kd W e (.slice A' (xs.length + m) cp') (xs ++ ys) :: H')) (hN : Nat.blt d c.N = true := by rfl) :
    O M.toMd (⟨some d, .call { callee := .builtin .append, args := #[x, y], argTypes := #[t, t] }, ty, pos, af, none⟩ :: rest) E D H :=
  oEff rfl hN fun a w ha hw => by
    have hb2 : by_ ≤ 140000 := Nat.le_of_ble_eq_true hby
    have hml : maxLen = 9223372036854775807 := rfl
    subst hsz
    obtain ⟨ht1, i0, hi, hz0, hz1, hz2, hzs, hsp⟩ := elemI_spec ht
    obtain ⟨cs, ho, hr⟩ : (row kd W e v xs).q w := hw.get hp
    have hlb : (xs.length + m) * by_ ≤ 140737488355328 := Nat.le_trans (Nat.mul_le_mul hl hb2) (by decide)
    obtain ⟨hs1, hs2⟩ := hsrc w hw
    cases A with
    | none =>
      have hm0 : ys = [] := by
        cases ys with
        | nil => rfl
        | cons y ys => obtain ⟨_, h⟩ := hs1 (by simp); cases h
      subst hm0
      simp only [List.length_nil] at hm
      subst hm
      obtain ⟨A', n', cp', rfl, e1, e2⟩ : ∃ A' n' cp', v = .slice A' n' cp' ∧ n' = xs.length ∧ n' ≤ cp' := by
        obtain ⟨hl, ho⟩ := ho
        rcases ho with ⟨rfl, e2⟩ | ⟨b, cap, cur, rfl, _, hh, h1, _⟩
        · exact ⟨_, _, _, rfl, e2.symm, Nat.le_refl _⟩
        · exact ⟨_, _, _, rfl, rfl, h1⟩
      subst e1
      refine ⟨.slice A' (xs.length + 0) cp', w, _, ?_, ?_, h A' cp' (by omega)⟩
      · have hrun : (Builtin.append_ #[t, t] ty #[.slice A' xs.length cp', .slice none 0 cp]).run c.P w = .ok (.slice A' (xs.length + 0) cp') w := by
          cases A' <;> simp [Builtin.append_, run_underlying ht1, sizeOf, typeInfo, hi, Builtin.lenOf, Builtin.firstCells, loadCells, loadCellsFrom, e2, storeCells]
        simp [execOp, resolve, invoke, builtin, ha.op hx, ha.op hy, hrun]
      · refine hw.upd' hp (Chg.refl _ _) ?_ (fun k hk => .inl hk)
        rw [List.append_nil, Nat.add_zero]
        exact ⟨cs, ho, hr⟩
    | some ad =>
      obtain ⟨news, hcat, hnews⟩ := hs2 ad rfl
      obtain ⟨v', w', hrun, hown, hgr, hnil, hat⟩ := run_append_own_at (P := c.P) (w := w) 0 t ty e i0 zv kd.sz by_ ht1 hi hz0 hz1 hz2 hzs hsp v xs.length cs ho ad m cp news (by rw [hcat.len, hm]) hnews hcat.ones (by omega) hlb (Nat.zero_le _)
      obtain ⟨A', cp', rfl, hcp⟩ : ∃ A' cp', v' = .slice A' (xs.length + m) cp' ∧ xs.length + m ≤ cp' := by
        obtain ⟨_, ho2⟩ := hown
        rcases ho2 with ⟨rfl, e2⟩ | ⟨g, cap, cur, rfl, _, _, h1, _⟩
        · exact ⟨_, _, by rw [e2], by omega⟩
        · exact ⟨_, _, rfl, h1⟩
      refine ⟨_, w', _, ?_, ?_, h A' cp' hcp⟩
      · simp [execOp, resolve, invoke, builtin, ha.op hx, ha.op hy, hrun]
      · refine hw.upd' hp ((Chg.of_grown hgr).mono (fun k hk => hk.symm)) ⟨cs ++ news, by rw [List.length_append, hm]; exact hown, hr.app hcat⟩ ?_
        intro k hk
        have hk : (Value.slice A' (xs.length + m) cp').ownBlock = some k := hk
        rcases hat with h1 | h1
        · exact .inl (show v.ownBlock = some k from h1 ▸ hk)
        · right; rw [h1] at hk; have := Option.some.inj hk; omega
theorem K_at {x : α} {cs : List Value} (h : kd.K W x cs) : kd.K (Base.at W).e x cs := by rw [Base.at_e]; exact h
theorem okWide_aggL {r : Reach} {base : Nat} {fs : Array Field} {v : Value} (hu : P.underlying t = some (.struct fs)) (h : Value.okWide P w r base t v) : ∃ cs : List Value, v = .agg cs.toArray := by
  unfold Value.okWide at h
  rw [hu] at h
  obtain ⟨cs, rfl, _⟩ := h
  exact ⟨cs.toList, by simp⟩
end
end Go.Proofs.YtnidmlngkpkmlaaK
