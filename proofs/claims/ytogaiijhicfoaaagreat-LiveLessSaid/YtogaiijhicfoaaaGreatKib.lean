import Derived.Test.YtogaiijhicfoaaaGreatKhc

/-
  Drawn regions, all orders one by one; slices beside nil, built of nothing, cleared, grown out of nothing.
-/
namespace Go.Proofs.YtogaiijhicfoaaaGreatK
set_option linter.unusedVariables false
set_option linter.unusedSimpArgs false
open Go.RowKit

def stepL (F : Fence) (n : Nat) (P : Program) (ops : Array Oper) (Q : Exit → Act → World → Prop) (K : Act → World → Prop) : List Oper → Act → World → Prop
  | [], a, w => K a w
  | o :: rest, a, w =>
    if Region.wanted o (yielded ops a.tmps) then o.wpIn F n P a w (stepL F n P ops Q K rest) Q
    else (∀ f, o.about P w a.eval = some f → F.fn f) ∧ stepL F n P ops Q K rest (a.put o.dst undef) w
def Me.step (c : Cx) (ops : Array Oper) (Q : Post) (K : Act → World → Prop) : Me c where
  X := stepL c.F 0 c.P ops (lift c Q) K
  ops := ops
  calm o rest a w v hw hp hr hK := by
    simp only [stepL, hw, if_true]
    exact ⟨fun f _ => c.fn f, by rw [semAt_plain' _ _ _ hp, hr]; exact hK⟩
  skip o rest a w hw hK := by
    simp only [stepL, hw]
    exact ⟨fun f _ => c.fn f, hK⟩
  want dst op ty pos af g rest a w hw h := by
    simp only [stepL] at h ⊢
    rw [if_pos hw]
    rw [if_pos (show Region.wanted { dst := dst, op := op, type := ty, pos := pos, after := af, guard := none } (yielded ops a.tmps) = true from rfl)] at h
    exact h
  eff o rest a w v w' hw hp hr hK := by
    simp only [stepL]
    rw [if_pos (show Region.wanted o (yielded ops a.tmps) = true from hw)]
    exact ⟨fun f _ => c.fn f, by rw [semAt_plain' _ _ _ hp, hr]; exact hK⟩
  effs o rest a w w' hw hp hr hK := by
    simp only [stepL]
    rw [if_pos (show Region.wanted o (yielded ops a.tmps) = true from hw)]
    exact ⟨fun f _ => c.fn f, by rw [semAt_plain' _ _ _ hp, hr]; exact hK⟩
  enter o rest a w g args w1 hw hp hr hK := by
    simp only [stepL]
    rw [if_pos (show Region.wanted o (yielded ops a.tmps) = true from hw)]
    refine ⟨fun f _ => c.fn f, ?_⟩
    rw [semAt_plain' _ _ _ hp, hr]
    refine ⟨fun h => absurd h (by rw [c.dp]; simp), (c.call hK).mono ?_⟩
    rintro e w2 ⟨v, rfl, hx⟩
    exact hx
def AN (c : Cx) (ops : Array Oper) (Q : Post) (f : Nat) (listed : Array Bool) (E : Env) (D : List Deferred) (H : List Res) : Prop := ∀ a w, Ok c.N E D a → St c.B H w → wpAnyIn c.F 0 c.P .any ops (lift c Q) f listed a w
inductive AllN (c : Cx) (ops : Array Oper) (Q : Post) (f : Nat) (listed : Array Bool) (E : Env) (D : List Deferred) (H : List Res) : List Nat → Prop
  | nil : AllN c ops Q f listed E D H []
  | cons {i : Nat} {o : Oper} {rs : List Nat} (ho : ops[i]? = some o) (h : O (Me.step c ops Q (wpAnyIn c.F 0 c.P .any ops (lift c Q) f (listed.setIfInBounds i true))).toMd [o] E D H) (k : AllN c ops Q f listed E D H rs) : AllN c ops Q f listed E D H (i :: rs)
section
variable {c : Cx} {Q : Post} {ops : Array Oper} {E : Env} {D : List Deferred} {H : List Res} {f : Nat} {listed : Array Bool}
theorem AllN.get {rs : List Nat} (h : AllN c ops Q f listed E D H rs) : ∀ i ∈ rs, ∀ a w, Ok c.N E D a → St c.B H w → wpOpIn c.F 0 c.P ops (lift c Q) i (wpAnyIn c.F 0 c.P .any ops (lift c Q) f (listed.setIfInBounds i true)) a w := by
  induction h with
  | nil => intro i hi; cases hi
  | @cons j o rs ho h k ih =>
    intro i hi a w ha hw
    rcases List.mem_cons.1 hi with rfl | hi
    · have := h a w ha hw
      simp only [Me.step, stepL] at this
      unfold wpOpIn
      rw [ho]
      exact this
    · exact ih i hi a w ha hw
theorem anMk {i : Nat} {rs : List Nat} (hr : Region.ready .any ops listed = i :: rs) (h : AllN c ops Q f listed E D H (i :: rs)) : AN c ops Q (f + 1) listed E D H := fun a w ha hw => by
  refine ⟨fun h0 => ?_, fun j hj => ?_⟩
  · rw [hr] at h0; cases h0
  · rw [hr] at hj; exact h.get j hj a w ha hw
theorem anNil (hr : Region.ready .any ops listed = []) (h : Q .normal E D H) : AN c ops Q 0 listed E D H := fun a w ha hw => ⟨hr, E, D, H, ha, hw, h, trivial⟩
theorem oStepEnd {listed' : Array Bool} (h : AN c ops Q f listed' E D H) : O (Me.step c ops Q (wpAnyIn c.F 0 c.P .any ops (lift c Q) f listed')).toMd [] E D H := fun a w ha hw => h a w ha hw
theorem wDrawN (hm : c.P.follows .mixedOrders = true) {id : Nat} {l : List Oper} {n : Nat} (hn : l.length = n) (h : AN c l.toArray Q n (Array.replicate n false) E D H) : W c (.region id l.toArray true) Q E D H := fun a w ha hw => by
  subst hn
  refine wpIn_region_any hm ?_
  exact h a w.drew ha hw.drew
end
def isSl (P : Program) (t : TypeId) : Bool := match P.underlying t with
  | some (.slice _) => true
  | _ => false
theorem run_sliceEq {P : Program} {t : TypeId} (ht : isSl P t = true) (A : Option Addr) (n cp : Nat) (w : World) : (Op.equal t (.slice A n cp) (.slice none 0 0)).run P w = .ok (decide (A = none)) w := by
  unfold isSl at ht
  cases hu : P.underlying t with
  | none => rw [hu] at ht; cases ht
  | some u =>
    rw [hu] at ht
    cases u <;> simp only [reduceCtorEq, Bool.false_eq_true] at ht
    simp only [Op.equal, Op.maxDepth]
    rw [Op.equalIn.eq_def]
    cases A <;> simp [run_underlying hu]
section
variable {c : Cx} {N : Md c} {M : Me c} {d : Nat} {ty t t' : TypeId} {pos : String} {af : Array Edge} {rest : List Oper} {E : Env} {D : List Deferred} {H H' : List Res} {x y : Operand}
theorem oEqlS {A : Option Addr} {n cp : Nat} (hx : E.op x = some (.slice A n cp)) (hy : E.op y = some (.slice none 0 0)) (ht : isSl c.P t = true) (h : O N rest ((d, .bool (decide (A = none))) :: E) D H) (hN : Nat.blt d c.N = true := by rfl) : O N (⟨some d, .binOp .eql t x y t', ty, pos, af, none⟩ :: rest) E D H :=
  oC _ rfl hN (fun a w ha hw => by
    have h1 : (eqGuard .eql t x y (.slice A n cp) (.slice none 0 0)).run c.P w = .ok () w := by unfold eqGuard; simp
    have h2 : (binOp .eql t (.slice A n cp) (.slice none 0 0)).run c.P w = .ok (.bool (decide (A = none))) w := by simp [binOp, run_sliceEq ht]
    simp [execOp, ha.op hx, ha.op hy, h1, h2]) h
theorem oCapS {A : Option Addr} {n cp : Nat} {e : TypeId} {s : Nat} (hx : E.op x = some (.slice A n cp)) (ht : elemT c.P t = some (e, s)) (h : O N rest ((d, .int .i64 (cp : Int)) :: E) D H) (hN : Nat.blt d c.N = true := by rfl) : O N (⟨some d, .call { callee := .builtin .cap, args := #[x], argTypes := #[t] }, ty, pos, af, none⟩ :: rest) E D H :=
  oC _ rfl hN (fun u w ha hw => by
    obtain ⟨h1, _⟩ := run_elemT ht
    simp [execOp, resolve, ha.op hx, invoke, builtin, Builtin.cap_, run_underlying h1, goInt]) h
theorem oBuildSlice0 {α : Type} (kd : Kd α) (W : World) {e : TypeId} {s : Nat} (ht : elemT c.P t = some (e, s)) (h : ∀ b, O M.toMd rest ((d, .slice (some ⟨b, 0, none⟩) 0 0) :: E) D (row kd W e (.slice (some ⟨b, 0, none⟩) 0 0) [] :: H)) (hN : Nat.blt d c.N = true := by rfl) : O M.toMd (⟨some d, .buildSlice t 0 #[], ty, pos, af, none⟩ :: rest) E D H :=
  oEff rfl hN fun a w ha hw => by
    obtain ⟨ht1, inf, hi1, hs⟩ := run_elemT ht
    refine ⟨_, w.alloc (.cells #[] e), _, ?_, ?_, h w.heap.size⟩
    · simp [execOp, Instr.buildSlice, run_underlying ht1, sizeOf, typeInfo, hi1, hs, Instr.fill, newRow]
      rw [show Array.map (fun _ => (default : Value)) (Array.range 0) = #[] from Array.eq_empty_of_size_eq_zero (by simp)]
    · exact hw.add (Chg.alloc _ _ _) ⟨[], World.ownsRow_made w #[] 0 (Nat.zero_le _) (by decide) (by simp), rfl⟩ (fun k hk => by
        have hk : some w.heap.size = some k := hk
        injection hk with hk; omega)
theorem oSliceV {k : IntKind} {A : Option Addr} {n cp m s : Nat} {e' : TypeId} (hx : E.op x = some (.slice A n cp)) (hy : E.op y = some (.int k (m : Int))) (hm : m ≤ n) (hnc : n ≤ cp) (ht : elemT c.P t = some (e', s))
    (h : O N rest ((d, .slice (if cp = m then A else A.map (·.add (m * s))) (n - m) (cp - m)) :: E) D H) (hN : Nat.blt d c.N = true := by rfl) : O N (⟨some d, .slice t x (some y) none none, ty, pos, af, none⟩ :: rest) E D H :=
  oC _ rfl hN (fun a w ha hw => by
    obtain ⟨h1, inf, h2, h3⟩ := run_elemT ht
    simp [execOp, ha.op hx, ha.op hy, Instr.sliceAt, Instr.slice, run_underlying h1, Instr.sliceBounds, Instr.sliceBound, asIntOf, hm, sizeOf, typeInfo, h2, h3]) h
theorem zeroCells_rep (z : Value) (n : Nat) : (Builtin.zeroCells #[z] n).toList = List.replicate n z := by
  apply List.ext_getElem?
  intro j
  by_cases hj : j < n
  · simp [Builtin.zeroCells, List.getElem?_replicate, List.getElem?_range, hj, Nat.mod_one]
  · simp [Builtin.zeroCells, List.getElem?_replicate, List.getElem?_eq_none, Nat.not_lt.1 hj, hj]
theorem oClear {α : Type} {enc : α → Value} {h1 : ∀ x, (enc x).oneCell' = true} {W : World} {e : TypeId} {zv : Value} {by_ : Nat} {A : Option Addr} {n cp m : Nat} {xs : List α} (u : α) (hx : E.op x = some (.slice (if cp = m then A else A.map (·.add (m * 1))) (n - m) (cp - m))) (hm : m ≤ n) (ht : elemI c.P t = some (e, zv, 1, by_)) (hz : zv.cells = #[enc u])
    (hp : Pick H (row (Kd.scalar enc h1) W e (.slice A n cp) xs) H') (h : O M.toMd rest E D (row (Kd.scalar enc h1) W e (.slice A n cp) (xs.take m ++ List.replicate (n - m) u) :: H')) : O M.toMd (⟨none, .call { callee := .builtin .clear, args := #[x], argTypes := #[t] }, ty, pos, af, none⟩ :: rest) E D H := by
  intro a w ha hw
  obtain ⟨ht1, i0, hi, hz0, hz1, hz2, hzs, hsp⟩ := elemI_spec ht
  obtain ⟨cs0, ⟨hl, ho⟩, hr⟩ : (row (Kd.scalar enc h1) W e (.slice A n cp) xs).q w := hw.get hp
  have hcs := Cat.scal.1 hr
  have es : (Kd.scalar enc h1).sz = 1 := rfl
  rw [es] at hl ho
  have key : ∃ w', (Builtin.clear_ #[t] ty #[.slice (if cp = m then A else A.map (·.add (m * 1))) (n - m) (cp - m)]).run c.P w = .ok (.tuple #[]) w' ∧ St c.B (row (Kd.scalar enc h1) W e (.slice A n cp) (xs.take m ++ List.replicate (n - m) u) :: H') w' := by
    by_cases hnm : n = m
    · subst hnm
      refine ⟨w, ?_, ?_⟩
      · rw [Nat.sub_self]
        simp only [Builtin.clear_, Sem.run_bind]
        cases (if cp = n then A else A.map (·.add (n * 1))) <;> simp [run_underlying ht1]
      · have hn : xs.length = n := by
          rcases ho with ⟨e1, e2⟩ | ⟨g, cap, cur, e1, _⟩
          · injection e1 with _ e1 _; omega
          · injection e1 with _ e1 _; omega
        rw [Nat.sub_self, List.replicate_zero, List.append_nil, List.take_of_length_le (by omega)]
        exact hw.perm hp.perm
    · rcases ho with ⟨e1, e2⟩ | ⟨g, cap, cur, e1, _, hb, g2, g3, g4, g5⟩
      · injection e1 with _ e1 _; omega
      · injection e1 with e1 e2 e3
        subst e1 e2 e3
        rw [Nat.mul_one] at g4 g5 hl
        rw [if_neg (show ¬ cp = m by omega)]
        have hb' : w.heap[g]? = some (.cells cur.toList.toArray e (0, 0)) := by simpa using hb
        have hcl : cur.toList.length = cp := by simpa using g4
        have had : (⟨g, 0, none⟩ : Addr).add (m * 1) = ⟨g, m, none⟩ := by rw [add_at]; simp
        have hrun := run_storeCells_cells (P := c.P) g m (List.replicate (xs.length - m) (enc u)) 0 w (fun j hj => by
            rw [List.length_replicate] at hj
            rw [cell_of hb', List.getElem?_eq_getElem (by omega)]; rfl) (fun j hj => frozen_of hb) (fun v hv => by rw [(List.mem_replicate.1 hv).2]; exact h1 _)
        refine ⟨w.setCells g m (List.replicate (xs.length - m) (enc u)), ?_, ?_⟩
        · have h3 : ∃ k, xs.length - m = k + 1 := ⟨xs.length - m - 1, by omega⟩
          obtain ⟨k, hk⟩ := h3
          rw [hk] at hrun
          have had' : (⟨g, 0, none⟩ : Addr).add m = ⟨g, m, none⟩ := by rw [add_at]; simp
          simp [Builtin.clear_, run_underlying ht1, had', hk, zeroValue, typeInfo, hi, hz0, hz, zeroCells_rep, hrun]
        · have hL : (xs.take m ++ List.replicate (xs.length - m) u).length = xs.length := by rw [List.length_append, List.length_take, List.length_replicate]; omega
          refine hw.upd' hp ((setCells_chg _ _ _).mono (fun k hk => by subst hk; rfl)) ⟨(xs.take m ++ List.replicate (xs.length - m) u).map enc, ⟨by rw [es, List.length_map, Nat.mul_one], .inr ⟨g, cp, _, by rw [hL], Nat.zero_le _, setCells_heap _ m w _ hb', by rw [hL]; omega, g3, ?_, ?_⟩⟩, Cat.scal.2 rfl⟩ (fun k hk => .inl hk)
          · rw [setL_eq _ _ _ (by rw [List.length_replicate]; omega)]; simp [es]; omega
          · rw [es, Nat.mul_one, hL]
            show (setL cur.toList m (List.replicate (xs.length - m) (enc u))).take xs.length = _
            rw [setL_eq _ _ _ (by rw [List.length_replicate]; omega), List.map_append, List.map_replicate, List.map_take, ← hcs, ← g5, List.take_take, Nat.min_eq_left hm]
            rw [List.take_append_of_le_length (by rw [List.length_append, List.length_take, List.length_replicate]; omega), List.take_of_length_le (by rw [List.length_append, List.length_take, List.length_replicate]; omega)]
  obtain ⟨w', hrun, hS'⟩ := key
  simp only [Nat.mul_one] at hrun hx
  exact M.eff _ _ _ _ (.tuple #[]) w' rfl rfl (by simp [execOp, resolve, invoke, builtin, ha.fit.op hx, hrun]) (h _ _ ha hS')
set_option maxRecDepth 100000 in
theorem oAppZ {α : Type} {kd : Kd α} {W : World} {e : TypeId} {zv zc : Value} {by_ n : Nat} {k : IntKind} (u : α) (hx : E.op x = some (.slice none 0 0)) (hy : E.op y = some (.int .i64 (n : Int))) (h0 : 0 < n) (ht : elemI c.P t = some (e, zv, 1, by_)) (hk : c.P.underlying t' = some (.int k)) (hsz : kd.sz = 1) (hzc : zv.cells = #[zc]) (hK : kd.K W u [zc]) (hl : n ≤ 1000000000) (hby : Nat.ble by_ 140000 = true)
    (h : ∀ g cp, O M.toMd rest ((d, .slice (some ⟨g, 0, none⟩) n cp) :: E) D (row kd W e (.slice (some ⟨g, 0, none⟩) n cp) (List.replicate n u) :: H)) (hN : Nat.blt d c.N = true := by rfl) :
    O M.toMd (⟨some d, .call { callee := .builtin .append, args := #[x, y], argTypes := #[t, t'] }, ty, pos, af, none⟩ :: rest) E D H :=
  oEff rfl hN fun a w ha hw => by
    obtain ⟨ht1, i0, hi, hz0, hz1, hz2, hzs, hsp⟩ := elemI_spec ht
    have hb2 : by_ ≤ 140000 := Nat.le_of_ble_eq_true hby
    have hlb : n * i0.bytes ≤ 140737488355328 := by
      rw [hz2]
      exact Nat.le_trans (Nat.mul_le_mul hl hb2) (by decide)
    have hml : maxLen = 9223372036854775807 := rfl
    have hn0 : n ≠ 0 := by omega
    have hw64 : IntKind.i64.wrap (n : Int) = (n : Int) := wrap_in ⟨by omega, by omega⟩
    have h48 : ¬ (281474976710656 < (n : Int) * (i0.bytes : Int)) := by
      rw [← Int.natCast_mul]; omega
    have h48' : ¬ (281474976710656 < Builtin.nextslicecap n 0 * i0.bytes) := by rw [nextslicecap_zero h0]; omega
    have h63' : ¬ (9223372036854775807 < (n : Int)) := by omega
    have hneg : ¬ ((n : Int) < 0) := by omega
    have hrun : (Builtin.append_ #[t, t'] ty #[.slice none 0 0, .int .i64 (n : Int)]).run c.P w = .ok (.slice (some ⟨w.heap.size, 0, none⟩) n (grownCap w n 0 e)) (w.drew.alloc (.cells (Builtin.zeroCells zv.cells n ++ Builtin.zeroCells zv.cells (grownCap w n 0 e - n)) e)) := by
      simp [Builtin.append_, run_underlying ht1, run_underlying hk, sizeOf, typeInfo, zeroValue, hi, hz0, hz1, asInt, asIntOf, hw64, hneg, h48, hn0, h63', h48', Question.forced, run_firstCells_none, newRow, grownCap]
    obtain ⟨hc1, hc2⟩ : n ≤ grownCap w n 0 e ∧ grownCap w n 0 e ≤ maxLen := ⟨grownCap_ge _ _ _ _, grownCap_le_maxLen _ _ _ _ (by omega)⟩
    refine ⟨_, w.drew.alloc (.cells (Builtin.zeroCells zv.cells n ++ Builtin.zeroCells zv.cells (grownCap w n 0 e - n)) e), _, ?_, ?_, h w.heap.size (grownCap w n 0 e)⟩
    · simp [execOp, resolve, invoke, builtin, ha.op hx, ha.op hy, hrun]
    · have hzl : ∀ m, (Builtin.zeroCells zv.cells m).toList = List.replicate m zc := fun m => by rw [hzc]; exact zeroCells_rep zc m
      have hzs2 : ∀ m, (Builtin.zeroCells zv.cells m).size = m := fun m => by rw [← Array.length_toList, hzl, List.length_replicate]
      refine hw.drew.add (Chg.alloc _ _ _) ⟨List.replicate n zc, ⟨by rw [List.length_replicate, List.length_replicate, hsz, Nat.mul_one], .inr ⟨w.heap.size, grownCap w n 0 e, _, by rw [List.length_replicate], Nat.zero_le _, World.alloc_heap_new w.drew _, by rw [List.length_replicate]; exact hc1, hc2, by rw [hsz, Nat.mul_one, Array.size_append, hzs2, hzs2]; omega, ?_⟩⟩, Cat.reps hK n⟩ ?_
      · rw [hsz, Nat.mul_one, List.length_replicate, Array.toList_append, hzl, hzl, List.take_append_of_le_length (by rw [List.length_replicate]; exact Nat.le_refl _), List.take_of_length_le (by rw [List.length_replicate]; exact Nat.le_refl _)]
      · intro k hk
        have hk : some w.heap.size = some k := hk
        injection hk with hk
        show w.drew.heap.size ≤ k
        rw [← hk]; exact Nat.le_refl _
end
end Go.Proofs.YtogaiijhicfoaaaGreatK
