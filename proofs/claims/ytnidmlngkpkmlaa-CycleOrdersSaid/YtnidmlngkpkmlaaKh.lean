/-
  The walk's rules: ways out of a piece of code; pointers against nil; maps; stores into rows; a slice's beginning; methods of an interface's value.
-/
import Derived.Test.YtnidmlngkpkmlaaKg
namespace Go.Proofs.YtnidmlngkpkmlaaK
set_option linter.unusedVariables false
set_option linter.unusedSimpArgs false
open Go.RowKit
section
variable {K : Env → List Deferred → List Res → Prop} {Q : Post} {E : Env} {D : List Deferred} {H : List Res} {id i : Nat}
theorem thn_n (h : K E D H) : thn K Q .normal E D H := h
theorem thn_r (h : Q .ret E D H) : thn K Q .ret E D H := h
theorem thn_x (h : Q (.exit i) E D H) : thn K Q (.exit i) E D H := h
theorem blk_n (h : Q .normal E D H) : inBlk id Q .normal E D H := h
theorem blk_r (h : Q .ret E D H) : inBlk id Q .ret E D H := h
theorem blk_x (h : Q .normal E D H) : inBlk id Q (.exit id) E D H := by
  show (bif Nat.beq id id then Q .normal E D H else Q (.exit id) E D H)
  rw [Nat.beq_refl]; exact h
theorem blk_y (hi : Nat.beq i id = false) (h : Q (.exit i) E D H) : inBlk id Q (.exit i) E D H := by
  show (bif Nat.beq i id then Q .normal E D H else Q (.exit i) E D H)
  rw [hi]; exact h
theorem fin_n {P : Program} {rs : List ResultVar} {R : Value → List Res → Prop} (h : D = [] ∧ ∃ vs, ResL P E H rs vs ∧ R (resVal vs) H) : fin P rs R .normal E D H := h
theorem fin_r {P : Program} {rs : List ResultVar} {R : Value → List Res → Prop} (h : D = [] ∧ ∃ vs, ResL P E H rs vs ∧ R (resVal vs) H) : fin P rs R .ret E D H := h
end
section
variable {c : Cx} {N : Md c} {M : Me c} {d : Nat} {ty : TypeId} {pos : String} {af : Array Edge} {rest : List Oper} {E : Env} {D : List Deferred} {H H' H'' : List Res} {v : Value} {x y z : Operand} {k : IntKind} {t t' : TypeId}
variable {B : Base} {w w' : World} {Φ Φ' Φ'' Ψ : List Res} {P : Program}
theorem oPickB {p : Bool} {q r : Prop} [Decidable q] [Decidable r] (hx : E.op x = some (.bool p)) (hy : E.op y = some (.bool (decide q))) (hz : E.op z = some (.bool (decide r))) (h : O N rest ((d, .bool (decide (if p then q else r))) :: E) D H) (hN : Nat.blt d c.N = true := by rfl) : O N (⟨some d, .pick x y z, ty, pos, af, none⟩ :: rest) E D H :=
  oC _ rfl hN (fun a w ha hw => by cases p <;> simp [execOp, ha.op hx, ha.op hy, ha.op hz, asBool]) h

/-! ### pointers and nil -/
def isPtr (P : Program) (t : TypeId) : Bool := match P.underlying t with
  | some (.pointer _) => true
  | _ => false
theorem run_ptrEq {t : TypeId} (ht : isPtr P t = true) (A : Option Addr) (w : World) : (Op.equal t (.pointer A) (.pointer none)).run P w = .ok (decide (A = none)) w := by
  unfold isPtr at ht
  cases hu : P.underlying t with
  | none => rw [hu] at ht; cases ht
  | some u =>
    rw [hu] at ht
    cases u <;> simp only [reduceCtorEq, Bool.false_eq_true] at ht
    simp only [Op.equal, Op.maxDepth]
    rw [Op.equalIn.eq_def]
    cases A <;> simp [run_underlying hu]
theorem oEqlP {A : Option Addr} (hx : E.op x = some (.pointer A)) (hy : E.op y = some (.pointer none)) (ht : isPtr c.P t = true) (h : O N rest ((d, .bool (decide (A = none))) :: E) D H) (hN : Nat.blt d c.N = true := by rfl) : O N (⟨some d, .binOp .eql t x y t', ty, pos, af, none⟩ :: rest) E D H :=
  oC _ rfl hN (fun a w ha hw => by
    have h1 : (eqGuard .eql t x y (.pointer A) (.pointer none)).run c.P w = .ok () w := by unfold eqGuard; simp
    have h2 : (binOp .eql t (.pointer A) (.pointer none)).run c.P w = .ok (.bool (decide (A = none))) w := by simp [binOp, run_ptrEq ht]
    simp [execOp, ha.op hx, ha.op hy, h1, h2]) h
theorem oNeqP {A : Option Addr} (hx : E.op x = some (.pointer A)) (hy : E.op y = some (.pointer none)) (ht : isPtr c.P t = true) (h : O N rest ((d, .bool (decide (¬ A = none))) :: E) D H) (hN : Nat.blt d c.N = true := by rfl) : O N (⟨some d, .binOp .neq t x y t', ty, pos, af, none⟩ :: rest) E D H :=
  oC _ rfl hN (fun a w ha hw => by
    have h1 : (eqGuard .neq t x y (.pointer A) (.pointer none)).run c.P w = .ok () w := by unfold eqGuard; simp
    have h2 : (binOp .neq t (.pointer A) (.pointer none)).run c.P w = .ok (.bool (decide (¬ A = none))) w := by simp [binOp, run_ptrEq ht]
    simp [execOp, ha.op hx, ha.op hy, h1, h2]) h

/-! ### bools compared -/
def isBool (P : Program) (t : TypeId) : Bool := match P.underlying t with
  | some .bool => true
  | _ => false
theorem run_boolEq {t : TypeId} (ht : isBool P t = true) (p q : Bool) (w : World) : (Op.equal t (.bool p) (.bool q)).run P w = .ok (p == q) w := by
  unfold isBool at ht
  cases hu : P.underlying t with
  | none => rw [hu] at ht; cases ht
  | some u =>
    rw [hu] at ht
    cases u <;> simp only [reduceCtorEq, Bool.false_eq_true] at ht
    simp only [Op.equal, Op.maxDepth]
    rw [Op.equalIn.eq_def]
    simp [run_underlying hu]
theorem oEqlBool {p q : Bool} (hx : E.op x = some (.bool p)) (hy : E.op y = some (.bool q)) (ht : isBool c.P t = true) (h : O N rest ((d, .bool (decide (p = q))) :: E) D H) (hN : Nat.blt d c.N = true := by rfl) : O N (⟨some d, .binOp .eql t x y t', ty, pos, af, none⟩ :: rest) E D H :=
  oC _ rfl hN (fun a w ha hw => by
    have h1 : (eqGuard .eql t x y (.bool p) (.bool q)).run c.P w = .ok () w := by unfold eqGuard; simp
    have h2 : (binOp .eql t (.bool p) (.bool q)).run c.P w = .ok (.bool (decide (p = q))) w := by
      simp [binOp, run_boolEq ht]; cases p <;> cases q <;> rfl
    simp only [execOp, ha.op hx, ha.op hy, Sem.run_bind, h1, Result.andThen_ok, h2, Sem.run_pure]) h
theorem oNeqBool {p q : Bool} (hx : E.op x = some (.bool p)) (hy : E.op y = some (.bool q)) (ht : isBool c.P t = true) (h : O N rest ((d, .bool (decide (¬ p = q))) :: E) D H) (hN : Nat.blt d c.N = true := by rfl) : O N (⟨some d, .binOp .neq t x y t', ty, pos, af, none⟩ :: rest) E D H :=
  oC _ rfl hN (fun a w ha hw => by
    have h1 : (eqGuard .neq t x y (.bool p) (.bool q)).run c.P w = .ok () w := by unfold eqGuard; simp
    have h2 : (binOp .neq t (.bool p) (.bool q)).run c.P w = .ok (.bool (decide (¬ p = q))) w := by
      simp [binOp, run_boolEq ht]; cases p <;> cases q <;> rfl
    simp only [execOp, ha.op hx, ha.op hy, Sem.run_bind, h1, Result.andThen_ok, h2, Sem.run_pure]) h

/-! ### maps -/
/-- Keys that the model compares at once. -/
structure KeyE (κ : Type) [DecidableEq κ] (enc : κ → Value) (d : TypeDesc) : Prop where
  same : ∀ a b, Instr.sameNow d (enc a) (enc b) = some (decide (a = b))
  bits : ∀ a, Instr.sameBits 10000 (enc a) (enc a) = true
  check : ∀ (e : Bool) (P : Program) (t : TypeId) (a : κ) (w : World), P.underlying t = some d → (Instr.checkKey e 10000 t (enc a)).run P w = .ok () w
theorem ba_beq (a b : ByteArray) : (a == b) = decide (a = b) := by
  rw [Bool.eq_iff_iff]
  cases a with | mk x => cases b with | mk y =>
  show (x == y) = true ↔ _
  simp
theorem keyE_str : KeyE ByteArray Value.string .string where
  same a b := by simp [Instr.sameNow, ba_beq]
  bits a := by rw [Instr.sameBits.eq_def]; simp [ba_beq]
  check e P t a w h := by rw [Instr.checkKey.eq_def]; simp only []; rw [Sem.run_bind, run_underlying h]; rfl
theorem keyE_int (k : IntKind) : KeyE Int (Value.int k) (.int k) where
  same a b := by simp [Instr.sameNow]; rfl
  bits a := by rw [Instr.sameBits.eq_def]; simp
  check e P t a w h := by rw [Instr.checkKey.eq_def]; simp only []; rw [Sem.run_bind, run_underlying h]; rfl
section
variable {κ β : Type} [DecidableEq κ] {enc : κ → Value} {ev : β → Value} {kd : TypeDesc}
def mget (L : List (κ × β)) (k : κ) : Option β := (L.find? (fun p => p.1 = k)).map (·.2)
def mset : List (κ × β) → κ → β → List (κ × β)
  | [], k, v => [(k, v)]
  | p :: L, k, v => if p.1 = k then (k, v) :: L else p :: mset L k v
def mdel : List (κ × β) → κ → List (κ × β)
  | [], _ => []
  | p :: L, k => if p.1 = k then L else p :: mdel L k
def Tells (enc : κ → Value) (ev : β → Value) (es : List MapEntry) (L : List (κ × β)) : Prop := es.map (fun e => (e.key, e.val)) = L.map (fun p => (enc p.1, ev p.2))
theorem findNow_tells (K : KeyE κ enc kd) (k : κ) : ∀ (es : List MapEntry) (L : List (κ × β)) (i : Nat), Tells enc ev es L →
    (mget L k = none ∧ Instr.findNow kd (enc k) es i = some none ∧ (mset L k = fun v => L ++ [(k, v)]) ∧ mdel L k = L) ∨
    (∃ j v, mget L k = some v ∧ Instr.findNow kd (enc k) es i = some (some (i + j, ev v)) ∧ (es[j]?.map (·.key)) = some (enc k) ∧
      (∀ u, Tells enc ev (es.modify j fun e => { e with key := enc k, val := ev u }) (mset L k u)) ∧ Tells enc ev (es.eraseIdx j) (mdel L k)) := by
  intro es
  induction es with
  | nil =>
    intro L i h
    cases L with
    | nil => exact .inl ⟨rfl, rfl, rfl, rfl⟩
    | cons p L => simp [Tells] at h
  | cons e es ih =>
    intro L i h
    cases L with
    | nil => simp [Tells] at h
    | cons p L =>
      have hp : e.key = enc p.1 ∧ e.val = ev p.2 ∧ Tells enc ev es L := by simpa [Tells, and_assoc] using h
      obtain ⟨h1, h2, h3⟩ := hp
      by_cases hk : p.1 = k
      · refine .inr ⟨0, p.2, by simp [mget, hk], ?_, by simp [h1, hk], fun u => ?_, ?_⟩
        · rw [Instr.findNow, h1, K.same]; simp [hk, h2]
        · simp [Tells, mset, hk]; exact h3
        · simpa [mdel, hk] using h3
      · have hs : Instr.sameNow kd (enc k) e.key = some false := by rw [h1, K.same]; simp; exact fun h => hk h.symm
        rcases ih L (i + 1) h3 with ⟨a, b, c, f⟩ | ⟨j, v, a, b, c, f, g⟩
        · refine .inl ⟨by simpa [mget, hk] using a, by rw [Instr.findNow, hs]; exact b, ?_, ?_⟩
          · funext v; simp [mset, hk, c]
          · simp [mdel, hk, f]
        · refine .inr ⟨j + 1, v, by simpa [mget, hk] using a, ?_, by simpa using c, fun u => ?_, ?_⟩
          · rw [Instr.findNow, hs]; simp only []; rw [b]; simp; omega
          · have := f u; simp only [Tells, List.modify_succ_cons, List.map_cons, mset, if_neg hk] at this ⊢; rw [this, h1, h2]
          · have := g; simp only [Tells, List.eraseIdx_cons_succ, List.map_cons, mdel, if_neg hk] at this ⊢; rw [this, h1, h2]
theorem mget_mset (L : List (κ × β)) (k k' : κ) (v : β) : mget (mset L k v) k' = if k' = k then some v else mget L k' := by
  induction L with
  | nil => by_cases h : k' = k <;> simp [mset, mget, h, eq_comm]
  | cons p L ih =>
    simp only [mset]
    by_cases hp : p.1 = k
    · rw [if_pos hp]
      by_cases h : k' = k
      · simp [mget, h]
      · simp [mget, h, hp, show ¬ k = k' from fun e => h e.symm]
    · rw [if_neg hp]
      by_cases h : p.1 = k'
      · have : ¬ k' = k := fun e => hp (h.trans e)
        simp [mget, h, this]
      · have e1 : mget (p :: mset L k v) k' = mget (mset L k v) k' := by simp [mget, h]
        have e2 : mget (p :: L) k' = mget L k' := by simp [mget, h]
        rw [e1, e2, ih]
/-- A map of the call's own, as a function; its keys, each once. -/
def kmap (enc : κ → Value) (ev : β → Value) (b : Nat) (m : κ → Option β) : Res where
  fp k := k = b
  q w := ∃ es clk L, w.heap[b]? = some (.map es clk) ∧ Tells enc ev es.toList L ∧ (L.map (·.1)).Nodup ∧ ∀ k, mget L k = m k
  inb w h k hk := by obtain ⟨es, clk, L, h, _⟩ := h; subst hk; exact (Array.getElem?_eq_some_iff.1 h).1
  st w w' h hk := by obtain ⟨es, clk, L, h, ht⟩ := h; exact ⟨es, clk, L, (hk b rfl).trans h, ht⟩
theorem mset_keys (L : List (κ × β)) (k : κ) (v : β) : (mset L k v).map (·.1) = if k ∈ L.map (·.1) then L.map (·.1) else L.map (·.1) ++ [k] := by
  induction L with
  | nil => simp [mset]
  | cons p L ih =>
    simp only [mset]
    by_cases hp : p.1 = k
    · simp [hp]
    · rw [if_neg hp, List.map_cons, ih, List.map_cons]
      by_cases hm : k ∈ L.map (·.1)
      · rw [if_pos hm, if_pos (List.mem_cons_of_mem _ hm)]
      · rw [if_neg hm, if_neg (by
          intro h
          rcases List.mem_cons.1 h with h | h
          · exact hp h.symm
          · exact hm h)]
        rfl
theorem mset_nodup {L : List (κ × β)} (h : (L.map (·.1)).Nodup) (k : κ) (v : β) : ((mset L k v).map (·.1)).Nodup := by
  rw [mset_keys]
  split
  · exact h
  · rename_i hk
    exact List.nodup_append.2 ⟨h, by simp, fun a ha b hb => by simp at hb; subst hb; rintro rfl; exact hk ha⟩
theorem mget_none_of {L : List (κ × β)} {k : κ} (h : k ∉ L.map (·.1)) : mget L k = none := by
  unfold mget
  rw [List.find?_eq_none.2]
  · rfl
  · intro p hp he
    simp at he
    exact h (he ▸ List.mem_map_of_mem hp)
theorem mdel_sub (L : List (κ × β)) (k : κ) : ∀ p ∈ mdel L k, p ∈ L := by
  induction L with
  | nil => simp [mdel]
  | cons q L ih =>
    intro p hp
    simp only [mdel] at hp
    split at hp
    · exact List.mem_cons_of_mem _ hp
    · rcases List.mem_cons.1 hp with h | h
      · exact h ▸ List.mem_cons_self
      · exact List.mem_cons_of_mem _ (ih p h)
theorem mdel_nodup {L : List (κ × β)} (h : (L.map (·.1)).Nodup) (k : κ) : ((mdel L k).map (·.1)).Nodup := by
  induction L with
  | nil => simp [mdel]
  | cons p L ih =>
    rw [List.map_cons, List.nodup_cons] at h
    simp only [mdel]
    split
    · exact h.2
    · rw [List.map_cons, List.nodup_cons]
      refine ⟨fun hm => ?_, ih h.2⟩
      obtain ⟨q, hq, he⟩ := List.mem_map.1 hm
      exact h.1 (he ▸ List.mem_map_of_mem (mdel_sub L k q hq))
theorem mget_mdel {L : List (κ × β)} (h : (L.map (·.1)).Nodup) (k k' : κ) : mget (mdel L k) k' = if k' = k then none else mget L k' := by
  induction L with
  | nil => simp [mdel, mget]
  | cons p L ih =>
    rw [List.map_cons, List.nodup_cons] at h
    simp only [mdel]
    by_cases hp : p.1 = k
    · rw [if_pos hp]
      by_cases hk : k' = k
      · rw [if_pos hk]; subst hk; exact mget_none_of (hp ▸ h.1)
      · rw [if_neg hk]; simp [mget, hp, show ¬ k = k' from fun e => hk e.symm]
    · rw [if_neg hp]
      by_cases hq : p.1 = k'
      · have : ¬ k' = k := fun e => hp (hq.trans e)
        simp [mget, hq, this]
      · have e1 : mget (p :: mdel L k) k' = mget (mdel L k) k' := by simp [mget, hq]
        have e2 : mget (p :: L) k' = mget L k' := by simp [mget, hq]
        rw [e1, e2, ih h.2]
theorem run_getMap {b : Nat} {es : Array MapEntry} {clk : Nat} (h : w.heap[b]? = some (.map es clk)) : (getObj b).run P w = .ok (.map es clk) w := by
  simp [getObj, Sem.run, h]
theorem run_setMap {b : Nat} {es : Array MapEntry} {clk : Nat} (o : Obj) (h : w.heap[b]? = some (.map es clk)) : (setObj b o).run P w = .ok () (w.putObj b o) := by
  simp [setObj, Sem.run, h, World.putObj]
theorem oMakeMap (enc : κ → Value) (ev : β → Value) (h : ∀ b, O M.toMd rest ((d, .map (some b)) :: E) D (kmap enc ev b (fun _ => none) :: H)) (hN : Nat.blt d c.N = true := by rfl) : O M.toMd (⟨some d, .makeMap t none, ty, pos, af, none⟩ :: rest) E D H :=
  oEff rfl hN fun a w ha hw => by
    refine ⟨.map (some w.heap.size), w.alloc (.map #[] 0), _, ?_, ?_, h w.heap.size⟩
    · simp [execOp, Instr.makeMap]
    · exact hw.add (Chg.alloc _ _ _) ⟨#[], 0, [], World.alloc_heap_new w _, rfl, by simp, fun _ => rfl⟩ (fun k hk => by have : k = w.heap.size := hk; omega)
/-- A map's types. -/
def mapT (P : Program) (t : TypeId) : Option (TypeId × TypeDesc × Value) := match P.underlying t with
  | some (.map kt et) => match P.underlying kt with
    | some kd => match P.info? et with
      | some i => match i.zero with
        | some z => some (kt, kd, z)
        | none => none
      | none => none
    | none => none
  | _ => none
theorem mapT_spec {kt : TypeId} {z : Value} (h : mapT P t = some (kt, kd, z)) : ∃ et i, P.underlying t = some (.map kt et) ∧ P.underlying kt = some kd ∧ P.info? et = some i ∧ i.zero = some z := by
  unfold mapT at h
  cases hu : P.underlying t with
  | none => rw [hu] at h; cases h
  | some u =>
    rw [hu] at h
    cases u with
    | map kt' et =>
      simp only [] at h
      cases hk : P.underlying kt' with
      | none => rw [hk] at h; cases h
      | some kd' =>
        rw [hk] at h
        simp only [] at h
        cases hi : P.info? et with
        | none => rw [hi] at h; cases h
        | some i =>
          rw [hi] at h
          simp only [] at h
          cases hz : i.zero with
          | none => rw [hz] at h; cases h
          | some z' =>
            rw [hz] at h
            simp only [Option.some.injEq, Prod.mk.injEq] at h
            obtain ⟨rfl, rfl, rfl⟩ := h
            exact ⟨et, i, rfl, hk, hi, hz⟩
    | _ => cases h
theorem run_lookup (K : KeyE κ enc kd) {kt : TypeId} {zv : Value} (ht : mapT P t = some (kt, kd, zv)) {b : Nat} {m : κ → Option β} (hm : (kmap enc ev b m).q w) (k : κ) (ok : Bool) :
    (Instr.lookup t (.map (some b)) (enc k) ok).run P w = .ok (if ok then .tuple #[((m k).map ev).getD zv, .bool (m k).isSome] else ((m k).map ev).getD zv) w := by
  obtain ⟨es, clk, L, hb, hT, _, hL⟩ := hm
  obtain ⟨et, i, h1, h2, hi, hz⟩ := mapT_spec ht
  rcases findNow_tells K k es.toList L 0 hT with ⟨g1, g2, _⟩ | ⟨j, v, g1, g2, _⟩
  · rw [hL] at g1
    simp [Instr.lookup, run_underlying h1, run_underlying h2, run_getMap hb, K.check _ P kt k w h2, Instr.findKey, g2, g1, zeroValue, typeInfo, hi, hz]
  · rw [hL] at g1
    simp [Instr.lookup, run_underlying h1, run_underlying h2, run_getMap hb, K.check _ P kt k w h2, Instr.findKey, g2, g1]
theorem oLook (K : KeyE κ enc kd) {kt : TypeId} {zv : Value} {b : Nat} {m : κ → Option β} {k : κ} (hx : E.op x = some (.map (some b))) (hy : E.op y = some (enc k)) (ht : mapT c.P t = some (kt, kd, zv)) (hp : Pick H (kmap enc ev b m) H') {r : Value} (hr : ((m k).map ev).getD zv = r)
    (h : O N rest ((d, r) :: E) D H) (hN : Nat.blt d c.N = true := by rfl) : O N (⟨some d, .lookup t x y false, ty, pos, af, none⟩ :: rest) E D H :=
  oC _ rfl hN (fun a w ha hw => by simp [execOp, ha.op hx, ha.op hy, run_lookup K ht (hw.get hp) k false, hr]) h
theorem oLookOk (K : KeyE κ enc kd) {kt : TypeId} {zv : Value} {b : Nat} {m : κ → Option β} {k : κ} (hx : E.op x = some (.map (some b))) (hy : E.op y = some (enc k)) (ht : mapT c.P t = some (kt, kd, zv)) (hp : Pick H (kmap enc ev b m) H') {r : Value} (hr : ((m k).map ev).getD zv = r)
    (h : O N rest ((d, .tuple #[r, .bool (m k).isSome]) :: E) D H) (hN : Nat.blt d c.N = true := by rfl) : O N (⟨some d, .lookup t x y true, ty, pos, af, none⟩ :: rest) E D H :=
  oC _ rfl hN (fun a w ha hw => by simp [execOp, ha.op hx, ha.op hy, run_lookup K ht (hw.get hp) k true, hr]) h
theorem oMapUpd (K : KeyE κ enc kd) {kt : TypeId} {zv : Value} {b : Nat} {m : κ → Option β} {k : κ} {u : β} (hx : E.op x = some (.map (some b))) (hy : E.op y = some (enc k)) (hz : E.op z = some (ev u)) (ht : mapT c.P t = some (kt, kd, zv)) (hp : Pick H (kmap enc ev b m) H')
    (h : O M.toMd rest E D (kmap enc ev b (fun k' => if k' = k then some u else m k') :: H')) : O M.toMd (⟨none, .mapUpdate t x y z, ty, pos, af, none⟩ :: rest) E D H :=
  oEffs rfl fun a w ha hw => by
    obtain ⟨es, clk, L, hb, hT, hnd, hL⟩ : (kmap enc ev b m).q w := hw.get hp
    obtain ⟨et, i, h1, h2, hi, hz'⟩ := mapT_spec ht
    have hlt : b < w.heap.size := (Array.getElem?_eq_some_iff.1 hb).1
    have hm : ∀ k', mget (mset L k u) k' = if k' = k then some u else m k' := fun k' => by rw [mget_mset, hL]
    rcases findNow_tells K k es.toList L 0 hT with ⟨g1, g2, g3, _⟩ | ⟨j, v, g1, g2, g4, g5, _⟩
    · refine ⟨w.putObj b (.map (es.push { key := enc k, val := ev u, born := clk }) (clk + 1)), kmap enc ev b (fun k' => if k' = k then some u else m k') :: H', ?_, hw.upd' hp (Chg.putObj w b _) ⟨_, _, mset L k u, World.putObj_heap_same hlt, ?_, mset_nodup hnd k u, hm⟩ (fun k hk => .inl hk), h⟩
      · simp [execOp, ha.op hx, ha.op hy, ha.op hz, Instr.mapUpdate, run_underlying h1, run_underlying h2, run_getMap hb, K.check _ c.P kt k w h2, Instr.findKey, g2, run_setMap _ hb]
      · rw [g3]; simp only [Tells, Array.toList_push, List.map_append, List.map_cons, List.map_nil] at hT ⊢; rw [hT]
    · refine ⟨w.putObj b (.map (es.modify j fun e => { e with key := enc k, val := ev u }) clk), kmap enc ev b (fun k' => if k' = k then some u else m k') :: H', ?_, hw.upd' hp (Chg.putObj w b _) ⟨_, _, mset L k u, World.putObj_heap_same hlt, ?_, mset_nodup hnd k u, hm⟩ (fun k hk => .inl hk), h⟩
      · have h4' : Option.map (fun x => x.key) es[j]? = some (enc k) := by simpa using g4
        simp [execOp, ha.op hx, ha.op hy, ha.op hz, Instr.mapUpdate, run_underlying h1, run_underlying h2, run_getMap hb, K.check _ c.P kt k w h2, Instr.findKey, g2, Instr.keyThatStays, h4', K.bits, run_setMap _ hb]
      · have := g5 u; simpa using this
theorem oDelete (K : KeyE κ enc kd) {kt : TypeId} {zv : Value} {b : Nat} {m : κ → Option β} {k : κ} (hx : E.op x = some (.map (some b))) (hy : E.op y = some (enc k)) (ht : mapT c.P t = some (kt, kd, zv)) (hp : Pick H (kmap enc ev b m) H')
    (h : O M.toMd rest E D (kmap enc ev b (fun k' => if k' = k then none else m k') :: H')) : O M.toMd (⟨none, .call { callee := .builtin .delete, args := #[x, y], argTypes := #[t, t'] }, ty, pos, af, none⟩ :: rest) E D H := by
  intro a w ha hw
  obtain ⟨es, clk, L, hb, hT, hnd, hL⟩ : (kmap enc ev b m).q w := hw.get hp
  obtain ⟨et, i, h1, h2, hi, hz'⟩ := mapT_spec ht
  have hlt : b < w.heap.size := (Array.getElem?_eq_some_iff.1 hb).1
  have hm : ∀ k', mget (mdel L k) k' = if k' = k then none else m k' := fun k' => by rw [mget_mdel hnd, hL]
  have go : ∀ es', Tells enc ev es'.toList (mdel L k) → (Builtin.delete_ #[t, t'] ty #[.map (some b), enc k]).run c.P w = .ok (.tuple #[]) (w.putObj b (.map es' clk)) → M.X (⟨none, .call { callee := .builtin .delete, args := #[x, y], argTypes := #[t, t'] }, ty, pos, af, none⟩ :: rest) a w := fun es' hT' hrun =>
    M.eff _ _ _ _ (.tuple #[]) (w.putObj b (.map es' clk)) rfl rfl (by simp [execOp, resolve, invoke, builtin, ha.fit.op hx, ha.fit.op hy, hrun]) (h _ _ ha.put_none (hw.upd' hp (Chg.putObj w b _) ⟨es', clk, mdel L k, World.putObj_heap_same hlt, hT', mdel_nodup hnd k, hm⟩ (fun k hk => .inl hk)))
  rcases findNow_tells K k es.toList L 0 hT with ⟨g1, g2, _, g3⟩ | ⟨j, v, g1, g2, g4, _, g5⟩
  · refine go es (by rw [g3]; exact hT) ?_
    simp [Builtin.delete_, run_underlying h1, run_getMap hb, K.check _ c.P kt k w h2, Instr.findKey, run_underlying h2, g2, run_setMap _ hb]
  · refine go (es.eraseIdxIfInBounds j) ?_ ?_
    · rw [Array.toList_eraseIdxIfInBounds]; exact g5
    · simp [Builtin.delete_, run_underlying h1, run_getMap hb, K.check _ c.P kt k w h2, Instr.findKey, run_underlying h2, g2, run_setMap _ hb]
end
end
end Go.Proofs.YtnidmlngkpkmlaaK
