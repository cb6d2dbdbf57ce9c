/-
  The walk's rules for memory: fields, elements, loads, stores, new variables, rows that grow, maps.
-/
import Derived.Test.YtnidmlngkpkmlaaKd
import Derived.Laws.Tables
import Derived.Laws.OwnMore
import Derived.Laws.MakeOwn
import Derived.Laws.Cells
import Derived.Laws.Entries
import Derived.Maps.AppendAt
import Derived.DataElems
namespace Go.Proofs.YtnidmlngkpkmlaaK
set_option linter.unusedVariables false
set_option linter.unusedSimpArgs false
open Go.RowKit
section
variable {c : Cx} {M : Md c} {d : Nat} {ty : TypeId} {pos : String} {af : Array Edge} {rest : List Oper} {E : Env} {D : List Deferred} {H H' H'' : List Res} {v : Value} {x y z : Operand} {k : IntKind} {t t' : TypeId}

/-! ### what the types say -/
def scalT (P : Program) (t : TypeId) : Bool := match P.underlying t with
  | some (.struct _) => false
  | some (.array _ _) => false
  | some _ => true
  | none => false
def aggN (P : Program) (t : TypeId) : Option Nat := match P.underlying t with
  | some (.struct _) => (P.info? t).map (·.size)
  | some (.array _ _) => (P.info? t).map (·.size)
  | _ => none
def fplace (P : Program) (s : TypeId) (j : Nat) : Option Nat := match P.underlying s with
  | some (.struct fs) => match fs[j]? with
    | some f => match P.info? f.type with
      | some i => bif Nat.beq i.size 0 then none else some f.offset
      | none => none
    | none => none
  | _ => none
def elemT (P : Program) (t : TypeId) : Option (TypeId × Nat) := match P.underlying t with
  | some (.slice e) => (P.info? e).map fun i => (e, i.size)
  | _ => none
theorem run_isAgg_s {P : Program} {t : TypeId} (h : scalT P t = true) (w : World) : (isAgg t).run P w = .ok false w := by
  unfold scalT at h
  unfold isAgg
  cases hu : P.underlying t with
  | none => rw [hu] at h; cases h
  | some u =>
    rw [hu] at h
    rw [Sem.run_bind, run_underlying hu w]
    cases u <;> simp_all
theorem run_isAgg_a {P : Program} {t : TypeId} {n : Nat} (h : aggN P t = some n) (w : World) : (isAgg t).run P w = .ok true w ∧ (sizeOf t).run P w = .ok n w := by
  unfold aggN at h
  unfold isAgg
  cases hu : P.underlying t with
  | none => rw [hu] at h; cases h
  | some u =>
    rw [hu] at h
    rw [Sem.run_bind, run_underlying hu w]
    cases u <;> simp only [reduceCtorEq, Option.map_eq_some_iff] at h
    all_goals
      obtain ⟨i, hi, rfl⟩ := h
      exact ⟨by simp, by simp [sizeOf, typeInfo, hi]⟩
theorem run_fieldAt {P : Program} {s : TypeId} {j n : Nat} (h : fplace P s j = some n) (a : Addr) (w : World) : (Instr.fieldAt s (.pointer (some a)) j).run P w = .ok (.pointer (some (a.add n))) w := by
  unfold fplace at h
  cases hu : P.underlying s with
  | none => rw [hu] at h; cases h
  | some u =>
    rw [hu] at h
    cases u with
    | struct fs =>
      simp only [] at h
      cases hf : fs[j]? with
      | none => rw [hf] at h; cases h
      | some f =>
        rw [hf] at h
        simp only [] at h
        cases hi : P.info? f.type with
        | none => rw [hi] at h; cases h
        | some i =>
          rw [hi] at h
          simp only [] at h
          cases hb : Nat.beq i.size 0 with
          | true => rw [hb] at h; cases h
          | false =>
            rw [hb] at h
            injection h with h
            subst h
            have hs : i.size ≠ 0 := by intro e; rw [e] at hb; cases hb
            simp [Instr.fieldAt, Instr.sureAddr, run_underlying hu, hf, fieldPlace, sizeOf, typeInfo, hi, hs]
    | _ => cases h
theorem run_elemT {P : Program} {t e : TypeId} {n : Nat} (h : elemT P t = some (e, n)) : P.underlying t = some (.slice e) ∧ ∃ i, P.info? e = some i ∧ i.size = n := by
  unfold elemT at h
  cases hu : P.underlying t with
  | none => rw [hu] at h; cases h
  | some u =>
    rw [hu] at h
    cases u <;> simp only [reduceCtorEq, Option.map_eq_some_iff, Prod.mk.injEq] at h
    obtain ⟨i, hi, rfl, rfl⟩ := h
    exact ⟨rfl, i, hi, rfl⟩
theorem add_at (b i j : Nat) : (⟨b, i, none⟩ : Addr).add j = ⟨b, i + j, none⟩ := by unfold Addr.add; split <;> simp_all

/-! ### addresses -/
/-- The k-th cell of what lies at e. -/
@[irreducible] def adr (e : Addr) (k : Nat) : Addr := e.add k
theorem adr_add (e : Addr) (k j : Nat) : (adr e k).add j = adr e (k + j) := by unfold adr; exact Addr.add_add _ _ _
/-- The k-th cell of the i-th element (of s cells) of block g. -/
@[irreducible] def elt (g i s k : Nat) : Addr := ⟨g, i * s + k, none⟩
theorem elt_add (g i s k j : Nat) : (elt g i s k).add j = elt g i s (k + j) := by unfold elt; rw [add_at, Nat.add_assoc]
theorem oPtr {a : Addr} (hx : E.op x = some (.pointer (some a))) (h : O M rest ((d, .pointer (some a)) :: E) D H) (hN : Nat.blt d c.N = true := by rfl) : O M (⟨some d, .nilCheck x, ty, pos, af, none⟩ :: rest) E D H :=
  oC _ rfl hN (fun u w ha hw => by simp [execOp, ha.op hx]) h
theorem oFld {b i j n m : Nat} (hx : E.op x = some (.pointer (some ⟨b, i, none⟩))) (hf : fplace c.P t j = some n) (hm : i + n = m) (h : O M rest ((d, .pointer (some ⟨b, m, none⟩)) :: E) D H) (hN : Nat.blt d c.N = true := by rfl) : O M (⟨some d, .fieldAddr t x j, ty, pos, af, none⟩ :: rest) E D H :=
  oC _ rfl hN (fun u w ha hw => by simp [execOp, ha.op hx, run_fieldAt hf, add_at, hm]) h
theorem oFldX {e : Addr} {i j n m : Nat} (hx : E.op x = some (.pointer (some (adr e i)))) (hf : fplace c.P t j = some n) (hm : i + n = m) (h : O M rest ((d, .pointer (some (adr e m))) :: E) D H) (hN : Nat.blt d c.N = true := by rfl) : O M (⟨some d, .fieldAddr t x j, ty, pos, af, none⟩ :: rest) E D H :=
  oC _ rfl hN (fun u w ha hw => by simp [execOp, ha.op hx, run_fieldAt hf, adr_add, hm]) h
theorem oFldR {g i s j l n m : Nat} (hx : E.op x = some (.pointer (some (elt g i s l)))) (hf : fplace c.P t j = some n) (hm : l + n = m) (h : O M rest ((d, .pointer (some (elt g i s m))) :: E) D H) (hN : Nat.blt d c.N = true := by rfl) : O M (⟨some d, .fieldAddr t x j, ty, pos, af, none⟩ :: rest) E D H :=
  oC _ rfl hN (fun u w ha hw => by simp [execOp, ha.op hx, run_fieldAt hf, elt_add, hm]) h

/-! ### loads of variables -/
theorem oLd {b i : Nat} {tb : TypeId} {cs : List Value} (hx : E.op x = some (.pointer (some ⟨b, i, none⟩))) (hp : Pick H (blk b tb cs) H') (hv : cs[i]? = some v) (hs : scalT c.P t = true) (h : O M rest ((d, v) :: E) D H) (hN : Nat.blt d c.N = true := by rfl) : O M (⟨some d, .load t x, ty, pos, af, none⟩ :: rest) E D H :=
  oC _ rfl hN (fun u w ha hw => by
    have hc := hw.cell hp i hv
    simp [execOp, ha.op hx, Instr.loadAt, Instr.sureAddr, loadVar, run_isAgg_s hs, hc]) h
theorem oLdA {b i n : Nat} {tb : TypeId} {cs vs : List Value} (hx : E.op x = some (.pointer (some ⟨b, i, none⟩))) (hp : Pick H (blk b tb cs) H') (hs : aggN c.P t = some n) (hv' : SubL cs i n vs) (h : O M rest ((d, .agg vs.toArray) :: E) D H) (hN : Nat.blt d c.N = true := by rfl) : O M (⟨some d, .load t x, ty, pos, af, none⟩ :: rest) E D H :=
  oC _ rfl hN (fun u w ha hw => by
    obtain ⟨hv, hl⟩ := hv'.spec
    have h1 := run_isAgg_a hs w
    have h2 := run_loadCells_list (P := c.P) w ⟨b, i, none⟩ vs (fun j u hu => by
      rw [add_at]
      refine hw.cell hp (i + j) ?_
      rw [← hv, List.getElem?_take, List.getElem?_drop] at hu
      split at hu
      · exact hu
      · cases hu)
    rw [hl] at h2
    simp [execOp, ha.op hx, Instr.loadAt, Instr.sureAddr, loadVar, h1.1, h1.2, h2]) h

/-! ### elements of what is only read -/
theorem oLdX {e : Addr} {i : Nat} {cs : List Value} (hx : E.op x = some (.pointer (some (adr e i)))) (hc : ∀ j u, cs[j]? = some u → c.B.e.cell? (adr e j) = some u) (hv : cs[i]? = some v) (hs : scalT c.P t = true) (h : O M rest ((d, v) :: E) D H) (hN : Nat.blt d c.N = true := by rfl) : O M (⟨some d, .load t x, ty, pos, af, none⟩ :: rest) E D H :=
  oC _ rfl hN (fun u w ha hw => by
    have hc := hw.ext (hc i v hv)
    simp [execOp, ha.op hx, Instr.loadAt, Instr.sureAddr, loadVar, run_isAgg_s hs, hc]) h
theorem oLdXA {e : Addr} {i n : Nat} {cs vs : List Value} (hx : E.op x = some (.pointer (some (adr e i)))) (hc : ∀ j u, cs[j]? = some u → c.B.e.cell? (adr e j) = some u) (hs : aggN c.P t = some n) (hv' : SubL cs i n vs) (h : O M rest ((d, .agg vs.toArray) :: E) D H) (hN : Nat.blt d c.N = true := by rfl) : O M (⟨some d, .load t x, ty, pos, af, none⟩ :: rest) E D H :=
  oC _ rfl hN (fun u w ha hw => by
    obtain ⟨hv, hl⟩ := hv'.spec
    have h1 := run_isAgg_a hs w
    have h2 := run_loadCells_list (P := c.P) w (adr e i) vs (fun j u hu => by
      rw [adr_add]
      refine hw.ext (hc (i + j) u ?_)
      rw [← hv, List.getElem?_take, List.getElem?_drop] at hu
      split at hu
      · exact hu
      · cases hu)
    rw [hl] at h2
    simp [execOp, ha.op hx, Instr.loadAt, Instr.sureAddr, loadVar, h1.1, h1.2, h2]) h
theorem run_indexAt {P : Program} {t e : TypeId} {s : Nat} (ht : elemT P t = some (e, s)) (b : Addr) (n cp i : Nat) (hi : i < n) (k : IntKind) (w : World) : (Instr.indexAt t (.slice (some b) n cp) (.int k (i : Int))).run P w = .ok (.pointer (some (b.add (i * s)))) w := by
  obtain ⟨h1, inf, h2, rfl⟩ := run_elemT ht
  simp [Instr.indexAt, asIntOf, run_underlying h1, sizeOf, typeInfo, h2, hi]
theorem oIdx {α : Type} {kd : Kd α} {A : Option Addr} {xs : List α} {i : Nat} {n cp : Nat} {e : TypeId} {s : Nat} (hx : E.op x = some (.slice A n cp)) (hy : E.op y = some (.int k (i : Int))) (hC : kd.C c.B.e A xs) (hn : xs.length = n) (hi : i < n) (ht : elemT c.P t = some (e, s)) (hsz : kd.sz = s)
    (h : ∀ e' u cs, xs[i]? = some u → kd.K c.B.e u cs → (∀ j v, cs[j]? = some v → c.B.e.cell? (adr e' j) = some v) → O M rest ((d, .pointer (some (adr e' 0))) :: E) D H) (hN : Nat.blt d c.N = true := by rfl) : O M (⟨some d, .indexAddr t x y, ty, pos, af, none⟩ :: rest) E D H := by
  subst hn hsz
  obtain ⟨_, hC⟩ := hC
  obtain ⟨ad, rfl, hc⟩ := hC (by omega)
  obtain ⟨cs, hK, hcell⟩ := hc i _ (List.getElem?_eq_getElem hi)
  refine oC (.pointer (some (adr (ad.add (i * kd.sz)) 0))) rfl hN (fun u w ha hw => ?_) (h (ad.add (i * kd.sz)) _ cs (List.getElem?_eq_getElem hi) hK (fun j v hv => ?_))
  · have e1 : adr (ad.add (i * kd.sz)) 0 = ad.add (i * kd.sz) := by unfold adr; rfl
    simp [execOp, ha.op hx, ha.op hy, run_indexAt ht ad _ cp i hi k w, e1]
  · have e1 : adr (ad.add (i * kd.sz)) j = ad.add (i * kd.sz + j) := by unfold adr; exact Addr.add_add _ _ _
    rw [e1]; exact hcell j v hv
theorem oLenS {A : Option Addr} {n cp : Nat} {e : TypeId} {s : Nat} (hx : E.op x = some (.slice A n cp)) (ht : elemT c.P t = some (e, s)) (h : O M rest ((d, .int .i64 (n : Int)) :: E) D H) (hN : Nat.blt d c.N = true := by rfl) : O M (⟨some d, .call { callee := .builtin .len, args := #[x], argTypes := #[t] }, ty, pos, af, none⟩ :: rest) E D H :=
  oC _ rfl hN (fun u w ha hw => by
    obtain ⟨h1, _⟩ := run_elemT ht
    simp [execOp, resolve, ha.op hx, invoke, builtin, Builtin.len_, run_underlying h1, goInt]) h
theorem oLenStr {s : ByteArray} (hx : E.op x = some (.string s)) (ht : c.P.underlying t = some .string) (h : O M rest ((d, .int .i64 (s.size : Int)) :: E) D H) (hN : Nat.blt d c.N = true := by rfl) : O M (⟨some d, .call { callee := .builtin .len, args := #[x], argTypes := #[t] }, ty, pos, af, none⟩ :: rest) E D H :=
  oC _ rfl hN (fun u w ha hw => by
    simp [execOp, resolve, ha.op hx, invoke, builtin, Builtin.len_, run_underlying ht, goInt]) h
inductive GetAt : List Value → Nat → Value → Prop
  | here {v : Value} {cs : List Value} : GetAt (v :: cs) 0 v
  | there {c v : Value} {cs : List Value} {n : Nat} (h : GetAt cs n v) : GetAt (c :: cs) (n + 1) v
theorem GetAt.spec {cs : List Value} {n : Nat} {v : Value} (h : GetAt cs n v) : cs[n]? = some v := by
  induction h with
  | here => rfl
  | there _ ih => simpa using ih
theorem oExt {vs : List Value} {j : Nat} (hx : E.op x = some (.tuple vs.toArray)) (hv : GetAt vs j v) (h : O M rest ((d, v) :: E) D H) (hN : Nat.blt d c.N = true := by rfl) : O M (⟨some d, .extract x j, ty, pos, af, none⟩ :: rest) E D H :=
  oC _ rfl hN (fun u w ha hw => by simp [execOp, ha.op hx, Instr.extract, hv.spec]) h
/-- Field j of a struct: where it lies, its type. -/
def fspot (P : Program) (s : TypeId) (j : Nat) : Option (TypeId × Nat) := match P.underlying s with
  | some (.struct fs) => (fs[j]?).map fun f => (f.type, f.offset)
  | _ => none
theorem oField {vs : List Value} {j n : Nat} {ft : TypeId} (hx : E.op x = some (.agg vs.toArray)) (hf : fspot c.P t j = some (ft, n)) (hs : scalT c.P ft = true) (hv : GetAt vs n v) (h : O M rest ((d, v) :: E) D H) (hN : Nat.blt d c.N = true := by rfl) : O M (⟨some d, .field t x j, ty, pos, af, none⟩ :: rest) E D H :=
  oC _ rfl hN (fun u w ha hw => by
    unfold fspot at hf
    cases hu : c.P.underlying t with
    | none => rw [hu] at hf; cases hf
    | some un =>
      rw [hu] at hf
      cases un <;> simp only [reduceCtorEq, Option.map_eq_some_iff, Prod.mk.injEq] at hf
      obtain ⟨f, hff, rfl, rfl⟩ := hf
      simp [execOp, ha.op hx, Instr.field, run_underlying hu, hff, part, asAgg, run_isAgg_s hs, hv.spec]) h
theorem oFieldA {vs us : List Value} {j n m : Nat} {ft : TypeId} (hx : E.op x = some (.agg vs.toArray)) (hf : fspot c.P t j = some (ft, n)) (hs : aggN c.P ft = some m) (hv : SubL vs n m us) (h : O M rest ((d, .agg us.toArray) :: E) D H) (hN : Nat.blt d c.N = true := by rfl) : O M (⟨some d, .field t x j, ty, pos, af, none⟩ :: rest) E D H :=
  oC _ rfl hN (fun u w ha hw => by
    unfold fspot at hf
    cases hu : c.P.underlying t with
    | none => rw [hu] at hf; cases hf
    | some un =>
      rw [hu] at hf
      cases un <;> simp only [reduceCtorEq, Option.map_eq_some_iff, Prod.mk.injEq] at hf
      obtain ⟨f, hff, rfl, rfl⟩ := hf
      have h1 := run_isAgg_a hs w
      have h3 : vs.toArray.extract f.offset (f.offset + m) = us.toArray := by
        apply Array.toList_inj.1
        have := hv.spec.1
        simpa [List.extract_eq_take_drop] using this
      simp only [execOp, ha.op hx, Instr.field, Sem.run_bind, run_underlying hu, Result.andThen_ok, hff, part, asAgg, Sem.run_pure, h1.1, h1.2, if_true, h3]) h
def placeS (P : Program) (t : TypeId) (i : Nat) : Option (Nat × Nat) := match P.underlying t with
  | some (.struct fs) => (fs[i]?).map fun f => (f.offset, P.cellsOf f.type)
  | _ => none
def allS (P : Program) (t : TypeId) : Bool := match P.underlying t with
  | some (.struct fs) => fs.toList.all fun f => (P.info? f.type).isSome
  | _ => false
theorem run_places {P : Program} : ∀ (l : List Field) (w : World), (l.all fun f => (P.info? f.type).isSome) = true → Sem.run P (l.mapM fun (f : Field) => Prod.mk f.offset <$> sizeOf f.type) w = .ok (l.map fun f => (f.offset, P.cellsOf f.type)) w
  | [], w, h => by simp
  | f :: l, w, h => by
    simp only [List.all_cons, Bool.and_eq_true] at h
    obtain ⟨i, hi⟩ := Option.isSome_iff_exists.1 h.1
    have ih := run_places l w h.2
    rw [List.mapM_cons]
    have h1 : Sem.run P (Prod.mk f.offset <$> sizeOf f.type) w = .ok (f.offset, P.cellsOf f.type) w := by simp [sizeOf, typeInfo, hi, Program.cellsOf]
    simp only [Sem.run_bind, h1, Result.andThen_ok, ih, Sem.run_pure, List.map_cons]
theorem run_build {P : Program} {t : TypeId} {zs us : List Value} {vs : List (Nat × Value)} (hz : ((P.info? t).map (·.zero)) = some (some (.agg zs.toArray))) (ha : allS P t = true) (hb : Built (placeS P t) zs vs us) (w : World) : (Instr.build t vs.toArray).run P w = .ok (.agg us.toArray) w := by
  obtain ⟨i, hi, hz⟩ := Option.map_eq_some_iff.1 hz
  unfold allS at ha
  cases hu : P.underlying t with
  | none => rw [hu] at ha; cases ha
  | some un =>
    rw [hu] at ha
    cases un <;> simp only [Bool.false_eq_true] at ha
    rename_i fs
    have hp : Sem.run P (fs.mapM fun (f : Field) => Prod.mk f.offset <$> sizeOf f.type) w = .ok ((fs.toList.map fun f => (f.offset, P.cellsOf f.type)).toArray) w := by
      rw [Array.mapM_eq_mapM_toList]
      simp [run_places fs.toList w ha]
    have he : placeS P t = fun x => Option.map (fun f => (f.offset, P.cellsOf f.type)) fs[x]? := by
      funext i
      simp [placeS, hu]
    have hf := hb.spec
    rw [he] at hf
    simp only [Instr.build, Sem.run_bind, zeroValue, typeInfo, Sem.run_pure]
    simp [hi, hz, run_underlying hu, Value.cells, hp]
    rw [hf]
    simp
theorem oBuild {ps : Array (Nat × Operand)} {vs : List (Nat × Value)} {zs us : List Value} (hx : Parts E ps.toList vs) (hz : ((c.P.info? t).map (·.zero)) = some (some (.agg zs.toArray))) (ha : allS c.P t = true) (hb : Built (placeS c.P t) zs vs us) (h : O M rest ((d, .agg us.toArray) :: E) D H) (hN : Nat.blt d c.N = true := by rfl) : O M (⟨some d, .build t ps, ty, pos, af, none⟩ :: rest) E D H :=
  oC _ rfl hN (fun u w hf hw => by
    have h2 : (ps.map fun (i, x) => (i, u.eval x)) = vs.toArray := by
      apply Array.toList_inj.1
      simpa using hx.spec hf
    simp only [execOp, Sem.run_bind, h2, run_build hz ha hb w, Result.andThen_ok, Sem.run_pure]) h
theorem oIface {xt : TypeId} (hx : E.op x = some v) (hs : (match c.P.underlying xt with | some (.interface _) => false | some _ => true | none => false) = true) (h : O M rest ((d, .iface xt v) :: E) D H) (hN : Nat.blt d c.N = true := by rfl) : O M (⟨some d, .makeInterface xt x, ty, pos, af, none⟩ :: rest) E D H :=
  oC _ rfl hN (fun u w ha hw => by
    cases hu : c.P.underlying xt with
    | none => rw [hu] at hs; cases hs
    | some un =>
      rw [hu] at hs
      cases un <;> simp_all [execOp, Instr.makeInterface, run_underlying hu, ha.op hx]) h
/-- An interface value of the type asked for. -/
theorem oAssertT {xt at_ : TypeId} (hx : E.op x = some (.iface at_ v)) (hs : (match c.P.underlying at_ with | some (.interface _) => false | some _ => true | none => false) = true) (h : O M rest ((d, .tuple #[v, .bool true]) :: E) D H) (hN : Nat.blt d c.N = true := by rfl) : O M (⟨some d, .typeAssert x xt at_ true, ty, pos, af, none⟩ :: rest) E D H :=
  oC _ rfl hN (fun u w ha hw => by
    cases hu : c.P.underlying at_ with
    | none => rw [hu] at hs; cases hs
    | some un =>
      rw [hu] at hs
      cases un <;> simp_all [execOp, Instr.typeAssert, run_underlying hu, ha.op hx]) h
end
end Go.Proofs.YtnidmlngkpkmlaaK
