/-
  The walk's rules: rows that are made, grown and written; maps; calls; how a function is entered and left.
-/
import Derived.Test.YtnidmlngkpkmlaaKf
namespace Go.Proofs.YtnidmlngkpkmlaaK
set_option linter.unusedVariables false
set_option linter.unusedSimpArgs false
open Go.RowKit
section
variable {c : Cx} {M : Me c} {d : Nat} {dst : Option Nat} {ty : TypeId} {pos : String} {af : Array Edge} {rest : List Oper} {E : Env} {D : List Deferred} {H H' H'' : List Res} {v : Value} {x y z : Operand} {k : IntKind} {t t' : TypeId}
variable {B : Base} {w w' : World} {Φ Φ' Φ'' Ψ : List Res} {P : Program}

/-! ### rows -/
theorem oBuildSlice {len : Nat} {ps : Array (Nat × Operand)} {vs : List (Nat × Value)} {zs cs : List Value} {e : TypeId} {s : Nat} {zv : Value} (hx : Parts E ps.toList vs) (ht : elemT c.P t = some (e, s)) (hz : ((c.P.info? e).map (·.zero)) = some (some zv))
    (hsm : Nat.ble (len * s) 16777216 = true) (h0 : Nat.beq (len * s) 0 = false) (hzs : ((Array.range (len * s)).map (zv.cells[· % zv.cells.size]!)).toList = zs) (hf : Built (fun i => some (i * s, s)) zs vs cs)
    (h : ∀ b, O M.toMd rest ((d, .slice (some ⟨b, 0, none⟩) len len) :: E) D (blk b e cs :: H)) (hN : Nat.blt d c.N = true := by rfl) : O M.toMd (⟨some d, .buildSlice t len ps, ty, pos, af, none⟩ :: rest) E D H :=
  oEff rfl hN fun a w ha hw => by
    have hsm : len * s ≤ 16777216 := Nat.le_of_ble_eq_true hsm
    have h0 : len * s ≠ 0 := by intro e; rw [e] at h0; cases h0
    obtain ⟨ht1, inf, hi1, hs⟩ := run_elemT ht
    obtain ⟨inf', hi2, hz⟩ := Option.map_eq_some_iff.1 hz
    have he : inf' = inf := by rw [hi1] at hi2; exact (Option.some.inj hi2).symm
    subst he
    refine ⟨_, w.alloc (.cells cs.toArray e), _, ?_, by simpa using hw.alloc (.cells cs.toArray e), h w.heap.size⟩
    have h3 := hx.spec ha
    have hf := hf.spec
    have hzs : (Array.range (len * s)).map (zv.cells[· % zv.cells.size]!) = zs.toArray := by rw [← hzs]
    rw [← hzs, ← h3] at hf
    simp only [execOp, Sem.run_bind, Instr.buildSlice, run_underlying ht1, Result.andThen_ok, sizeOf, typeInfo, zeroValue]
    simp [hi1, hs, hz, h0, hf, newRow, show ¬ (16777216 < len * s) by omega]
/-- One element: a value as it is. -/
theorem oBuildSlice1 {e : TypeId} {s : Nat} {zv : Value} {cs : List Value} (hx : E.op x = some v) (ht : elemT c.P t = some (e, s)) (hz : ((c.P.info? e).map (·.zero)) = some (some zv)) (hsm : Nat.ble s 16777216 = true) (h0 : Nat.beq s 0 = false) (hc : CellsOf v cs) (hl : cs.length = s)
    (h : ∀ b, O M.toMd rest ((d, .slice (some ⟨b, 0, none⟩) 1 1) :: E) D (blk b e cs :: H)) (hN : Nat.blt d c.N = true := by rfl) : O M.toMd (⟨some d, .buildSlice t 1 #[(0, x)], ty, pos, af, none⟩ :: rest) E D H := by
  refine oBuildSlice (zs := ((Array.range (1 * s)).map (zv.cells[· % zv.cells.size]!)).toList) (.cons hx .nil) ht hz (by simpa using hsm) (by simpa using h0) rfl ?_ h hN
  refine Built.cons (off := 0) (s := s) (by simp) hc hl (ds := cs) ?_ .nil
  have key : ∀ (cs ds : List Value), cs.length = ds.length → PutL ds 0 cs cs := by
    intro cs
    induction cs with
    | nil => intro ds h; cases ds with
      | nil => exact .done
      | cons => simp at h
    | cons u cs ih =>
      intro ds h
      cases ds with
      | nil => simp at h
      | cons d ds => exact .put (ih ds (by simpa using h))
  exact key cs _ (by simp [hl])
/-- What one element's append needs of the types. -/
def elemI (P : Program) (t : TypeId) : Option (TypeId × Value × Nat × Nat) := match P.underlying t with
  | some (.slice e) => match P.info? e with
    | some i => match i.zero with
      | some z => bif Nat.beq z.cells.size i.size && Nat.blt 0 i.size then some (e, z, i.size, i.bytes) else none
      | none => none
    | none => none
  | _ => none
theorem elemI_spec {e : TypeId} {zv : Value} {s by_ : Nat} (h : elemI P t = some (e, zv, s, by_)) : P.underlying t = some (.slice e) ∧ ∃ i, P.info? e = some i ∧ i.zero = some zv ∧ i.size = s ∧ i.bytes = by_ ∧ zv.cells.size = s ∧ 0 < s := by
  unfold elemI at h
  cases hu : P.underlying t with
  | none => rw [hu] at h; cases h
  | some u =>
    rw [hu] at h
    cases u with
    | slice e' =>
      simp only [] at h
      cases hi : P.info? e' with
      | none => rw [hi] at h; cases h
      | some i =>
        rw [hi] at h
        simp only [] at h
        cases hz : i.zero with
        | none => rw [hz] at h; cases h
        | some z =>
          rw [hz] at h
          simp only [] at h
          cases hb : (Nat.beq z.cells.size i.size && Nat.blt 0 i.size) with
          | false => rw [hb] at h; cases h
          | true =>
            rw [hb] at h
            simp only [cond_true, Option.some.injEq, Prod.mk.injEq] at h
            obtain ⟨rfl, rfl, rfl, rfl⟩ := h
            simp only [Bool.and_eq_true, Nat.beq_eq, Nat.blt_eq] at hb
            exact ⟨rfl, i, hi, hz, rfl, rfl, hb.1, hb.2⟩
    | _ => cases h
theorem row_append {α : Type} {kd : Kd α} {W : World} {e : TypeId} {zv : Value} {s by_ : Nat} (ht : elemI P t = some (e, zv, s, by_)) (hsz : kd.sz = s) {v : Value} {xs ys : List α} (hS : St B Φ w) (hp : Pick Φ (row kd W e v xs) Φ')
    (a : Addr) (m cp : Nat) (news : List Value) (hm : ys.length = m) (hnews : ∀ j u, news[j]? = some u → w.cell? (a.add j) = some u) (hcat : Cat kd W ys news) (hl : xs.length + m ≤ 17592186044416) (hby : by_ ≤ 8 * s) (hs8 : s ≤ 1000) (hlb : (xs.length + m) * by_ ≤ 140737488355328) (ty : TypeId) (hpos : 0 < xs.length + m) :
    ∃ g cp' w', (Builtin.append_ #[t, t] ty #[v, .slice (some a) m cp]).run P w = .ok (.slice (some ⟨g, 0, none⟩) (xs.length + m) cp') w' ∧ St B (row kd W e (.slice (some ⟨g, 0, none⟩) (xs.length + m) cp') (xs ++ ys) :: Φ') w' := by
  obtain ⟨ht1, i0, hi, hz0, hz1, hz2, hzs, hsp⟩ := elemI_spec ht
  subst hsz
  obtain ⟨cs, ho, hr⟩ : (row kd W e v xs).q w := hS.get hp
  have hnl : news.length = m * kd.sz := by rw [hcat.len, hm]
  have hml : maxLen = 9223372036854775807 := rfl
  obtain ⟨v', w', hrun, hown, hgr, _, hat⟩ := run_append_own_at (P := P) (w := w) 0 t ty e i0 zv kd.sz by_ ht1 hi hz0 hz1 hz2 hzs hsp v xs.length cs ho a m cp news hnl hnews hcat.ones (by omega) hlb (Nat.zero_le _)
  have hown0 := hown
  obtain ⟨_, ho2⟩ := hown
  rcases ho2 with ⟨_, e2⟩ | ⟨g, cap, cur, rfl, _⟩
  · omega
  · refine ⟨g, cap, w', hrun, hS.upd' hp ((Chg.of_grown hgr).mono (fun k hk => hk.symm)) ⟨cs ++ news, ?_, hr.app hcat⟩ ?_⟩
    · rw [List.length_append, hm]; exact hown0
    · intro k hk
      have hk : (Value.slice (some ⟨g, 0, none⟩) (xs.length + m) cap).ownBlock = some k := hk
      rcases hat with h1 | h1
      · exact .inl (show v.ownBlock = some k from h1 ▸ hk)
      · right; rw [h1] at hk; have := Option.some.inj hk; omega
/-- One element more: it lies in a block of its own. -/
theorem oApp1 {α : Type} {kd : Kd α} {W : World} {e tb : TypeId} {zv : Value} {s by_ b cp : Nat} {xs : List α} {news : List Value} (u : α) (hx : E.op x = some v) (hy : E.op y = some (.slice (some ⟨b, 0, none⟩) 1 cp)) (ht : elemI c.P t = some (e, zv, s, by_)) (hsz : kd.sz = s)
    (hp : Pick H (row kd W e v xs) H') (hpb : Pick H' (blk b tb news) H'') (hK : kd.K W u news) (hl : xs.length + 1 ≤ 1000000000) (hby : Nat.ble by_ 140000 = true)
    (h : ∀ g cp', O M.toMd rest ((d, .slice (some ⟨g, 0, none⟩) (xs.length + 1) cp') :: E) D (row kd W e (.slice (some ⟨g, 0, none⟩) (xs.length + 1) cp') (xs ++ [u]) :: H'')) (hN : Nat.blt d c.N = true := by rfl) :
    O M.toMd (⟨some d, .call { callee := .builtin .append, args := #[x, y], argTypes := #[t, t] }, ty, pos, af, none⟩ :: rest) E D H :=
  oEff rfl hN fun a w ha hw => by
    have hbb : w.heap[b]? = some (.cells news.toArray tb (0, 0)) := (hw.perm hp.perm).drop.get hpb
    have hb2 : by_ ≤ 140000 := Nat.le_of_ble_eq_true hby
    have hml : maxLen = 9223372036854775807 := rfl
    subst hsz
    obtain ⟨ht1, i0, hi, hz0, hz1, hz2, hzs, hsp⟩ := elemI_spec ht
    obtain ⟨cs, ho, hr⟩ : (row kd W e v xs).q w := hw.get hp
    have hcat : Cat kd W [u] news := Cat.one hK
    have hlb : (xs.length + 1) * by_ ≤ 140737488355328 := Nat.le_trans (Nat.mul_le_mul hl hb2) (by decide)
    obtain ⟨v', w', hrun, hown, hgr, _, hat⟩ := run_append_own_at (P := c.P) (w := w) 0 t ty e i0 zv kd.sz by_ ht1 hi hz0 hz1 hz2 hzs hsp v xs.length cs ho ⟨b, 0, none⟩ 1 cp news (by rw [hcat.len]; rfl) (fun j u hu => by
      rw [add_at, Nat.zero_add, cell_of hbb]; exact hu) hcat.ones (by omega) hlb (Nat.zero_le _)
    have hown0 := hown
    obtain ⟨_, ho2⟩ := hown
    rcases ho2 with ⟨_, e2⟩ | ⟨g, cap, cur, rfl, _⟩
    · omega
    · refine ⟨_, w', _, ?_, ?_, h g cap⟩
      · simp [execOp, resolve, invoke, builtin, ha.op hx, ha.op hy, hrun]
      · have hup : St c.B (row kd W e (.slice (some ⟨g, 0, none⟩) (xs.length + 1) cap) (xs ++ [u]) :: H') w' := by
          refine hw.upd' hp ((Chg.of_grown hgr).mono (fun k hk => hk.symm)) ⟨cs ++ news, by rw [List.length_append]; exact hown0, hr.app hcat⟩ ?_
          intro k hk
          have hk : (Value.slice (some ⟨g, 0, none⟩) (xs.length + 1) cap).ownBlock = some k := hk
          rcases hat with h1 | h1
          · exact .inl (show v.ownBlock = some k from h1 ▸ hk)
          · right; rw [h1] at hk; have := Option.some.inj hk; omega
        exact (hup.perm ((hpb.perm.cons _).trans (List.Perm.swap _ _ _))).drop
theorem Cat.reps {α : Type} {kd : Kd α} {W : World} {u : α} {z : Value} (hK : kd.K W u [z]) : ∀ n, Cat kd W (List.replicate n u) (List.replicate n z)
  | 0 => rfl
  | n + 1 => ⟨[z], List.replicate n z, rfl, hK, Cat.reps hK n⟩
/-- A row of n zeros, of one cell each. -/
theorem oMake {α : Type} {kd : Kd α} {W : World} {e : TypeId} {zv zc : Value} {by_ n : Nat} (u : α) (hx : E.op x = some (.int .i64 (n : Int))) (hx' : E.op y = some (.int .i64 (n : Int))) (ht : elemI c.P t = some (e, zv, 1, by_)) (hsz : kd.sz = 1) (hzc : zv.cells = #[zc]) (hK : kd.K W u [zc]) (hl : n ≤ 1000000000) (hby : Nat.ble by_ 140000 = true)
    (h : ∀ g, O M.toMd rest ((d, .slice (some ⟨g, 0, none⟩) n n) :: E) D (row kd W e (.slice (some ⟨g, 0, none⟩) n n) (List.replicate n u) :: H)) (hN : Nat.blt d c.N = true := by rfl) :
    O M.toMd (⟨some d, .makeSlice t x y, ty, pos, af, none⟩ :: rest) E D H :=
  oEff rfl hN fun a w ha hw => by
    obtain ⟨ht1, i0, hi, hz0, hz1, hz2, hzs, hsp⟩ := elemI_spec ht
    have hb2 : by_ ≤ 140000 := Nat.le_of_ble_eq_true hby
    have hlb : i0.bytes * n ≤ 281474976710656 := by
      rw [hz2, Nat.mul_comm]
      exact Nat.le_trans (Nat.mul_le_mul hl hb2) (by decide)
    have hml : maxLen = 9223372036854775807 := rfl
    obtain ⟨w', hrun, hown, hgr⟩ := run_make_full w 0 t e i0 zv 1 ht1 hi hz0 hz1 .i64 .i64 n hlb (by omega) (Nat.zero_le _)
    refine ⟨_, w', _, ?_, ?_, h w.heap.size⟩
    · simp [execOp, ha.op hx, ha.op hx', hrun]
    · have hc : (madeCells zv.cells (n * 1)).toList = List.replicate n zc := by
        rw [hzc]
        apply List.ext_getElem?
        intro j
        by_cases hj : j < n
        · simp [madeCells, List.getElem?_replicate, List.getElem?_range, hj, Nat.mod_one]
        · simp [madeCells, List.getElem?_replicate, List.getElem?_eq_none, Nat.not_lt.1 hj, hj]
      refine hw.add ((Chg.of_grown hgr).mono (fun k hk => by cases hk)) ⟨List.replicate n zc, ?_, Cat.reps hK n⟩ ?_
      · rw [List.length_replicate, hsz, ← hc]; exact hown
      · intro k hk
        have hk : some w.heap.size = some k := hk
        injection hk with hk; omega
/-- A function's call. -/
def goodF (P : Program) (g : FuncId) : Bool := match P.funcs[g]? with
  | some fn => fn.name != "runtime.NumGoroutine" && fn.body.isSome
  | none => false
theorem run_callFunc {g : FuncId} (h : goodF P g = true) (args : Array Value) (w : World) : (callFunc g args).run P w = .ok (.enter g args) w := by
  unfold goodF at h
  cases hf : P.funcs[g]? with
  | none => rw [hf] at h; cases h
  | some fn =>
    rw [hf] at h
    simp only [Bool.and_eq_true, bne_iff_ne, ne_eq] at h
    cases hb : fn.body with
    | none => rw [hb] at h; simp at h
    | some body => simp [callFunc, hf, h.1, hb]
/-- What a call comes to: one of a family of values, with what is then owned. -/
def Ret {ι : Type} (B : Base) (inv : ι → Prop) (val : ι → Value) (post : ι → List Res) (e : Ending) (w : World) : Prop := ∃ i, inv i ∧ e = .returned (val i) ∧ St B (post i) w
theorem frame {ι : Type} {inv : ι → Prop} {val : ι → Value} {post : ι → List Res} {g : FuncId} {args : Array Value} (hS : St B Φ w) (hs : Split Φ Ψ Φ') (h : ∀ B', Grow B.e B'.e → St B' Ψ w → CallsIn Fence.wide 0 P g args w (Ret B' inv val post)) :
    CallsIn Fence.wide 0 P g args w (Ret B inv val (fun i => post i ++ Φ')) := by
  have hS' := hS.perm hs.perm
  refine (h (B.call w Ψ) hS'.egrow hS'.lend).mono ?_
  rintro e w' ⟨i, hi, he, hw⟩
  exact ⟨i, hi, he, hS'.give hw⟩
theorem oCallV {ι : Type} {inv : ι → Prop} {val : ι → Value} {post : ι → List Res} {f : Operand} {args : Array Operand} {ats : Array TypeId} {g : FuncId} {fst cap : Array Value} {vs : List Value} {as : Array Value} (hf : E.op f = some (.func (.func g) fst cap)) (hargs : E.ops args.toList = some vs) (has : fst ++ vs.toArray ++ cap = as) (hg : goodF c.P g = true)
    (hc : ∀ w, St c.B H w → CallsIn Fence.wide 0 c.P g as w (Ret c.B inv val post)) (h : ∀ i, inv i → O M.toMd rest ((d, val i) :: E) D (post i)) (hN : Nat.blt d c.N = true := by rfl) :
    O M.toMd (⟨some d, .call { callee := .value f, args := args, argTypes := ats }, ty, pos, af, none⟩ :: rest) E D H := by
  intro a w ha hw
  refine M.enter _ _ _ _ g as w rfl rfl ?_ ((hc w hw).mono ?_)
  · have h1 : args.map a.eval = vs.toArray := by
      apply Array.toList_inj.1
      simpa using ha.fit.ops hargs
    subst has
    simp only [execOp, resolve, Sem.run_bind, ha.fit.op hf, h1, Deferred.ofValue, Sem.run_pure, Result.andThen_ok, invoke, run_callFunc hg]
  · rintro e w' ⟨i, hi, rfl, hw'⟩
    exact ⟨val i, rfl, h i hi _ _ (ha.put hN) hw'⟩
/-- The call of a function by its name. -/
theorem oCall {ι : Type} {inv : ι → Prop} {val : ι → Value} {post : ι → List Res} {args : Array Operand} {ats : Array TypeId} {g : FuncId} {vs : List Value} (hargs : E.ops args.toList = some vs) (hg : goodF c.P g = true)
    (hc : ∀ w, St c.B H w → CallsIn Fence.wide 0 c.P g vs.toArray w (Ret c.B inv val post)) (h : ∀ i, inv i → O M.toMd rest ((d, val i) :: E) D (post i)) (hN : Nat.blt d c.N = true := by rfl) :
    O M.toMd (⟨some d, .call { callee := .value (.func g), args := args, argTypes := ats }, ty, pos, af, none⟩ :: rest) E D H :=
  oCallV rfl hargs (by simp) hg hc h hN

/-! ### a function -/
/-- What a result variable holds. -/
inductive ResR (P : Program) (E : Env) (H : List Res) : ResultVar → Value → Prop
  | tmp {t : Tmp} {v : Value} (h : E.find t = some v) : ResR P E H (.tmp t) v
  | cell {a b : Nat} {t tb : TypeId} {v : Value} {H' : List Res} (h : E.find a = some (.pointer (some ⟨b, 0, none⟩))) (hp : Pick H (blk b tb [v]) H') (hs : scalT P t = true) : ResR P E H (.cell a t) v
  | agg {a b n : Nat} {t tb : TypeId} {vs : List Value} {H' : List Res} (h : E.find a = some (.pointer (some ⟨b, 0, none⟩))) (hp : Pick H (blk b tb vs) H') (hs : aggN P t = some n) (hl : vs.length = n) : ResR P E H (.cell a t) (.agg vs.toArray)
inductive ResL (P : Program) (E : Env) (H : List Res) : List ResultVar → List Value → Prop
  | nil : ResL P E H [] []
  | cons {r : ResultVar} {v : Value} {rs : List ResultVar} {vs : List Value} (h : ResR P E H r v) (k : ResL P E H rs vs) : ResL P E H (r :: rs) (v :: vs)
def resVal : List Value → Value
  | [v] => v
  | vs => .tuple vs.toArray
/-- The post of a function's body: results, and what is owned at the end. -/
def fin (P : Program) (rs : List ResultVar) (R : Value → List Res → Prop) : Post
  | .ret, E, D, H => D = [] ∧ ∃ vs, ResL P E H rs vs ∧ R (resVal vs) H
  | .normal, E, D, H => D = [] ∧ ∃ vs, ResL P E H rs vs ∧ R (resVal vs) H
  | _, _, _, _ => False
def resV (tmps : Array Value) : ResultVar → Sem Value
  | .tmp t => pure (tmps.getD t undef)
  | .cell a t => do loadVar t (← asAddr (tmps.getD a undef))
theorem results_eq (fn : Func) (tmps : Array Value) : results fn tmps = (do let vs ← fn.results.mapM (resV tmps); pure (if h : vs.size = 1 then vs[0] else .tuple vs)) := rfl
theorem ResR.run {P : Program} {E : Env} {H : List Res} {r : ResultVar} {v : Value} (h : ResR P E H r v) {a : Act} (ha : Fits E a) (hw : St B H w) : (resV a.tmps r).run P w = .ok v w := by
  cases h with
  | tmp h => simp [resV, ha _ _ h]
  | cell h hp hs =>
    have hc := hw.cell hp 0 rfl
    show (Sem.run P (do loadVar _ (← asAddr (a.tmps.getD _ undef))) w) = _
    rw [ha _ _ h]
    simp [asAddr, loadVar, run_isAgg_s hs, hc]
  | @agg a' b n t tb vs H' h hp hs hl =>
    have h1 := run_isAgg_a hs w
    have h2 := run_loadCells_list (P := P) w ⟨b, 0, none⟩ vs (fun j u hu => by
      rw [add_at, Nat.zero_add]; exact hw.cell hp j hu)
    rw [hl] at h2
    show (Sem.run P (do loadVar _ (← asAddr (a.tmps.getD _ undef))) w) = _
    rw [ha _ _ h]
    simp [asAddr, loadVar, h1.1, h1.2, h2]
theorem ResL.run {P : Program} {E : Env} {H : List Res} {rs : List ResultVar} {vs : List Value} (h : ResL P E H rs vs) {a : Act} (ha : Fits E a) (hw : St B H w) : (rs.mapM (resV a.tmps)).run P w = .ok vs w := by
  induction h with
  | nil => simp
  | cons h k ih => simp [h.run ha hw, ih]
theorem ResL.results {P : Program} {E : Env} {H : List Res} {fn : Func} {vs : List Value} (h : ResL P E H fn.results.toList vs) {a : Act} (ha : Fits E a) (hw : St B H w) : (results fn a.tmps).run P w = .ok (resVal vs) w := by
  rw [results_eq]
  have h1 := h.run ha hw
  have h2 : (fn.results.mapM (resV a.tmps)).run P w = .ok vs.toArray w := by
    rw [Array.mapM_eq_mapM_toList]; simp [h1]
  simp only [Sem.run_bind, h2, Result.andThen_ok]
  match vs with
  | [] => simp [resVal]
  | [v] => simp [resVal]
  | v :: u :: vs => simp [resVal]
/-- A function's call, by its body's walk. -/
theorem enter {ι : Type} {inv : ι → Prop} {val : ι → Value} {post : ι → List Res} {f : FuncId} {fn : Func} {body : Code} {args : List Value} (hf : P.funcs[f]? = some fn) (hb : fn.body = some body) (hl : Nat.ble args.length fn.ntmps = true) (hS : St B Ψ w)
    (h : W ⟨P, Fence.wide, fn.ntmps, B, fun _ => trivial, rfl, fun h => h⟩ body (fin P fn.results.toList (fun v H => ∃ i, inv i ∧ v = val i ∧ Leads B H (post i))) ((args.zipIdx).map fun p => (p.2, p.1)) [] Ψ) :
    CallsIn Fence.wide 0 P f args.toArray w (Ret B inv val post) := by
  refine callsIn_of_wp hf hb trivial (wpIn_mono (h _ w (Ok.enter fn.ntmps args (Nat.le_of_ble_eq_true hl)) hS) ?_) rfl
  rintro e a w' ⟨E, D, H, h1, h2, h3, _⟩
  have key : D = [] → (∃ vs, ResL P E H fn.results.toList vs ∧ ∃ i, inv i ∧ resVal vs = val i ∧ Leads B H (post i)) → a.defers = [] ∧ ∃ v, (results fn a.tmps).run P w' = .ok v w' ∧ Ret B inv val post (.returned v) w' := by
    rintro hD ⟨vs, hr, i, hi, hv, hsp⟩
    exact ⟨h1.dfr.trans hD, _, hr.results h1.fit h2, i, hi, by rw [hv], hsp _ h2⟩
  cases e with
  | normal => exact key h3.1 h3.2
  | ret => exact key h3.1 h3.2
  | _ => exact h3.elim
end
end Go.Proofs.YtnidmlngkpkmlaaK
