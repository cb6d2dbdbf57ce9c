import Derived.Test.YtcacohoanlljhaaDoorKhb
import Derived.Laws.RangeAny
import Derived.Laws.IdiomStrings

/-
  The walk's rules: strings (bytes, runes, ranges), arrays by value, slices of arrays, shifts and bits by one.
-/
namespace Go.Proofs.YtcacohoanlljhaaDoorK
set_option linter.unusedVariables false
set_option linter.unusedSimpArgs false
open Go.RowKit
section
variable {c : Cx} {M : Md c} {d : Nat} {ty : TypeId} {pos : String} {af : Array Edge} {rest : List Oper} {E : Env} {D : List Deferred} {H H' : List Res} {x y : Operand} {t t' : TypeId} {v : Value}
theorem oShr1 {a : Int} (hx : E.op x = some (.int .i64 a)) (hy : E.op y = some (.int .u64 1)) (h : O M rest ((d, .int .i64 (a / 2)) :: E) D H) (hN : Nat.blt d c.N = true := by rfl) : O M (⟨some d, .binOp .shr t x y t', ty, pos, af, none⟩ :: rest) E D H :=
  oC _ rfl hN (fun u w ha hw => by
    have e1 : a.fdiv 2 = a / 2 := Int.fdiv_eq_ediv_of_nonneg _ (by decide)
    have e2 : (2 : Int) ^ min 1 (IntKind.bits .i64) = 2 := by decide
    simp [execOp, ha.op hx, ha.op hy, run_eqGuard, binOp, Op.shift, e1, e2]) h
theorem and_one (a : Int) : IntKind.i64.wrap ((BitVec.ofInt 64 a &&& BitVec.ofInt 64 1).toNat : Int) = a % 2 := by
  have e1 : (BitVec.ofInt 64 a &&& BitVec.ofInt 64 1).toNat = (a % 2).toNat := by
    rw [BitVec.toNat_and, show (BitVec.ofInt 64 1).toNat = 1 from rfl, Nat.and_one_is_mod, BitVec.toNat_ofInt]
    omega
  rw [e1]
  have h0 := Int.emod_nonneg a (show (2 : Int) ≠ 0 by decide)
  have h1 := Int.emod_lt_of_pos a (show (0 : Int) < 2 by decide)
  rw [wrap_in (by unfold in64; omega)]
  omega
theorem oAnd1 {a : Int} (hx : E.op x = some (.int .i64 a)) (hy : E.op y = some (.int .i64 1)) (h : O M rest ((d, .int .i64 (a % 2)) :: E) D H) (hN : Nat.blt d c.N = true := by rfl) : O M (⟨some d, .binOp .and t x y t', ty, pos, af, none⟩ :: rest) E D H :=
  oAri _ hx hy (fun P w => by
    have := and_one a
    simp only [binOp, ne_eq, not_true_eq_false, ite_false, Op.intBits]
    show (Pure.pure (Value.int .i64 (IntKind.i64.wrap ((BitVec.ofInt 64 a &&& BitVec.ofInt 64 1).toNat : Int))) : Sem Value).run P w = _
    rw [this]; rfl) h hN
/-- The byte at a place of a text. -/
def byteAt (s : ByteArray) (i : Nat) : Int := ((s[i]?).map fun b => (b.toNat : Int)).getD 0
theorem byteAt_eq {s : ByteArray} {i : Nat} (h : i < s.size) : byteAt s i = ((s[i]'h).toNat : Int) := by
  unfold byteAt
  rw [getElem?_pos s i h]; rfl
theorem oIndexStr {s : ByteArray} {k : IntKind} {i : Nat} (hx : E.op x = some (.string s)) (hy : E.op y = some (.int k (i : Int))) (ht : c.P.underlying t = some .string) (hi : i < s.size) (h : O M rest ((d, .int .u8 (byteAt s i)) :: E) D H) (hN : Nat.blt d c.N = true := by rfl) : O M (⟨some d, .index t x y, ty, pos, af, none⟩ :: rest) E D H :=
  oC _ rfl hN (fun u w ha hw => by
    have e1 : s[i]? = some (s[i]'hi) := getElem?_pos s i hi
    simp [execOp, ha.op hx, ha.op hy, Instr.index, asIntOf, run_underlying ht, e1, byteAt_eq hi]) h
theorem oIndexArr {cs : List Value} {k : IntKind} {i n : Nat} {v : Value} {z : Int} (hx : E.op x = some (.agg cs.toArray)) (hy : E.op y = some (.int k z)) (hz : z = (i : Int)) (ht : arrT c.P t = some (n, 1)) (hs : ((match c.P.underlying t with | some (.array _ e) => scalT c.P e | _ => false)) = true) (hi : i < n) (hv : cs[i]? = some v) (h : O M rest ((d, v) :: E) D H) (hN : Nat.blt d c.N = true := by rfl) : O M (⟨some d, .index t x y, ty, pos, af, none⟩ :: rest) E D H :=
  oC _ rfl hN (fun u w ha hw => by
    subst hz
    unfold arrT at ht
    cases hu : c.P.underlying t with
    | none => rw [hu] at ht; cases ht
    | some ut =>
      rw [hu] at ht hs
      cases ut <;> simp only [Option.map_eq_some_iff, reduceCtorEq, false_and, exists_false] at ht
      case array n' e' =>
        obtain ⟨inf, h2, h3⟩ := ht
        injection h3 with h4 h5
        subst h4
        have h6 := run_isAgg_s hs w
        simp [execOp, ha.op hx, ha.op hy, Instr.index, asIntOf, run_underlying hu, sizeOf, typeInfo, h2, h5, hi, part, h6, hv]) h
theorem oBuildArr {ps : Array (Nat × Operand)} {vs : List (Nat × Value)} {zs us : List Value} {n s : Nat} (hx : Parts E ps.toList vs) (hz : ((c.P.info? t).map (·.zero)) = some (some (.agg zs.toArray))) (ht : arrT c.P t = some (n, s)) (hb : Built (fun i => some (i * s, s)) zs vs us) (h : O M rest ((d, .agg us.toArray) :: E) D H) (hN : Nat.blt d c.N = true := by rfl) : O M (⟨some d, .build t ps, ty, pos, af, none⟩ :: rest) E D H :=
  oC _ rfl hN (fun u w hf hw => by
    have h2 : (ps.map fun (i, x) => (i, u.eval x)) = vs.toArray := by
      apply Array.toList_inj.1
      simpa using hx.spec hf
    obtain ⟨i, hi, hz⟩ := Option.map_eq_some_iff.1 hz
    unfold arrT at ht
    have key : (Instr.build t vs.toArray).run c.P w = .ok (.agg us.toArray) w := by
      cases hu : c.P.underlying t with
      | none => rw [hu] at ht; cases ht
      | some ut =>
        rw [hu] at ht
        cases ut <;> simp only [Option.map_eq_some_iff, reduceCtorEq, false_and, exists_false] at ht
        case array n' e' =>
          obtain ⟨inf, h3, h4⟩ := ht
          injection h4 with h5 h6
          have hbs := hb.spec
          simp [Instr.build, zeroValue, typeInfo, hi, hz, run_underlying hu, sizeOf, h3, h6, Value.cells, hbs]
    simp only [execOp, Sem.run_bind, h2, key, Result.andThen_ok, Sem.run_pure]) h
theorem wCondTd {x' y' : Code} {Q : Post} {D' : List Deferred} {H' : List Res} {o : Operand} {p : Prop} [Decidable p] (hp : p) (hc : E.op o = some (.bool (decide p))) (h : W c x' Q E D' H') : W c (.cond o x' y') Q E D' H' := wCondT (by rw [hc, decide_eq_true hp]) h
theorem wCondFd {x' y' : Code} {Q : Post} {D' : List Deferred} {H' : List Res} {o : Operand} {p : Prop} [Decidable p] (hp : ¬ p) (hc : E.op o = some (.bool (decide p))) (h : W c y' Q E D' H') : W c (.cond o x' y') Q E D' H' := wCondF (by rw [hc, decide_eq_false hp]) h
theorem wCondTb {x' y' : Code} {Q : Post} {D' : List Deferred} {H' : List Res} {o : Operand} {b : Bool} (hp : b = true) (hc : E.op o = some (.bool b)) (h : W c x' Q E D' H') : W c (.cond o x' y') Q E D' H' := wCondT (by rw [hc, hp]) h
theorem wCondFb {x' y' : Code} {Q : Post} {D' : List Deferred} {H' : List Res} {o : Operand} {b : Bool} (hp : b = false) (hc : E.op o = some (.bool b)) (h : W c y' Q E D' H') : W c (.cond o x' y') Q E D' H' := wCondF (by rw [hc, hp]) h
/-! ### ranges over texts -/
def nextV (s : ByteArray) (p : Nat) : Value := if p < s.size then .tuple #[.bool true, .int .i64 (p : Int), .int .i32 ((Utf8.decode s p).1 : Int)] else .tuple #[.bool false]
def nextP (s : ByteArray) (p : Nat) : Nat := if p < s.size then p + (Utf8.decode s p).2 else p
theorem nextV_T {s : ByteArray} {p : Nat} (h : p < s.size) (ha : byteAt s p < 128) : nextV s p = .tuple #[.bool true, .int .i64 (p : Int), .int .i32 (byteAt s p)] := by
  rw [byteAt_eq h] at *
  unfold nextV
  rw [if_pos h, decode_ascii s p h (by omega)]
theorem nextP_T {s : ByteArray} {p : Nat} (h : p < s.size) (ha : byteAt s p < 128) : nextP s p = p + 1 := by
  rw [byteAt_eq h] at ha
  unfold nextP
  rw [if_pos h, decode_ascii s p h (by omega)]
theorem oRangeStr {M : Me c} {s : ByteArray} (hx : E.op x = some (.string s)) (ht : c.P.underlying t = some .string) (h : ∀ b, O M.toMd rest ((d, .pointer (some ⟨b, 0, none⟩)) :: E) D (ob b (.stringIter s 0) :: H)) (hN : Nat.blt d c.N = true := by rfl) : O M.toMd (⟨some d, .range t x, ty, pos, af, none⟩ :: rest) E D H :=
  oEff rfl hN fun a w ha hw => by
    refine ⟨_, w.alloc (.stringIter s 0), _, ?_, hw.alloc _, h w.heap.size⟩
    simp [execOp, ha.op hx, run_range_string w t s ht, World.iter]
theorem oNextStr {M : Me c} {s : ByteArray} {b p : Nat} (hx : E.op x = some (.pointer (some ⟨b, 0, none⟩))) (hp : Pick H (ob b (.stringIter s p)) H') (h : O M.toMd rest ((d, nextV s p) :: E) D (ob b (.stringIter s (nextP s p)) :: H')) (hN : Nat.blt d c.N = true := by rfl) : O M.toMd (⟨some d, .next x true, ty, pos, af, none⟩ :: rest) E D H :=
  oEff rfl hN fun a w ha hw => by
    have hb : w.heap[b]? = some (.stringIter s p) := hw.get hp
    by_cases hps : p < s.size
    · refine ⟨_, w.putObj b (.stringIter s (nextP s p)), ob b (.stringIter s (nextP s p)) :: H', ?_, hw.upd' hp (Chg.putObj w b _) (World.putObj_heap_same (Array.getElem?_eq_some_iff.1 hb).1) (fun k hk => .inl hk), h⟩
      simp [execOp, ha.op hx, Instr.next, getObj, setObj, Sem.run, hb, hps, nextV, nextP, goInt, World.putObj]
    · refine ⟨_, w, _, ?_, ?_, h⟩
      · simp [execOp, ha.op hx, Instr.next, getObj, Sem.run, hb, hps, nextV]
      · unfold nextP; rw [if_neg hps]; exact hw.perm hp.perm
theorem oExtN {s : ByteArray} {p : Nat} (hx : E.op x = some (nextV s p)) (h : O M rest ((d, .bool (decide (p < s.size))) :: E) D H) (hN : Nat.blt d c.N = true := by rfl) : O M (⟨some d, .extract x 0, ty, pos, af, none⟩ :: rest) E D H :=
  oC _ rfl hN (fun u w ha hw => by
    unfold nextV at hx
    by_cases hps : p < s.size
    · rw [if_pos hps] at hx; simp [execOp, ha.op hx, Instr.extract, hps]
    · rw [if_neg hps] at hx; simp [execOp, ha.op hx, Instr.extract, hps]) h
/-! ### a slice of an array; cells at a place that is reckoned -/
theorem oSliceArr {b o l m n s : Nat} {k k' : IntKind} {z1 z2 : Operand} (hx : E.op x = some (.pointer (some ⟨b, o, none⟩))) (hl : E.op z1 = some (.int k (l : Int))) (hm : E.op z2 = some (.int k' (m : Int))) (ht : arrT c.P t = some (n, s)) (h1 : l < n) (h2 : l ≤ m ∧ m ≤ n)
    (h : O M rest ((d, .slice (some ⟨b, o + l * s, none⟩) (m - l) (n - l)) :: E) D H) (hN : Nat.blt d c.N = true := by rfl) : O M (⟨some d, .slice t x (some z1) (some z2) none, ty, pos, af, none⟩ :: rest) E D H :=
  oC _ rfl hN (fun u w ha hw => by
    unfold arrT at ht
    cases hu : c.P.underlying t with
    | none => rw [hu] at ht; cases ht
    | some ut =>
      rw [hu] at ht
      cases ut <;> simp only [Option.map_eq_some_iff, reduceCtorEq, false_and, exists_false] at ht
      case array n' e' =>
        obtain ⟨inf, h3, h4⟩ := ht
        injection h4 with h5 h6
        subst h5
        have e1 : ¬ n' = l := by omega
        simp [execOp, ha.op hx, ha.op hl, ha.op hm, Instr.sliceAt, run_underlying hu, Instr.sureAddr, Instr.sliceBounds, Instr.sliceBound, asIntOf, h2, sizeOf, typeInfo, h3, h6, e1, add_at]) h
theorem oIdxB {b o i n cp s m : Nat} {k : IntKind} {e : TypeId} (hx : E.op x = some (.slice (some ⟨b, o, none⟩) n cp)) (hy : E.op y = some (.int k (i : Int))) (ht : elemT c.P t = some (e, s)) (hi : i < n) (hm : o + i * s = m) (h : O M rest ((d, .pointer (some ⟨b, m, none⟩)) :: E) D H) (hN : Nat.blt d c.N = true := by rfl) : O M (⟨some d, .indexAddr t x y, ty, pos, af, none⟩ :: rest) E D H :=
  oC _ rfl hN (fun u w ha hw => by
    have e1 : (⟨b, o, none⟩ : Addr).add (i * s) = ⟨b, m, none⟩ := by rw [add_at, hm]
    simp [execOp, ha.op hx, ha.op hy, run_indexAt ht ⟨b, o, none⟩ n cp i hi k w, e1]) h
/-! ### runes -/
def runesL (s : ByteArray) : List Int := (List.range s.size).map (byteAt s)
def Asc (s : ByteArray) : Prop := ∀ i, i < s.size → byteAt s i < 128
theorem runes_from {s : ByteArray} (h : Asc s) : ∀ (bound i : Nat) (acc : Array Value), s.size ≤ bound + i → i ≤ s.size → Conv.runesFrom s bound i acc = acc ++ (((runesL s).drop i).map (Value.int .i32)).toArray
  | 0, i, acc, h1, h2 => by
    unfold Conv.runesFrom
    rw [List.drop_eq_nil_of_le (by simp [runesL]; omega)]; simp
  | bound + 1, i, acc, h1, h2 => by
    unfold Conv.runesFrom
    by_cases hi : i < s.size
    · rw [if_pos hi]
      have ha := h i hi
      have hb := byteAt_eq hi
      rw [hb] at ha
      have hg : (runesL s)[i]? = some (byteAt s i) := by simp [runesL, hi]
      obtain ⟨hl, he⟩ := List.getElem?_eq_some_iff.1 hg
      rw [decode_ascii s i hi (by omega)]
      dsimp only
      rw [runes_from h bound (i + 1) _ (by omega) (by omega), List.drop_eq_getElem_cons hl, he, hb]
      simp
    · rw [if_neg hi, List.drop_eq_nil_of_le (by simp [runesL]; omega)]; simp
theorem oConvRunes {M : Me c} {s : ByteArray} {e : TypeId} {W : World} (hx : E.op x = some (.string s)) (hs : c.P.underlying t = some .string) (hd : c.P.underlying t' = some (.slice e)) (he : c.P.underlying e = some (.int .i32)) (ha : Asc s) (hl : s.size ≤ 1000000)
    (h : ∀ b cp, O M.toMd rest ((d, .slice (some ⟨b, 0, none⟩) s.size cp) :: E) D (row (Kd.int .i32) W e (.slice (some ⟨b, 0, none⟩) s.size cp) (runesL s) :: H)) (hN : Nat.blt d c.N = true := by rfl) : O M.toMd (⟨some d, .convert t t' x, ty, pos, af, none⟩ :: rest) E D H :=
  oEff rfl hN fun a w hfa hw => by
    have hrf := runes_from ha s.size 0 #[] (by omega) (by omega)
    rw [List.drop_zero, Array.empty_append] at hrf
    have hsz : (Conv.runesFrom s s.size 0 #[]).size = s.size := by rw [hrf]; simp [runesL]
    have hr := run_runes_of_string (P := c.P) w t t' e s hs hd he (by rw [hsz]; omega)
    rw [hsz] at hr
    have hge := grownCap_ge w s.size 0 e
    have hle := grownCap_le_maxLen w s.size 0 e (by have : maxLen = 9223372036854775807 := rfl; omega)
    refine ⟨_, w.drew.alloc (.cells (Conv.runesFrom s s.size 0 #[] ++ Array.replicate (grownCap w s.size 0 e - s.size) (.int .i32 0)) e), _, ?_, ?_, h w.heap.size (grownCap w s.size 0 e)⟩
    · simp only [execOp, hfa.op hx, Sem.run_bind, hr]; rfl
    · have hcl : (runesL s).length = s.size := by simp [runesL]
      refine (hw.drew).add (Chg.alloc w.drew _ _) ?_ (fun k hk => ?_)
      · have := row_mk (α := Int) (enc := Value.int .i32) (h1 := fun _ => rfl) (W := W) (e := e) (xs := runesL s) (b := w.heap.size) (cp := grownCap w s.size 0 e) (w := w.drew.alloc (.cells (Conv.runesFrom s s.size 0 #[] ++ Array.replicate (grownCap w s.size 0 e - s.size) (.int .i32 0)) e)) (World.alloc_heap_new w.drew _) (by rw [hcl]; exact hge) hle (by rw [Array.size_append, hsz]; simp; omega) (by rw [hrf, Array.toList_append, List.toList_toArray, List.take_append_of_le_length (by simp), ← List.length_map (f := Value.int .i32), List.take_length])
        rw [hcl] at this
        exact this
      · have : some w.heap.size = some k := hk
        injection this with h; rw [← h]; exact Nat.le_refl _
end
end Go.Proofs.YtcacohoanlljhaaDoorK
