import Derived.Test.YtogaiijhicfoaaaGreatKha

/-
  The walk's rules: conversions of numbers, bytes as texts, texts put together.
-/
namespace Go.Proofs.YtogaiijhicfoaaaGreatK
set_option linter.unusedVariables false
set_option linter.unusedSimpArgs false
open Go.RowKit
section
variable {c : Cx} {M : Md c} {d : Nat} {ty : TypeId} {pos : String} {af : Array Edge} {rest : List Oper} {E : Env} {D : List Deferred} {H H' : List Res} {x y : Operand} {t t' : TypeId} {v : Value}
theorem oConvInt {k k' : IntKind} {n m : Int} (hx : E.op x = some (.int k n)) (hs : (c.P.underlying t).isSome = true) (hd : c.P.underlying t' = some (.int k')) (hw : k'.wrap n = m) (h : O M rest ((d, .int k' m) :: E) D H) (hN : Nat.blt d c.N = true := by rfl) : O M (⟨some d, .convert t t' x, ty, pos, af, none⟩ :: rest) E D H :=
  oC _ rfl hN (fun u w ha hw' => by
    obtain ⟨ut, hu⟩ := Option.isSome_iff_exists.1 hs
    subst hw
    simp [execOp, ha.op hx, convert, run_underlying hu, run_underlying hd, Conv.intToInt]) h
theorem oAddStr {s r : ByteArray} (hx : E.op x = some (.string s)) (hy : E.op y = some (.string r)) (hl : s.size + r.size ≤ 1000000000) (h : O M rest ((d, .string (s ++ r)) :: E) D H) (hN : Nat.blt d c.N = true := by rfl) : O M (⟨some d, .binOp .add t x y t', ty, pos, af, none⟩ :: rest) E D H :=
  oC _ rfl hN (fun u w ha hw => by
    have hg : (eqGuard .add t x y (.string s) (.string r)).run c.P w = .ok () w := by unfold eqGuard; split <;> simp
    have hm : ¬ ((s.size + r.size : Nat) : Int) > IntKind.i64.max := by have : IntKind.i64.max = 9223372036854775807 := rfl; omega
    simp only [execOp, ha.op hx, ha.op hy, Sem.run_bind, hg, Result.andThen_ok, binOp, Op.stringOp, if_neg hm]
    simp) h
def bytesS (xs : List Int) : ByteArray := ⟨(xs.map fun v => UInt8.ofNat v.toNat).toArray⟩
theorem u8_ofNat (n : Nat) (h : n < 256) : (UInt8.ofNat n).toNat = n := by
  show (BitVec.ofNat 8 n).toNat = n
  rw [BitVec.toNat_ofNat]
  exact Nat.mod_eq_of_lt h
theorem oConvBS {b n cp : Nat} {e : TypeId} {tb : TypeId} {cs : List Value} {xs : List Int} (hx : E.op x = some (.slice (some ⟨b, 0, none⟩) n cp)) (hs : c.P.underlying t = some (.slice e)) (he : c.P.underlying e = some (.int .u8)) (hd : c.P.underlying t' = some .string) (hp : Pick H (blk b tb cs) H') (hc : cs = xs.map (Value.int .u8)) (hn : n = xs.length) (hr : ∀ v ∈ xs, 0 ≤ v ∧ v < 256)
    (h : O M rest ((d, .string (bytesS xs)) :: E) D H) (hN : Nat.blt d c.N = true := by rfl) : O M (⟨some d, .convert t t' x, ty, pos, af, none⟩ :: rest) E D H :=
  oC _ rfl hN (fun u w ha hw => by
    subst hc hn
    have hb : w.heap[b]? = some (.cells (xs.map (Value.int .u8)).toArray tb (0, 0)) := hw.get hp
    have key := run_convert_bytes_back (P := c.P) w t t' e ⟨b, 0, none⟩ cp (xs.map fun v => UInt8.ofNat v.toNat) hs he hd (fun j hj => by
      rw [List.length_map] at hj
      rw [add_at, Nat.zero_add, cell_of hb]
      have h0 := hr _ (List.getElem_mem hj)
      simp only [List.getElem?_map, List.getElem?_eq_getElem hj, List.getElem_map, Option.map_some]
      congr 2
      have h8 := u8_ofNat xs[j].toNat (by omega)
      rw [h8]
      omega)
    rw [List.length_map] at key
    simp only [execOp, ha.op hx, Sem.run_bind, key, Result.andThen_ok]
    rfl) h
end
end Go.Proofs.YtogaiijhicfoaaaGreatK
