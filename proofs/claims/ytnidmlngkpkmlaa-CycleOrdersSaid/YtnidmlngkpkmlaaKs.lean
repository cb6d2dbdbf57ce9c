/-
  The library's slices.Sort and slices.Compact at []int, as the walk meets them: out of the kit's contracts.
-/
import Derived.Test.YtnidmlngkpkmlaaKq
import Derived.Shelf.Sort.Plain
import Derived.Shelf.Slices.In.SortNone
import Derived.Shelf.Slices.CompactI
namespace Go.Proofs.YtnidmlngkpkmlaaK
set_option linter.unusedVariables false
set_option linter.unusedSimpArgs false
open Go.RowKit Go.Shelf Go.Sort
section
variable {B : Base} {w : World} {P : Program} {ρ : Ren} {W : World} {e : TypeId} {A : Option Addr} {n cp : Nat} {zs : List Int}
theorem cat_scalar {α : Type} {enc : α → Value} {h1 : ∀ x, (enc x).oneCell' = true} : ∀ {xs : List α} {cs : List Value}, Cat (Kd.scalar enc h1) W xs cs ↔ cs = xs.map enc
  | [], cs => Iff.rfl
  | x :: xs, cs => by
    constructor
    · rintro ⟨a, rest, e, hK, hR⟩
      rw [e, show a = [enc x] from hK, cat_scalar.1 hR]; rfl
    · intro h
      exact ⟨[enc x], xs.map enc, h, rfl, cat_scalar.2 rfl⟩
/-- Where a row lies. -/
theorem row_at {α : Type} {enc : α → Value} {h1 : ∀ x, (enc x).oneCell' = true} {xs : List α} (h : (row (Kd.scalar enc h1) W e (.slice A n cp) xs).q w) (h0 : 0 < n) :
    n = xs.length ∧ ∃ b cur, A = some ⟨b, 0, none⟩ ∧ w.heap[b]? = some (.cells cur e (0, 0)) ∧ n ≤ cp ∧ cp ≤ maxLen ∧ cur.size = cp ∧ cur.toList.take n = xs.map enc := by
  obtain ⟨cs, ⟨hl, ho⟩, hr⟩ := h
  have hcs := cat_scalar.1 hr
  rcases ho with ⟨e1, e2⟩ | ⟨b, cap, cur, e1, _, hh, k1, k2, k3, k4⟩
  · injection e1 with e1 e3 e4; omega
  · injection e1 with e1 e3 e4
    subst e1 e3 e4
    have e5 : (Kd.scalar enc h1).sz = 1 := rfl
    rw [e5, Nat.mul_one] at k3 k4
    exact ⟨rfl, b, cur, rfl, hh, k1, k2, k3, by rw [k4, hcs]⟩
theorem row_mk {α : Type} {enc : α → Value} {h1 : ∀ x, (enc x).oneCell' = true} {xs : List α} {b : Nat} {cur : Array Value} (hh : w.heap[b]? = some (.cells cur e (0, 0))) (hn : xs.length ≤ cp) (hm : cp ≤ maxLen) (hs : cur.size = cp) (ht : cur.toList.take xs.length = xs.map enc) :
    (row (Kd.scalar enc h1) W e (.slice (some ⟨b, 0, none⟩) xs.length cp) xs).q w := by
  have e5 : (Kd.scalar enc h1).sz = 1 := rfl
  exact ⟨xs.map enc, ⟨by rw [e5, List.length_map, Nat.mul_one], .inr ⟨b, cp, cur, rfl, Nat.zero_le _, hh, hn, hm, by rw [e5, Nat.mul_one]; exact hs, by rw [e5, Nat.mul_one]; exact ht⟩⟩, cat_scalar.2 rfl⟩
theorem row_holds {zs : List Int} {b : Nat} {cur : Array Value} {m : Nat} (hh : w.heap[b]? = some (.cells cur e (0, 0))) (ht : cur.toList.take m = zs.map (Value.int .i64)) : Holds (Value.int .i64) w b 0 zs.toArray := by
  intro j hj
  have hj' : j < zs.length := by simpa using hj
  have h1 : (cur.toList.take m)[j]? = some (.int .i64 zs[j]) := by rw [ht]; simp [hj']
  rw [List.getElem?_take] at h1
  split at h1
  · constructor
    · unfold World.cell?
      rw [hh]
      simp only [Option.isSome_none, Bool.false_eq_true, if_false, Nat.zero_add]
      rw [show (zs.toArray)[j]! = zs[j] by simp [hj']]
      simpa using h1
    · unfold World.frozen?
      rw [hh]; simp
  · cases h1
theorem put_heap {b : Nat} {cur : Array Value} {q : Nat} {os : Array Obj} {zs : List Int} (hh : w.heap[b]? = some (.cells cur e (0, 0))) :
    (grow (putRow (Value.int .i64) (Sort.ahead w q) b 0 zs.toArray) os).heap[b]? = some (.cells (putCells (Value.int .i64) 0 zs.toArray cur) e (0, 0)) := by
  have hb : b < w.heap.size := (Array.getElem?_eq_some_iff.1 hh).1
  show ((w.heap.modify b _) ++ os)[b]? = _
  rw [Array.getElem?_append_left (by simpa using hb), Array.getElem?_modify, if_pos rfl, hh]
  rfl
theorem put_chg {b : Nat} {q : Nat} {os : Array Obj} {zs : List Int} {S : Nat → Prop} (hS : S b) : Chg w (grow (putRow (Value.int .i64) (Sort.ahead w q) b 0 zs.toArray) os) S := by
  refine ⟨rfl, rfl, rfl, ?_, fun k hk hn => ?_⟩
  · show w.heap.size ≤ ((w.heap.modify b _) ++ os).size
    rw [Array.size_append, Array.size_modify]; omega
  · show ((w.heap.modify b _) ++ os)[k]? = _
    rw [Array.getElem?_append_left (by simpa using hk), Array.getElem?_modify, if_neg (by rintro rfl; exact hn hS)]
theorem put_take {cur : Array Value} {zs : List Int} (h : zs.length ≤ cur.size) : (putCells (Value.int .i64) 0 zs.toArray cur).toList.take zs.length = zs.map (Value.int .i64) := by
  apply List.ext_getElem?
  intro k
  rw [List.getElem?_take]
  split
  · rename_i hk
    have hk' : k < cur.size := by omega
    simp [putCells, hk, hk']
  · rename_i hk
    simp at hk
    simp [hk]
theorem rowI_put {zs zs' : List Int} (hS : St B [row (Kd.int .i64) W e (.slice A n cp) zs] w) (h0 : 0 < n) (hl : zs'.length = zs.length) (q : Nat) (os : Array Obj) :
    ∃ b, A = some ⟨b, 0, none⟩ ∧ St B [row (Kd.int .i64) W e (.slice A n cp) zs'] (grow (putRow (Value.int .i64) (Sort.ahead w q) b 0 zs'.toArray) os) := by
  obtain ⟨e1, b, cur, rfl, hh, k1, k2, k3, k4⟩ := row_at (hS.get .here) h0
  refine ⟨b, rfl, hS.upd' .here (put_chg rfl) ?_ (fun k hk => .inl hk)⟩
  subst e1
  rw [← hl]
  exact row_mk (put_heap hh) (by omega) k2 (by simp [putCells, k3]) (put_take (by omega))
def leI (x y : Int) : Bool := decide (x ≤ y)
theorem sort_int (Ly : Lays.n189 P ρ) (hS : St B [row (Kd.int .i64) W e (.slice A n cp) zs] w) (hz : zs.length ≤ 1000000000) :
    CallsIn Fence.wide 0 P (ρ.f 189) #[.slice A n cp] w (Ret B (fun _ : Unit => True) (fun _ => .tuple #[]) (fun _ => [row (Kd.int .i64) W e (.slice A n cp) (zs.mergeSort leI)])) := by
  refine callsIn_wide.2 ?_
  rcases Nat.eq_zero_or_pos n with rfl | h0
  · have hn : 0 = zs.length := (row_len (hS.get .here)).1
    have : zs = [] := List.eq_nil_of_length_eq_zero hn.symm
    subst this
    refine (Any.slices_Sort_int_none Ly A cp w).mono ?_
    rintro e' w' ⟨rfl, rfl⟩
    exact ⟨(), trivial, rfl, by simpa using hS⟩
  · obtain ⟨e1, b, cur, rfl, hh, k1, k2, k3, k4⟩ := row_at (hS.get .here) h0
    subst e1
    refine (Any.slices_Sort_int Ly b 0 cp zs w (row_holds hh k4) (Array.getElem?_eq_some_iff.1 hh).1 (by omega)).mono ?_
    rintro e' w' ⟨rfl, q, os, rfl⟩
    obtain ⟨b', hb, h⟩ := rowI_put (zs' := zs.mergeSort leI) hS h0 (by simp) q os
    injection hb with hb
    injection hb with hb
    subst hb
    exact ⟨(), trivial, rfl, h⟩
/-- Shorter. -/
theorem rowI_cut {zs : List Int} {m : Nat} (hS : St B [row (Kd.int .i64) W e (.slice A n cp) zs] w) (hm : m ≤ n) (h0 : 0 < m) : St B [row (Kd.int .i64) W e (.slice A m cp) (zs.take m)] w := by
  obtain ⟨e1, b, cur, rfl, hh, k1, k2, k3, k4⟩ := row_at (hS.get .here) (by omega)
  subst e1
  refine hS.conv .here (fun _ => ?_) (fun k hk => hk)
  have hl : (zs.take m).length = m := by simp; omega
  have := row_mk (enc := Value.int .i64) (h1 := fun _ => rfl) (xs := zs.take m) (W := W) hh (by omega) k2 k3 (by rw [hl, List.map_take, ← k4, List.take_take, Nat.min_eq_left hm])
  rw [hl] at this
  exact this
theorem compact_int (Ly : Lays2.n20 P ρ) (hS : St B [row (Kd.int .i64) W e (.slice A n cp) zs] w) (hz : zs.length ≤ 1000000000) :
    CallsIn Fence.wide 0 P (ρ.f 20) #[.slice A n cp] w (Ret B (fun _ : Unit => True) (fun _ => .slice A (Lib.compact zs).length cp) (fun _ => [row (Kd.int .i64) W e (.slice A (Lib.compact zs).length cp) (Lib.compact zs)])) := by
  refine callsIn_wide.2 ?_
  rcases Nat.eq_zero_or_pos n with rfl | h0
  · have hn : 0 = zs.length := (row_len (hS.get .here)).1
    have : zs = [] := List.eq_nil_of_length_eq_zero hn.symm
    subst this
    refine (Any.slices_Compact_int_empty Ly A cp w).mono ?_
    rintro e' w' ⟨rfl, rfl⟩
    exact ⟨(), trivial, rfl, hS⟩
  · obtain ⟨e1, b, cur, rfl, hh, k1, k2, k3, k4⟩ := row_at (hS.get .here) h0
    subst e1
    refine (Any.slices_Compact_int Ly b 0 cp zs w (row_holds hh k4) (by omega) (by omega)).mono ?_
    rintro e' w' ⟨rfl, q, rfl⟩
    have hle : (Lib.compact zs).length ≤ zs.length := by
      unfold Lib.compact Lib.compactUpTo
      rw [List.length_map]
      exact Nat.le_trans (List.length_filter_le _ _) (by simp)
    obtain ⟨b', hb, h⟩ := rowI_put (zs' := Lib.compact zs ++ List.replicate (zs.length - (Lib.compact zs).length) 0) hS h0 (by simp; omega) q #[]
    injection hb with hb
    injection hb with hb
    subst hb
    rw [grow_empty] at h
    have hpos : 0 < (Lib.compact zs).length := by
      cases zs with
      | nil => simp at h0
      | cons z zs =>
        unfold Lib.compact
        rw [List.length_cons]
        have key : ∀ m, 0 < (Lib.compactUpTo (z :: zs).toArray (m + 1)).length := by
          intro m
          induction m with
          | zero => rw [Lib.compactUpTo_succ, Lib.keeps_lt_one _ 0 (by omega)]; simp
          | succ m ih => rw [Lib.compactUpTo_succ, List.length_append]; omega
        exact key _
    have h2 := rowI_cut h hle hpos
    rw [List.take_append_of_le_length (Nat.le_refl _), List.take_length] at h2
    exact ⟨(), trivial, rfl, h2⟩
/-- What comes of a rising list: each once. -/
theorem compactTo_spec {zs : List Int} (hs : zs.Pairwise (· ≤ ·)) : ∀ m, m ≤ zs.length → (Lib.compactUpTo zs.toArray m).Pairwise (· < ·) ∧ (∀ x, x ∈ Lib.compactUpTo zs.toArray m ↔ ∃ j, j < m ∧ zs[j]? = some x)
  | 0, _ => by refine ⟨by simp [Lib.compactUpTo], fun x => by simp [Lib.compactUpTo]⟩
  | m + 1, hm => by
    obtain ⟨h1, h2⟩ := compactTo_spec hs m (by omega)
    have hml : m < zs.length := by omega
    have hd : ∀ j, j < zs.length → (zs.toArray)[j]! = zs[j]! := fun j hj => by simp [hj]
    have hg : zs[m]? = some zs[m] := List.getElem?_eq_getElem hml
    have hmono : ∀ i j (hi : i < zs.length) (hj : j < zs.length), i ≤ j → zs[i] ≤ zs[j] := fun i j hi hj hij => by
      rcases Nat.lt_or_ge i j with h | h
      · exact List.pairwise_iff_getElem.1 hs i j hi hj h
      · have : i = j := by omega
        subst this; exact Int.le_refl _
    rw [Lib.compactUpTo_succ]
    have hdm : (zs.toArray)[m]! = zs[m] := by simp [hml]
    cases hk : Lib.keeps zs.toArray m with
    | true =>
      simp only [if_true, hdm]
      refine ⟨List.pairwise_append.2 ⟨h1, by simp, fun x hx y hy => ?_⟩, fun x => ?_⟩
      · obtain ⟨j, hj, hjx⟩ := (h2 x).1 hx
        obtain ⟨hjl, rfl⟩ := List.getElem?_eq_some_iff.1 hjx
        rw [List.mem_singleton.1 hy]
        have hm0 : 0 < m := by omega
        have hne : ¬ zs[m] = zs[m - 1] := fun e => by
          have : Lib.keeps zs.toArray m = false := Lib.keeps_neg hm0 (by rw [hdm, show (zs.toArray)[m - 1]! = zs[m - 1] by simp [show m - 1 < zs.length by omega]]; exact e)
          rw [this] at hk; cases hk
        have a1 := hmono j (m - 1) hjl (by omega) (by omega)
        have a2 := hmono (m - 1) m (by omega) hml (by omega)
        omega
      · rw [List.mem_append, h2, List.mem_singleton]
        constructor
        · rintro (⟨j, hj, hx⟩ | rfl)
          · exact ⟨j, by omega, hx⟩
          · exact ⟨m, by omega, hg⟩
        · rintro ⟨j, hj, hx⟩
          rcases Nat.lt_or_ge j m with h | h
          · exact .inl ⟨j, h, hx⟩
          · have : j = m := by omega
            subst this
            rw [hg] at hx
            exact .inr (Option.some.inj hx).symm
    | false =>
      simp only [Bool.false_eq_true, if_false, List.append_nil]
      refine ⟨h1, fun x => ?_⟩
      rw [h2]
      constructor
      · rintro ⟨j, hj, hx⟩; exact ⟨j, by omega, hx⟩
      · rintro ⟨j, hj, hx⟩
        rcases Nat.lt_or_ge j m with h | h
        · exact ⟨j, h, hx⟩
        · have : j = m := by omega
          subst this
          have hm0 : 0 < j := by
            rcases Nat.eq_zero_or_pos j with h0 | h0
            · subst h0
              rw [Lib.keeps_lt_one _ 0 (by omega)] at hk; cases hk
            · exact h0
          have heq : zs[j] = zs[j - 1] := by
            apply Classical.byContradiction
            intro hne
            have : Lib.keeps zs.toArray j = true := Lib.keeps_pos (by rw [hdm, show (zs.toArray)[j - 1]! = zs[j - 1] by simp [show j - 1 < zs.length by omega]]; exact hne)
            rw [this] at hk; cases hk
          rw [hg] at hx
          refine ⟨j - 1, by omega, ?_⟩
          rw [List.getElem?_eq_getElem (by omega), ← heq]
          exact hx
theorem sorted_spec (zs : List Int) : (Lib.compact (zs.mergeSort leI)).Pairwise (· < ·) ∧ ∀ x, x ∈ Lib.compact (zs.mergeSort leI) ↔ x ∈ zs := by
  have hs : (zs.mergeSort leI).Pairwise (· ≤ ·) := by
    have := List.pairwise_mergeSort (le := leI) (by intro a b c; simp only [leI, decide_eq_true_eq]; omega) (by intro a b; simp only [leI, Bool.or_eq_true, decide_eq_true_eq]; omega) zs
    exact this.imp (fun h => by simpa [leI] using h)
  obtain ⟨h1, h2⟩ := compactTo_spec hs _ (Nat.le_refl _)
  refine ⟨h1, fun x => (h2 x).trans ?_⟩
  rw [← List.mem_mergeSort (le := leI) (l := zs), List.mem_iff_getElem?]
  constructor
  · rintro ⟨j, _, hx⟩; exact ⟨j, hx⟩
  · rintro ⟨j, hx⟩; exact ⟨j, (List.getElem?_eq_some_iff.1 hx).1, hx⟩
/-- Two rising lists of the same members are alike. -/
theorem rising_eq : ∀ {a b : List Int}, a.Pairwise (· < ·) → b.Pairwise (· < ·) → (∀ x, x ∈ a ↔ x ∈ b) → a = b
  | [], [], _, _, _ => rfl
  | [], y :: b, _, _, h => by have := (h y).2 (by simp); cases this
  | x :: a, [], _, _, h => by have := (h x).1 (by simp); cases this
  | x :: a, y :: b, ha, hb, h => by
    obtain ⟨ha1, ha2⟩ := List.pairwise_cons.1 ha
    obtain ⟨hb1, hb2⟩ := List.pairwise_cons.1 hb
    have hxy : x = y := by
      have h1 := (h x).1 (by simp)
      have h2 := (h y).2 (by simp)
      rcases List.mem_cons.1 h1 with h1 | h1
      · exact h1
      · rcases List.mem_cons.1 h2 with h2 | h2
        · exact h2.symm
        · have := hb1 _ h1; have := ha1 _ h2; omega
    subst hxy
    congr 1
    refine rising_eq ha2 hb2 (fun z => ⟨fun hz => ?_, fun hz => ?_⟩)
    · rcases List.mem_cons.1 ((h z).1 (List.mem_cons_of_mem _ hz)) with e | e
      · have := ha1 _ hz; omega
      · exact e
    · rcases List.mem_cons.1 ((h z).2 (List.mem_cons_of_mem _ hz)) with e | e
      · have := hb1 _ hz; omega
      · exact e
end
end Go.Proofs.YtnidmlngkpkmlaaK
