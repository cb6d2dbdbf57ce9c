import Derived.Test.YtcacohoanlljhaaDoorKha
import Derived.Shelf.Sort.Plain
import Derived.Shelf.Slices.In.SortNone
import Derived.Shelf.Slices.In.CompactS
import Derived.Shelf.Slices.In.Reads
import Derived.Shelf.Strconv.Itoa3

/-
  The library at texts (slices.Sort, Compact, Index at []string; strconv.Itoa), the order of texts, runes beyond ASCII, and calls that keep a table.
-/
namespace Go.Proofs.YtcacohoanlljhaaDoorK
set_option linter.unusedVariables false
set_option linter.unusedSimpArgs false
open Go.RowKit Go.Shelf Go.Sort
section
variable {B : Base} {w : World} {P : Program} {ρ : Ren} {W : World} {e : TypeId} {A : Option Addr} {n cp : Nat} {zs : List ByteArray}
def toL (s : ByteArray) : List UInt8 := s.data.toList
def ofL (l : List UInt8) : ByteArray := ⟨l.toArray⟩
theorem ofL_toL (s : ByteArray) : ofL (toL s) = s := by cases s; rfl
theorem toL_ofL (l : List UInt8) : toL (ofL l) = l := by simp [toL, ofL]
theorem encS_toL (s : ByteArray) : encStr (toL s) = .string s := by
  show Value.string (ofL (toL s)) = _
  rw [ofL_toL]
theorem map_encS (l : List ByteArray) : (l.map toL).map encStr = l.map Value.string := by
  rw [List.map_map]
  exact List.map_congr_left (fun s _ => encS_toL s)
theorem map_encS' (l : List (List UInt8)) : (l.map ofL).map Value.string = l.map encStr := by
  rw [List.map_map]; rfl
theorem rowS_holds {b : Nat} {cur : Array Value} {m : Nat} (hh : w.heap[b]? = some (.cells cur e (0, 0))) (ht : cur.toList.take m = zs.map Value.string) : Holds encStr w b 0 (zs.map toL).toArray := by
  intro j hj
  have hj' : j < zs.length := by simpa using hj
  have h1 : (cur.toList.take m)[j]? = some (.string zs[j]) := by rw [ht]; simp [hj']
  rw [List.getElem?_take] at h1
  split at h1
  · constructor
    · unfold World.cell?
      rw [hh]
      simp only [Option.isSome_none, Bool.false_eq_true, if_false, Nat.zero_add]
      rw [show ((zs.map toL).toArray)[j]! = toL zs[j] by simp [hj'], encS_toL]
      simpa using h1
    · unfold World.frozen?
      rw [hh]; simp
  · cases h1
theorem putS_heap {b : Nat} {cur : Array Value} {q : Nat} {os : Array Obj} {zs : List (List UInt8)} (hh : w.heap[b]? = some (.cells cur e (0, 0))) :
    (grow (putRow encStr (Sort.ahead w q) b 0 zs.toArray) os).heap[b]? = some (.cells (putCells encStr 0 zs.toArray cur) e (0, 0)) := by
  have hb : b < w.heap.size := (Array.getElem?_eq_some_iff.1 hh).1
  show ((w.heap.modify b _) ++ os)[b]? = _
  rw [Array.getElem?_append_left (by simpa using hb), Array.getElem?_modify, if_pos rfl, hh]
  rfl
theorem putS_chg {b : Nat} {q : Nat} {os : Array Obj} {zs : List (List UInt8)} {S : Nat → Prop} (hS : S b) : Chg w (grow (putRow encStr (Sort.ahead w q) b 0 zs.toArray) os) S := by
  refine ⟨rfl, rfl, rfl, ?_, fun k hk hn => ?_⟩
  · show w.heap.size ≤ ((w.heap.modify b _) ++ os).size
    rw [Array.size_append, Array.size_modify]; omega
  · show ((w.heap.modify b _) ++ os)[k]? = _
    rw [Array.getElem?_append_left (by simpa using hk), Array.getElem?_modify, if_neg (by rintro rfl; exact hn hS)]
theorem putS_take {cur : Array Value} {zs : List (List UInt8)} (h : zs.length ≤ cur.size) : (putCells encStr 0 zs.toArray cur).toList.take zs.length = (zs.map ofL).map Value.string := by
  rw [map_encS']
  apply List.ext_getElem?
  intro k
  rw [List.getElem?_take]
  split
  · rename_i hk
    have hk' : k < cur.size := by omega
    simp [putCells, hk, hk']
  · rename_i hk
    simp at hk
    simp [hk]
theorem rowS_put {zs : List ByteArray} {zs' : List (List UInt8)} (hS : St B [row Kd.string W e (.slice A n cp) zs] w) (h0 : 0 < n) (hl : zs'.length = zs.length) (q : Nat) (os : Array Obj) :
    ∃ b, A = some ⟨b, 0, none⟩ ∧ St B [row Kd.string W e (.slice A n cp) (zs'.map ofL)] (grow (putRow encStr (Sort.ahead w q) b 0 zs'.toArray) os) := by
  obtain ⟨e1, b, cur, rfl, hh, k1, k2, k3, k4⟩ := row_at (enc := Value.string) (h1 := fun _ => rfl) (hS.get .here) h0
  refine ⟨b, rfl, hS.upd' .here (putS_chg rfl) ?_ (fun k hk => .inl hk)⟩
  subst e1
  have hl' : zs.length = (zs'.map ofL).length := by simp [hl]
  rw [hl']
  exact row_mk (enc := Value.string) (h1 := fun _ => rfl) (putS_heap hh) (by omega) k2 (by simp [putCells, k3]) (by rw [List.length_map]; exact putS_take (by omega))
def leB (x y : List UInt8) : Bool := decide (x ≤ y)
/-- Texts, rising. -/
def srtS (zs : List ByteArray) : List ByteArray := ((zs.map toL).mergeSort leB).map ofL
/-- Each run of texts once. -/
def cmpS (zs : List ByteArray) : List ByteArray := (Lib.compact (zs.map toL)).map ofL
theorem sort_str (Ly : Lays.n190 P ρ) (hS : St B [row Kd.string W e (.slice A n cp) zs] w) (hz : zs.length ≤ 1000000000) :
    CallsIn Fence.wide 0 P (ρ.f 190) #[.slice A n cp] w (Ret B (fun _ : Unit => True) (fun _ => .tuple #[]) (fun _ => [row Kd.string W e (.slice A n cp) (srtS zs)])) := by
  refine callsIn_wide.2 ?_
  rcases Nat.eq_zero_or_pos n with rfl | h0
  · have hn : 0 = zs.length := (row_len (hS.get .here)).1
    have : zs = [] := List.eq_nil_of_length_eq_zero hn.symm
    subst this
    refine (Any.slices_Sort_string_none Ly A cp w).mono ?_
    rintro e' w' ⟨rfl, rfl⟩
    exact ⟨(), trivial, rfl, by simpa [srtS] using hS⟩
  · obtain ⟨e1, b, cur, rfl, hh, k1, k2, k3, k4⟩ := row_at (enc := Value.string) (h1 := fun _ => rfl) (hS.get .here) h0
    subst e1
    have hc := Any.slices_Sort_string Ly b 0 cp (zs.map toL) w (rowS_holds hh k4) (Array.getElem?_eq_some_iff.1 hh).1 (by rw [List.length_map]; omega)
    rw [List.length_map] at hc
    refine hc.mono ?_
    rintro e' w' ⟨rfl, q, os, rfl⟩
    obtain ⟨b', hb, h⟩ := rowS_put (zs' := (zs.map toL).mergeSort leB) hS h0 (by simp) q os
    injection hb with hb
    injection hb with hb
    subst hb
    exact ⟨(), trivial, rfl, h⟩
theorem rowS_cut {zs : List ByteArray} {m : Nat} (hS : St B [row Kd.string W e (.slice A n cp) zs] w) (hm : m ≤ n) (h0 : 0 < m) : St B [row Kd.string W e (.slice A m cp) (zs.take m)] w := by
  obtain ⟨e1, b, cur, rfl, hh, k1, k2, k3, k4⟩ := row_at (enc := Value.string) (h1 := fun _ => rfl) (hS.get .here) (by omega)
  subst e1
  refine hS.conv .here (fun _ => ?_) (fun k hk => hk)
  have hl : (zs.take m).length = m := by simp; omega
  have := row_mk (enc := Value.string) (h1 := fun _ => rfl) (xs := zs.take m) (W := W) hh (by omega) k2 k3 (by rw [hl, List.map_take, ← k4, List.take_take, Nat.min_eq_left hm])
  rw [hl] at this
  exact this
theorem compact_str (Ly : Lays.n194 P ρ) (hS : St B [row Kd.string W e (.slice A n cp) zs] w) (hz : zs.length ≤ 1000000000) :
    CallsIn Fence.wide 0 P (ρ.f 194) #[.slice A n cp] w (Ret B (fun _ : Unit => True) (fun _ => .slice A (cmpS zs).length cp) (fun _ => [row Kd.string W e (.slice A (cmpS zs).length cp) (cmpS zs)])) := by
  refine callsIn_wide.2 ?_
  have hln : (cmpS zs).length = (Lib.compact (zs.map toL)).length := by unfold cmpS; rw [List.length_map]
  rw [hln]
  rcases Nat.eq_zero_or_pos n with rfl | h0
  · have hn : 0 = zs.length := (row_len (hS.get .here)).1
    have : zs = [] := List.eq_nil_of_length_eq_zero hn.symm
    subst this
    refine (calls_of_every_depth fun D => AnyS.slices_Compact_string_empty_in Ly D A cp w).mono ?_
    rintro e' w' ⟨rfl, rfl⟩
    exact ⟨(), trivial, rfl, hS⟩
  · obtain ⟨e1, b, cur, rfl, hh, k1, k2, k3, k4⟩ := row_at (enc := Value.string) (h1 := fun _ => rfl) (hS.get .here) h0
    subst e1
    have hc := calls_of_every_depth fun D => AnyS.slices_Compact_string_in Ly D b 0 cp (zs.map toL) w (rowS_holds hh k4) (by rw [List.length_map]; omega) (by rw [List.length_map]; omega)
    rw [List.length_map] at hc
    refine hc.mono ?_
    rintro e' w' ⟨rfl, q, rfl⟩
    have hle : (Lib.compact (zs.map toL)).length ≤ zs.length := by
      unfold Lib.compact Lib.compactUpTo
      rw [List.length_map]
      exact Nat.le_trans (List.length_filter_le _ _) (by simp)
    obtain ⟨b', hb, h⟩ := rowS_put (zs' := Lib.compact (zs.map toL) ++ List.replicate (zs.length - (Lib.compact (zs.map toL)).length) []) hS h0 (by simp; omega) q #[]
    injection hb with hb
    injection hb with hb
    subst hb
    rw [grow_empty] at h
    have hpos : 0 < (Lib.compact (zs.map toL)).length := by
      cases zs with
      | nil => simp at h0
      | cons z zs =>
        unfold Lib.compact
        rw [List.map_cons, List.length_cons]
        have key : ∀ m, 0 < (Lib.compactUpTo (toL z :: zs.map toL).toArray (m + 1)).length := by
          intro m
          induction m with
          | zero => rw [Lib.compactUpTo_succ, Lib.keeps_lt_one _ 0 (by omega)]; simp
          | succ m ih => rw [Lib.compactUpTo_succ, List.length_append]; omega
        exact key _
    have h2 := rowS_cut h hle hpos
    rw [List.map_append, List.take_append_of_le_length (by rw [List.length_map]; exact Nat.le_refl _), List.take_of_length_le (by rw [List.length_map]; exact Nat.le_refl _)] at h2
    exact ⟨(), trivial, rfl, h2⟩
theorem index_str (Ly : Lays.n109 P ρ) (hS : St B [] w) (hC : Kd.string.C B.e A zs) (x : ByteArray) :
    CallsIn Fence.wide 0 P (ρ.f 109) #[.slice A zs.length cp, .string x] w (Ret B (fun _ : Unit => True) (fun _ => .int .i64 (Lib.idxOfS zs x)) (fun _ => [])) := by
  refine callsIn_wide.2 ?_
  rcases Nat.eq_zero_or_pos zs.length with h0 | h0
  · have : zs = [] := List.eq_nil_of_length_eq_zero h0
    subst this
    refine (calls_of_every_depth fun D => AnyS.slices_Index_string_empty_in Ly D A cp x w).mono ?_
    rintro e' w' ⟨rfl, rfl⟩
    exact ⟨(), trivial, rfl, hS⟩
  · obtain ⟨hl, hc⟩ := Kd.C_grow (Base.grow hS.ok) hC
    obtain ⟨⟨b, o, p⟩, rfl, hd⟩ := hc h0
    have hcell : ∀ j, j < zs.length → w.cell? ((⟨b, o, p⟩ : Addr).add j) = some (.string (zs.getD j ByteArray.empty)) := fun j hj => by
      obtain ⟨c, hK, h⟩ := hd j zs[j] (List.getElem?_eq_getElem hj)
      have hK' : c = [Value.string zs[j]] := hK
      have h1 := h 0 (.string zs[j]) (by rw [hK']; rfl)
      rw [show j * (Kd.string).sz + 0 = j from Nat.mul_one j] at h1
      rw [List.getD_eq_getElem?_getD, List.getElem?_eq_getElem hj]
      exact h1
    obtain rfl : p = none := by
      cases p with
      | none => rfl
      | some q =>
        have h1 := hcell 0 h0
        unfold World.cell? Addr.add at h1
        simp only [if_true, Option.isSome_some] at h1
        split at h1 <;> cases h1
    have hcell : ∀ j, j < zs.length → w.cell? ⟨b, o + j, none⟩ = some (.string (zs.getD j ByteArray.empty)) := fun j hj => by
      have h1 := hcell j hj
      unfold Addr.add at h1
      split at h1
      · rename_i e; subst e; exact h1
      · exact h1
    have hc := calls_of_every_depth fun D => AnyS.slices_Index_string_in Ly D b o zs.length cp zs x w (Nat.le_refl _) hl hcell
    rw [List.take_length] at hc
    refine hc.mono ?_
    rintro e' w' ⟨rfl, rfl⟩
    exact ⟨(), trivial, rfl, hS⟩
/-- The base keeps a table. -/
def Keeps (B B' : Base) : Prop := ∀ (k : Nat) (cs : Array Value) (t : TypeId) (f : Nat × Nat), B.e.heap[k]? = some (Obj.cells cs t f) → B'.e.heap[k]? = some (Obj.cells cs t f)
theorem Keeps.trans {B B' B'' : Base} (h : Keeps B B') (k : Keeps B' B'') : Keeps B B'' := fun i cs t f hi => k i cs t f (h i cs t f hi)
theorem tab_of {e e' : World} {name : String} {k : IntKind} {zs : List Int} (h : ∀ (i : Nat) (cs : Array Value) (t : TypeId) (f : Nat × Nat), e.heap[i]? = some (Obj.cells cs t f) → e'.heap[i]? = some (Obj.cells cs t f)) (hT : Lib.TabIs P e name k zs) : Lib.TabIs P e' name k zs := by
  unfold Lib.TabIs World.var? at *
  cases hg : P.globalNamed name with
  | none => rw [hg] at hT; simp at hT
  | some g =>
    rw [hg] at hT
    simp only [Option.bind_some] at hT ⊢
    split at hT
    · rename_i cs t f hh
      rw [h _ _ _ _ hh]; exact hT
    · cases hT
theorem Keeps.tab {B B' : Base} {name : String} {k : IntKind} {zs : List Int} (h : Keeps B B') (hT : Lib.TabIs P B.e name k zs) : Lib.TabIs P B'.e name k zs := tab_of h hT
theorem base_block {B : Base} {w : World} (hB : B.ok w) {i : Nat} {cs : Array Value} {t : TypeId} {f : Nat × Nat} (h : B.e.heap[i]? = some (Obj.cells cs t f)) : ¬ B.O i ∧ i < B.w.heap.size ∧ w.heap[i]? = some (Obj.cells cs t f) := by
  rw [B.e_heap] at h
  by_cases ho : B.O i
  · rw [if_pos ho] at h
    cases hb : B.w.heap[i]? <;> simp [hb] at h
  · rw [if_neg ho] at h
    have hk := (Array.getElem?_eq_some_iff.1 h).1
    exact ⟨ho, hk, (hB.block _ hk ho).trans h⟩
theorem tab_now {B : Base} {w : World} {name : String} {k : IntKind} {zs : List Int} (hB : B.ok w) (hT : Lib.TabIs P B.e name k zs) : Lib.TabIs P w name k zs := tab_of (fun i cs t f h => (base_block hB h).2.2) hT
/-- A call; the base of what is called keeps what the base's blocks hold. -/
theorem frameK {Φ Φ' Ψ : List Res} {ι : Type} {inv : ι → Prop} {val : ι → Value} {post : ι → List Res} {g : FuncId} {args : Array Value} (hS : St B Φ w) (hs : Split Φ Ψ Φ') (h : ∀ B', Grow B.e B'.e → Keeps B B' → St B' Ψ w → CallsIn Fence.wide 0 P g args w (Ret B' inv val post)) :
    CallsIn Fence.wide 0 P g args w (Ret B inv val (fun i => post i ++ Φ')) := by
  have hS' := hS.perm hs.perm
  refine (h (B.call w Ψ) hS'.egrow (fun i cs t f hi => ?_) hS'.lend).mono ?_
  · obtain ⟨h1, h2, h3⟩ := base_block hS'.ok hi
    rw [Base.e_heap, if_neg]
    · exact h3
    · rintro ⟨s, hs, hsk⟩
      obtain ⟨k1, k2⟩ := (Sep.all _ _ _).1 hS'.head.sep
      rcases (k1 s hs).2 i hsk with h4 | h4
      · exact h1 h4
      · exact absurd h2 (by have h5 : B.w.heap.size ≤ i := h4; omega)
  · rintro e w' ⟨i, hi, he, hw⟩
    exact ⟨i, hi, he, hS'.give hw⟩
def TabP (P : Program) (e : World) : Prop := Lib.TabIs P e "internal/strconv.uint64pow10" .u64 Lib.pow10Tab
theorem itoa (Ly : LaysM.n171 P ρ) (hS : St B [] w) (hT : TabP P B.e) (z : Int) (h0 : -9223372036854775808 ≤ z) (h1 : z ≤ 9223372036854775807) :
    CallsIn Fence.wide 0 P (ρ.f 171) #[.int .i64 z] w (Ret B (fun _ : Unit => True) (fun _ => .string ⟨(Lib.itoa z).toArray⟩) (fun _ => [])) := by
  refine callsIn_wide.2 ?_
  refine (Any.strconv_Itoa Ly z h0 h1 w (tab_now hS.ok hT)).mono ?_
  rintro e' w' ⟨rfl, k, os, rfl⟩
  refine ⟨(), trivial, rfl, hS.keep ⟨rfl, rfl, rfl, ?_, fun k hk _ => ?_⟩⟩
  · show w.heap.size ≤ (w.heap ++ os).size
    rw [Array.size_append]; omega
  · show (w.heap ++ os)[k]? = _
    exact Array.getElem?_append_left hk
end
section
variable {c : Cx} {M : Md c} {d : Nat} {ty : TypeId} {pos : String} {af : Array Edge} {rest : List Oper} {E : Env} {D : List Deferred} {H : List Res} {x y : Operand} {t t' : TypeId}
theorem oSLt {s r : ByteArray} (hx : E.op x = some (.string s)) (hy : E.op y = some (.string r)) (k : O M rest ((d, .bool (decide (toL s < toL r))) :: E) D H) (hN : Nat.blt d c.N = true := by rfl) : O M (⟨some d, .binOp .lss t x y t', ty, pos, af, none⟩ :: rest) E D H :=
  oStr _ hx hy (fun P w => by simp [binOp, Op.stringOp, Go.Proofs.bytesLess_eq, Lib.toList_data, toL]) k hN
theorem oSGe {s r : ByteArray} (hx : E.op x = some (.string s)) (hy : E.op y = some (.string r)) (k : O M rest ((d, .bool (decide (¬ toL s < toL r))) :: E) D H) (hN : Nat.blt d c.N = true := by rfl) : O M (⟨some d, .binOp .geq t x y t', ty, pos, af, none⟩ :: rest) E D H :=
  oStr _ hx hy (fun P w => by
    show (pure (.bool (!(Op.bytesLess s.toList r.toList))) : Sem Value).run P w = _
    rw [Go.Proofs.bytesLess_eq, Lib.toList_data, Lib.toList_data, ← decide_not]; rfl) k hN
end
end Go.Proofs.YtcacohoanlljhaaDoorK
