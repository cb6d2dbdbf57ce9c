import Derived.Test.YtcacohoanlljhaaDoorKia
import Derived.Test.YtcacohoanlljhaaDoorKhc
import Derived.Test.YtcacohoanlljhaaDoorKt
import Derived.Test.YtcacohoanlljhaaDoorLay

/-
  Names: the checks, places in lists, decimals.
-/
namespace Go.Proofs.YtcacohoanlljhaaDoorN
set_option linter.unusedVariables false
set_option linter.unusedSimpArgs false
open Go.RowKit Go.Proofs.YtcacohoanlljhaaDoorK Go.Proofs.YtcacohoanlljhaaDoorT Go.Proofs.YtcacohoanlljhaaDoorL

theorem any_T {n j : Nat} {p : Nat → Bool} (hj : j < n) (h : p j = true) : (List.range n).any p = true := List.any_eq_true.2 ⟨j, List.mem_range.2 hj, h⟩
theorem any_F {n : Nat} {p : Nat → Bool} (h : ∀ j, j < n → p j = false) : (List.range n).any p = false := List.any_eq_false.2 (fun j hj => by rw [h j (List.mem_range.1 hj)]; simp)
def idxI {α : Type} (p : α → Bool) (l : List α) : Int := if l.any p then (l.findIdx p : Int) else -1
theorem idxI_stop {α : Type} {p : α → Bool} {l : List α} {i : Nat} {x : α} (h : ∀ y ∈ l.take i, p y = false) (hi : l[i]? = some x) (hp : p x = true) : idxI p l = (i : Int) := by
  obtain ⟨hl, rfl⟩ := List.getElem?_eq_some_iff.1 hi
  unfold idxI
  rw [if_pos (List.any_eq_true.2 ⟨_, List.getElem_mem hl, hp⟩)]
  rw [(List.findIdx_eq hl).2 ⟨hp, fun j hj => h _ (List.mem_take_iff_getElem.2 ⟨j, by omega, rfl⟩)⟩]
theorem idxI_none {α : Type} {p : α → Bool} {l : List α} (h : ∀ y ∈ l, p y = false) : idxI p l = -1 := by
  unfold idxI
  rw [if_neg]
  intro k
  obtain ⟨x, hx, hp⟩ := List.any_eq_true.1 k
  rw [h x hx] at hp; cases hp
theorem take_not {α : Type} {p : α → Bool} {l : List α} {i : Nat} {x : α} (h : ∀ y ∈ l.take i, p y = false) (hi : l[i]? = some x) (hp : p x = false) : ∀ y ∈ l.take (i + 1), p y = false := by
  intro y hy
  rw [List.take_add_one, hi] at hy
  rcases List.mem_append.1 hy with k | k
  · exact h y k
  · obtain rfl : y = x := by simpa using k
    exact hp
theorem idxI_iff {α : Type} {p : α → Bool} {l : List α} : 0 ≤ idxI p l ↔ l.any p = true := by
  unfold idxI
  split
  · next h => simp [h] <;> omega
  · next h => simp [h] <;> omega
theorem idxI_at {α : Type} {p : α → Bool} {l : List α} (h : 0 ≤ idxI p l) : ∃ (k : Nat) (x : α), idxI p l = (k : Int) ∧ l[k]? = some x ∧ p x = true := by
  have ha := idxI_iff.1 h
  unfold idxI
  rw [if_pos ha]
  have hl : l.findIdx p < l.length := List.findIdx_lt_length_of_exists (by simpa using ha)
  exact ⟨_, _, rfl, List.getElem?_eq_getElem hl, List.findIdx_getElem⟩
/-! ### decimals -/
def digB (k : Int) : Int := 48 + ((k.tmod 10).natAbs : Int)
def digS : Nat → Int → ByteArray → ByteArray
  | 0, _, s => s
  | f + 1, k, s => if k = 0 then s else digS f (k.tdiv 10) (bytesS [digB k] ++ s)
def decF (n : Int) : ByteArray := if n = 0 then ⟨#[48]⟩ else if n < 0 then ⟨#[45]⟩ ++ digS 20 n ByteArray.empty else digS 20 n ByteArray.empty
theorem digB_in (k : Int) : 48 ≤ digB k ∧ digB k ≤ 57 := by
  unfold digB
  have h : (k.tmod 10).natAbs < 10 := by
    rw [Int.natAbs_tmod]
    exact Nat.mod_lt _ (by decide)
  omega
theorem bytesS_size (xs : List Int) : (bytesS xs).size = xs.length := by simp [bytesS, ByteArray.size]
theorem digS_size : ∀ (f : Nat) (k : Int) (s : ByteArray), (digS f k s).size ≤ f + s.size
  | 0, _, s => by simp [digS]
  | f + 1, k, s => by
    unfold digS
    split
    · omega
    · have := digS_size f (k.tdiv 10) (bytesS [digB k] ++ s)
      rw [ByteArray.size_append, bytesS_size] at this
      simp only [List.length_cons, List.length_nil] at this
      omega
theorem decF_size (n : Int) : (decF n).size ≤ 21 := by
  have h := digS_size 20 n ByteArray.empty
  have h0 : ByteArray.empty.size = 0 := rfl
  unfold decF
  split
  · decide
  · split
    · rw [ByteArray.size_append]
      have : (⟨#[45]⟩ : ByteArray).size = 1 := rfl
      omega
    · omega
theorem wrap8 {n : Int} (h : 48 ≤ n ∧ n ≤ 57) : IntKind.u8.wrap n = n := by
  obtain ⟨m, rfl⟩ := Int.eq_ofNat_of_zero_le (show 0 ≤ n by omega)
  have : ∀ m, m < 58 → IntKind.u8.wrap ((m : Nat) : Int) = ((m : Nat) : Int) := by decide
  exact this m (by omega)
theorem in64_tdiv {k : Int} (h : in64 k) : in64 (k.tdiv 10) := by
  have h1 : (k.tdiv 10).natAbs ≤ k.natAbs / 10 := by rw [Int.natAbs_tdiv]; exact Nat.le_refl _
  unfold in64 at *
  omega
theorem tdiv_small {k : Int} {m : Nat} (h : k.natAbs < 10 * m) : (k.tdiv 10).natAbs < m := by
  rw [Int.natAbs_tdiv]
  exact Nat.div_lt_of_lt_mul (by simpa using h)
set_option maxRecDepth 100000 in
set_option maxHeartbeats 600000 in
theorem ref_Digits {B : Base} {w : World} (hS : St B [] w) (n : Int) (hn : in64 n) :
    CallsIn Fence.wide 0 Tryd.prog 19 #[.int .i64 n] w (Ret B (fun _ : Unit => True) (fun _ => .string (decF n)) (fun _ => [])) := by
  have hnn : n.natAbs < 10 ^ 20 := by unfold in64 at hn; omega
  (refine enter Tryd.func19 rfl rfl hS ?_; simp only [List.zipIdx_cons, List.zipIdx_nil, List.map_cons, List.map_nil, Nat.reduceAdd, Nat.zero_add])
  refine wSeq ?_
  refine wRegion' ?_
  refine oAssign rfl ?_
  refine oNil ?_
  refine thn_n ?_
  refine wSeq ?_
  refine wSeq ?_
  refine wRegion' ?_
  refine oMove rfl ?_
  refine oEql rfl rfl ?_
  refine oNil ?_
  refine thn_n ?_
  first | refine wCond rfl (fun h7 => ?_) (fun h7 => ?_) | refine wCondB rfl (fun h7 => ?_) (fun h7 => ?_)
  ·
    refine wSeq ?_
    refine wRegion' ?_
    refine oAssign rfl ?_
    refine oNil ?_
    refine thn_n ?_
    refine wRet ?_
    refine thn_r ?_
    refine fin_r ?_
    refine ⟨rfl, _, (ResL.cons (ResR.tmp rfl) ResL.nil), ?_⟩
    exact ⟨(), trivial, by unfold decF; rw [if_pos h7]; rfl, (Leads.has (by repeat' (first | exact Has.nil | exact Pick.here | apply Has.cons | apply Pick.there)))⟩
  ·
    refine wSkip ?_
    refine thn_n ?_
    refine wSeq ?_
    refine wRegion' ?_
    refine oAssign rfl ?_
    refine oNil ?_
    refine thn_n ?_
    refine wSeq ?_
    refine wSeq ?_
    refine wRegion' ?_
    refine oMove rfl ?_
    refine oAssign rfl ?_
    refine oNil ?_
    refine thn_n ?_
    refine wBlock ?_
    refine wLoop (ι := Nat × Int × ByteArray) (fun z => [(0, .int .i64 n), (3, .string z.2.2), (4, .int .i64 z.2.1)]) (fun z => []) (fun z => in64 z.2.1 ∧ z.1 ≤ 20 ∧ z.2.1.natAbs < 10 ^ z.1 ∧ digS 20 n ByteArray.empty = digS z.1 z.2.1 z.2.2 ∧ z.1 + z.2.2.size ≤ 20) (fun z => z.1) (20, n, ByteArray.empty) ?_ (by repeat (first | exact trivial | refine And.intro rfl ?_)) (Leads.has (by repeat' (first | exact Has.nil | exact Pick.here | apply Has.cons | apply Pick.there))) ?_
    ·
      exact ⟨hn, Nat.le_refl _, hnn, rfl, Nat.le_refl _⟩
    ·
      rintro ⟨f, k, s⟩ ⟨hk64, hf, hk, hd, hsz⟩
      dsimp only at hk64 hf hk hd hsz
      try dsimp only
      refine wSeq ?_
      refine wSeq ?_
      refine wRegion' ?_
      refine oMove rfl ?_
      refine oNeq rfl rfl ?_
      refine oNil ?_
      refine thn_n ?_
      first | refine wCond rfl (fun h10 => ?_) (fun h10 => ?_) | refine wCondB rfl (fun h10 => ?_) (fun h10 => ?_)
      ·
        obtain ⟨f, rfl⟩ : ∃ f', f = f' + 1 := ⟨f - 1, by cases f with | zero => simp at hk; omega | succ f => rfl⟩
        have hkb : k.natAbs < 10 ^ 20 := Nat.lt_of_lt_of_le hk (Nat.pow_le_pow_right (by decide) hf)
        have hdb := digB_in k
        have hk64' := hk64
        unfold in64 at hk64'
        have hq : ∀ z, z = digB k → IntKind.u8.wrap z = digB k := fun z hz => by rw [hz]; exact wrap8 hdb
        refine wSkip ?_
        refine thn_n ?_
        refine wSeq ?_
        refine wBlock ?_
        refine wSeq ?_
        refine wRegion' ?_
        refine oMove rfl ?_
        refine oRem rfl rfl (by decide) ?_
        refine oAssign rfl ?_
        refine oNil ?_
        refine thn_n ?_
        refine wSeq ?_
        refine wSeq ?_
        refine wRegion' ?_
        refine oMove rfl ?_
        refine oLss rfl rfl ?_
        refine oNil ?_
        refine thn_n ?_
        first | refine wCond rfl (fun h16 => ?_) (fun h16 => ?_) | refine wCondB rfl (fun h16 => ?_) (fun h16 => ?_)
        ·
          refine wRegion' ?_
          refine oMove rfl ?_
          refine oSub rfl rfl (by have := digB_in k; unfold digB at this; omega) ?_
          refine oAssign rfl ?_
          refine oNil ?_
          refine thn_n ?_
          refine wRegion' ?_
          refine oMove rfl ?_
          refine oAdd rfl rfl (by have := digB_in k; unfold digB at this; omega) ?_
          refine oConvInt (m := digB k) rfl rfl rfl (hq _ (by unfold digB; omega)) ?_
          refine oBuildSlice1 rfl rfl rfl rfl rfl (by first | exact CellsOf.agg | exact CellsOf.one rfl) rfl (fun b22 => ?_)
          refine oConvBS (xs := [digB k]) rfl rfl rfl rfl (by repeat (first | exact Pick.here | apply Pick.there)) rfl rfl (by intro v hv; obtain rfl := List.mem_singleton.1 hv; omega) ?_
          refine oMove rfl ?_
          refine oAddStr rfl rfl (by rw [bytesS_size]; simp only [List.length_cons, List.length_nil]; omega) ?_
          refine oAssign rfl ?_
          refine oNil ?_
          refine blk_n ?_
          refine thn_n ?_
          refine wRegion' ?_
          refine oMove rfl ?_
          refine oQuo rfl rfl (by omega) ?_
          refine oAssign rfl ?_
          refine oNil ?_
          refine thn_n ?_
          exact ⟨rfl, (f, k.tdiv 10, bytesS [digB k] ++ s), ⟨in64_tdiv hk64, by show f ≤ 20; omega, tdiv_small (by show k.natAbs < 10 * 10 ^ f; rw [Nat.pow_succ] at hk; omega), by rw [hd]; show (if k = 0 then s else _) = _; rw [if_neg h10], by show f + (bytesS [digB k] ++ s).size ≤ 20; rw [ByteArray.size_append, bytesS_size]; simp only [List.length_cons, List.length_nil]; omega⟩, by show f < f + 1; omega, (by repeat (first | exact trivial | refine And.intro rfl ?_)), (Leads.has (by repeat' (first | exact Has.nil | exact Pick.here | apply Has.cons | apply Pick.there)))⟩
        ·
          refine wSkip ?_
          refine thn_n ?_
          refine wRegion' ?_
          refine oMove rfl ?_
          refine oAdd rfl rfl (by have := digB_in k; unfold digB at this; omega) ?_
          refine oConvInt (m := digB k) rfl rfl rfl (hq _ (by unfold digB; omega)) ?_
          refine oBuildSlice1 rfl rfl rfl rfl rfl (by first | exact CellsOf.agg | exact CellsOf.one rfl) rfl (fun b22 => ?_)
          refine oConvBS (xs := [digB k]) rfl rfl rfl rfl (by repeat (first | exact Pick.here | apply Pick.there)) rfl rfl (by intro v hv; obtain rfl := List.mem_singleton.1 hv; omega) ?_
          refine oMove rfl ?_
          refine oAddStr rfl rfl (by rw [bytesS_size]; simp only [List.length_cons, List.length_nil]; omega) ?_
          refine oAssign rfl ?_
          refine oNil ?_
          refine blk_n ?_
          refine thn_n ?_
          refine wRegion' ?_
          refine oMove rfl ?_
          refine oQuo rfl rfl (by omega) ?_
          refine oAssign rfl ?_
          refine oNil ?_
          refine thn_n ?_
          exact ⟨rfl, (f, k.tdiv 10, bytesS [digB k] ++ s), ⟨in64_tdiv hk64, by show f ≤ 20; omega, tdiv_small (by show k.natAbs < 10 * 10 ^ f; rw [Nat.pow_succ] at hk; omega), by rw [hd]; show (if k = 0 then s else _) = _; rw [if_neg h10], by show f + (bytesS [digB k] ++ s).size ≤ 20; rw [ByteArray.size_append, bytesS_size]; simp only [List.length_cons, List.length_nil]; omega⟩, by show f < f + 1; omega, (by repeat (first | exact trivial | refine And.intro rfl ?_)), (Leads.has (by repeat' (first | exact Has.nil | exact Pick.here | apply Has.cons | apply Pick.there)))⟩
      ·
        obtain rfl : k = 0 := by omega
        have hd0 : digS 20 n ByteArray.empty = s := by rw [hd]; cases f with | zero => rfl | succ f => show (if (0 : Int) = 0 then s else _) = s; rw [if_pos rfl]
        refine wExit ?_
        refine thn_x ?_
        refine thn_x ?_
        refine blk_x ?_
        refine thn_n ?_
        refine wSeq ?_
        refine wSeq ?_
        refine wRegion' ?_
        refine oMove rfl ?_
        refine oLss rfl rfl ?_
        refine oNil ?_
        refine thn_n ?_
        first | refine wCond rfl (fun h27 => ?_) (fun h27 => ?_) | refine wCondB rfl (fun h27 => ?_) (fun h27 => ?_)
        ·
          refine wSeq ?_
          refine wRegion' ?_
          refine oMove rfl ?_
          refine oAddStr rfl rfl (by show 1 + _ ≤ _; omega) ?_
          refine oAssign rfl ?_
          refine oNil ?_
          refine thn_n ?_
          refine wRet ?_
          refine thn_r ?_
          refine fin_r ?_
          refine ⟨rfl, _, (ResL.cons (ResR.tmp rfl) ResL.nil), ?_⟩
          exact ⟨(), trivial, by unfold decF; rw [if_neg h7, if_pos h27, hd0]; rfl, (Leads.has (by repeat' (first | exact Has.nil | exact Pick.here | apply Has.cons | apply Pick.there)))⟩
        ·
          refine wSkip ?_
          refine thn_n ?_
          refine wSeq ?_
          refine wRegion' ?_
          refine oMove rfl ?_
          refine oAssign rfl ?_
          refine oNil ?_
          refine thn_n ?_
          refine wRet ?_
          refine fin_r ?_
          refine ⟨rfl, _, (ResL.cons (ResR.tmp rfl) ResL.nil), ?_⟩
          exact ⟨(), trivial, by unfold decF; rw [if_neg h7, if_neg h27, hd0]; rfl, (Leads.has (by repeat' (first | exact Has.nil | exact Pick.here | apply Has.cons | apply Pick.there)))⟩
/-! ### names -/
def mayF (b : Int) (first : Bool) : Bool := (decide (97 ≤ b) && decide (b ≤ 122)) || decide (b = 95) || decide (b = 46) || (decide (48 ≤ b) && decide (b ≤ 57) && !first)
def badC (s : ByteArray) (i : Nat) : Bool := !mayF (byteAt s i) (decide (i = 0))
def nameF4 (s : ByteArray) : Int := if 24 < s.size then 6 else if s.size = 0 then 7 else if (List.range s.size).any (badC s) then 7 else 0
theorem size_zero {s : ByteArray} : s = ByteArray.empty ↔ s.size = 0 := by
  constructor
  · rintro rfl; rfl
  · intro h
    cases s with
    | mk d =>
      have : d = #[] := Array.eq_empty_of_size_eq_zero h
      subst this; rfl
set_option maxRecDepth 100000 in
theorem ref4_may {B : Base} {w : World} (hS : St B [] w) (b : Int) (first : Bool) :
    CallsIn Fence.wide 0 Tryd.prog 17 #[.int .u8 b, .bool first] w (Ret B (fun _ : Unit => True) (fun _ => .bool (mayF b first)) (fun _ => [])) := by
  (refine enter Tryd.func17 rfl rfl hS ?_; simp only [List.zipIdx_cons, List.zipIdx_nil, List.map_cons, List.map_nil, Nat.reduceAdd, Nat.zero_add])
  refine wSeq ?_
  refine wRegion' ?_
  refine oAssign rfl ?_
  refine oNil ?_
  refine thn_n ?_
  refine wSeq ?_
  refine wRegion' ?_
  refine oMove rfl ?_
  refine oGeq rfl rfl ?_
  refine oMove rfl ?_
  first | refine oSplit (t := 7) rfl (fun h7 => ?_) (fun h7 => ?_) | refine oSplitB (t := 7) rfl (fun h7 => ?_) (fun h7 => ?_)
  ·
    refine oWant rfl rfl ?_
    refine oMove rfl ?_
    refine oWant rfl rfl ?_
    refine oLeq rfl rfl ?_
    refine oPickT rfl rfl ?_
    refine oMove rfl ?_
    first | refine oSplit (t := 11) rfl (fun h11 => ?_) (fun h11 => ?_) | refine oSplitB (t := 11) rfl (fun h11 => ?_) (fun h11 => ?_)
    ·
      refine oSkip rfl rfl rfl rfl ?_
      refine oSkip rfl rfl rfl rfl ?_
      refine oPickT rfl rfl ?_
      refine oMove rfl ?_
      refine oSkip rfl rfl rfl rfl ?_
      refine oSkip rfl rfl rfl rfl ?_
      refine oPickT rfl rfl ?_
      refine oMove rfl ?_
      refine oSkip rfl rfl rfl rfl ?_
      refine oSkip rfl rfl rfl rfl ?_
      refine oSkip rfl rfl rfl rfl ?_
      refine oSkipU rfl rfl rfl ?_
      refine oSkipU rfl rfl rfl ?_
      refine oSkip rfl rfl rfl rfl ?_
      refine oSkip rfl rfl rfl rfl ?_
      refine oSkipU rfl rfl rfl ?_
      refine oSkipU rfl rfl rfl ?_
      refine oSkip rfl rfl rfl rfl ?_
      refine oPickT rfl rfl ?_
      refine oAssign rfl ?_
      refine oNil ?_
      refine thn_n ?_
      refine wRet ?_
      refine fin_r ?_
      refine ⟨rfl, _, (ResL.cons (ResR.tmp rfl) ResL.nil), ?_⟩
      exact ⟨(), trivial, by simp_all [resVal, mayF] <;> omega, (Leads.has (by repeat' (first | exact Has.nil | exact Pick.here | apply Has.cons | apply Pick.there)))⟩
    ·
      refine oWant rfl rfl ?_
      refine oMove rfl ?_
      refine oWant rfl rfl ?_
      refine oEql rfl rfl ?_
      refine oPickF rfl rfl ?_
      refine oMove rfl ?_
      first | refine oSplit (t := 15) rfl (fun h15 => ?_) (fun h15 => ?_) | refine oSplitB (t := 15) rfl (fun h15 => ?_) (fun h15 => ?_)
      ·
        refine oSkip rfl rfl rfl rfl ?_
        refine oSkip rfl rfl rfl rfl ?_
        refine oPickT rfl rfl ?_
        refine oMove rfl ?_
        refine oSkip rfl rfl rfl rfl ?_
        refine oSkip rfl rfl rfl rfl ?_
        refine oSkip rfl rfl rfl rfl ?_
        refine oSkipU rfl rfl rfl ?_
        refine oSkipU rfl rfl rfl ?_
        refine oSkip rfl rfl rfl rfl ?_
        refine oSkip rfl rfl rfl rfl ?_
        refine oSkipU rfl rfl rfl ?_
        refine oSkipU rfl rfl rfl ?_
        refine oSkip rfl rfl rfl rfl ?_
        refine oPickT rfl rfl ?_
        refine oAssign rfl ?_
        refine oNil ?_
        refine thn_n ?_
        refine wRet ?_
        refine fin_r ?_
        refine ⟨rfl, _, (ResL.cons (ResR.tmp rfl) ResL.nil), ?_⟩
        exact ⟨(), trivial, by simp_all [resVal, mayF] <;> omega, (Leads.has (by repeat' (first | exact Has.nil | exact Pick.here | apply Has.cons | apply Pick.there)))⟩
      ·
        refine oWant rfl rfl ?_
        refine oMove rfl ?_
        refine oWant rfl rfl ?_
        refine oEql rfl rfl ?_
        refine oPickF rfl rfl ?_
        refine oMove rfl ?_
        first | refine oSplit (t := 19) rfl (fun h19 => ?_) (fun h19 => ?_) | refine oSplitB (t := 19) rfl (fun h19 => ?_) (fun h19 => ?_)
        ·
          refine oSkip rfl rfl rfl rfl ?_
          refine oSkip rfl rfl rfl rfl ?_
          refine oSkip rfl rfl rfl rfl ?_
          refine oSkipU rfl rfl rfl ?_
          refine oSkipU rfl rfl rfl ?_
          refine oSkip rfl rfl rfl rfl ?_
          refine oSkip rfl rfl rfl rfl ?_
          refine oSkipU rfl rfl rfl ?_
          refine oSkipU rfl rfl rfl ?_
          refine oSkip rfl rfl rfl rfl ?_
          refine oPickT rfl rfl ?_
          refine oAssign rfl ?_
          refine oNil ?_
          refine thn_n ?_
          refine wRet ?_
          refine fin_r ?_
          refine ⟨rfl, _, (ResL.cons (ResR.tmp rfl) ResL.nil), ?_⟩
          exact ⟨(), trivial, by simp_all [resVal, mayF] <;> omega, (Leads.has (by repeat' (first | exact Has.nil | exact Pick.here | apply Has.cons | apply Pick.there)))⟩
        ·
          refine oWant rfl rfl ?_
          refine oMove rfl ?_
          refine oWant rfl rfl ?_
          refine oGeq rfl rfl ?_
          refine oWant rfl rfl ?_
          refine oMove rfl ?_
          first | refine oSplit (t := 22) rfl (fun h22 => ?_) (fun h22 => ?_) | refine oSplitB (t := 22) rfl (fun h22 => ?_) (fun h22 => ?_)
          ·
            refine oWant rfl rfl ?_
            refine oMove rfl ?_
            refine oWant rfl rfl ?_
            refine oLeq rfl rfl ?_
            refine oWant rfl rfl ?_
            refine oPickT rfl rfl ?_
            refine oWant rfl rfl ?_
            refine oMove rfl ?_
            first | refine oSplit (t := 26) rfl (fun h26 => ?_) (fun h26 => ?_) | refine oSplitB (t := 26) rfl (fun h26 => ?_) (fun h26 => ?_)
            ·
              refine oWant rfl rfl ?_
              refine oMove rfl ?_
              refine oWant rfl rfl ?_
              first | refine oNot rfl ?_ | refine oNotB rfl ?_
              refine oWant rfl rfl ?_
              refine oPickT rfl rfl ?_
              refine oPickF rfl rfl ?_
              refine oAssign rfl ?_
              refine oNil ?_
              refine thn_n ?_
              refine wRet ?_
              refine fin_r ?_
              refine ⟨rfl, _, (ResL.cons (ResR.tmp rfl) ResL.nil), ?_⟩
              exact ⟨(), trivial, by simp_all [resVal, mayF] <;> omega, (Leads.has (by repeat' (first | exact Has.nil | exact Pick.here | apply Has.cons | apply Pick.there)))⟩
            ·
              refine oSkip rfl rfl rfl rfl ?_
              refine oSkip rfl rfl rfl rfl ?_
              refine oWant rfl rfl ?_
              refine oPickF rfl rfl ?_
              refine oPickF rfl rfl ?_
              refine oAssign rfl ?_
              refine oNil ?_
              refine thn_n ?_
              refine wRet ?_
              refine fin_r ?_
              refine ⟨rfl, _, (ResL.cons (ResR.tmp rfl) ResL.nil), ?_⟩
              exact ⟨(), trivial, by simp_all [resVal, mayF] <;> omega, (Leads.has (by repeat' (first | exact Has.nil | exact Pick.here | apply Has.cons | apply Pick.there)))⟩
          ·
            refine oSkip rfl rfl rfl rfl ?_
            refine oSkip rfl rfl rfl rfl ?_
            refine oWant rfl rfl ?_
            refine oPickF rfl rfl ?_
            refine oWant rfl rfl ?_
            refine oMove rfl ?_
            refine oSkip rfl rfl rfl rfl ?_
            refine oSkip rfl rfl rfl rfl ?_
            refine oWant rfl rfl ?_
            refine oPickF rfl rfl ?_
            refine oPickF rfl rfl ?_
            refine oAssign rfl ?_
            refine oNil ?_
            refine thn_n ?_
            refine wRet ?_
            refine fin_r ?_
            refine ⟨rfl, _, (ResL.cons (ResR.tmp rfl) ResL.nil), ?_⟩
            exact ⟨(), trivial, by simp_all [resVal, mayF] <;> omega, (Leads.has (by repeat' (first | exact Has.nil | exact Pick.here | apply Has.cons | apply Pick.there)))⟩
  ·
    refine oSkip rfl rfl rfl rfl ?_
    refine oSkip rfl rfl rfl rfl ?_
    refine oPickF rfl rfl ?_
    refine oMove rfl ?_
    refine oWant rfl rfl ?_
    refine oMove rfl ?_
    refine oWant rfl rfl ?_
    refine oEql rfl rfl ?_
    refine oPickF rfl rfl ?_
    refine oMove rfl ?_
    first | refine oSplit (t := 15) rfl (fun h15 => ?_) (fun h15 => ?_) | refine oSplitB (t := 15) rfl (fun h15 => ?_) (fun h15 => ?_)
    ·
      refine oSkip rfl rfl rfl rfl ?_
      refine oSkip rfl rfl rfl rfl ?_
      refine oPickT rfl rfl ?_
      refine oMove rfl ?_
      refine oSkip rfl rfl rfl rfl ?_
      refine oSkip rfl rfl rfl rfl ?_
      refine oSkip rfl rfl rfl rfl ?_
      refine oSkipU rfl rfl rfl ?_
      refine oSkipU rfl rfl rfl ?_
      refine oSkip rfl rfl rfl rfl ?_
      refine oSkip rfl rfl rfl rfl ?_
      refine oSkipU rfl rfl rfl ?_
      refine oSkipU rfl rfl rfl ?_
      refine oSkip rfl rfl rfl rfl ?_
      refine oPickT rfl rfl ?_
      refine oAssign rfl ?_
      refine oNil ?_
      refine thn_n ?_
      refine wRet ?_
      refine fin_r ?_
      refine ⟨rfl, _, (ResL.cons (ResR.tmp rfl) ResL.nil), ?_⟩
      exact ⟨(), trivial, by simp_all [resVal, mayF] <;> omega, (Leads.has (by repeat' (first | exact Has.nil | exact Pick.here | apply Has.cons | apply Pick.there)))⟩
    ·
      refine oWant rfl rfl ?_
      refine oMove rfl ?_
      refine oWant rfl rfl ?_
      refine oEql rfl rfl ?_
      refine oPickF rfl rfl ?_
      refine oMove rfl ?_
      first | refine oSplit (t := 19) rfl (fun h19 => ?_) (fun h19 => ?_) | refine oSplitB (t := 19) rfl (fun h19 => ?_) (fun h19 => ?_)
      ·
        refine oSkip rfl rfl rfl rfl ?_
        refine oSkip rfl rfl rfl rfl ?_
        refine oSkip rfl rfl rfl rfl ?_
        refine oSkipU rfl rfl rfl ?_
        refine oSkipU rfl rfl rfl ?_
        refine oSkip rfl rfl rfl rfl ?_
        refine oSkip rfl rfl rfl rfl ?_
        refine oSkipU rfl rfl rfl ?_
        refine oSkipU rfl rfl rfl ?_
        refine oSkip rfl rfl rfl rfl ?_
        refine oPickT rfl rfl ?_
        refine oAssign rfl ?_
        refine oNil ?_
        refine thn_n ?_
        refine wRet ?_
        refine fin_r ?_
        refine ⟨rfl, _, (ResL.cons (ResR.tmp rfl) ResL.nil), ?_⟩
        exact ⟨(), trivial, by simp_all [resVal, mayF] <;> omega, (Leads.has (by repeat' (first | exact Has.nil | exact Pick.here | apply Has.cons | apply Pick.there)))⟩
      ·
        refine oWant rfl rfl ?_
        refine oMove rfl ?_
        refine oWant rfl rfl ?_
        refine oGeq rfl rfl ?_
        refine oWant rfl rfl ?_
        refine oMove rfl ?_
        first | refine oSplit (t := 22) rfl (fun h22 => ?_) (fun h22 => ?_) | refine oSplitB (t := 22) rfl (fun h22 => ?_) (fun h22 => ?_)
        ·
          refine oWant rfl rfl ?_
          refine oMove rfl ?_
          refine oWant rfl rfl ?_
          refine oLeq rfl rfl ?_
          refine oWant rfl rfl ?_
          refine oPickT rfl rfl ?_
          refine oWant rfl rfl ?_
          refine oMove rfl ?_
          first | refine oSplit (t := 26) rfl (fun h26 => ?_) (fun h26 => ?_) | refine oSplitB (t := 26) rfl (fun h26 => ?_) (fun h26 => ?_)
          ·
            refine oWant rfl rfl ?_
            refine oMove rfl ?_
            refine oWant rfl rfl ?_
            first | refine oNot rfl ?_ | refine oNotB rfl ?_
            refine oWant rfl rfl ?_
            refine oPickT rfl rfl ?_
            refine oPickF rfl rfl ?_
            refine oAssign rfl ?_
            refine oNil ?_
            refine thn_n ?_
            refine wRet ?_
            refine fin_r ?_
            refine ⟨rfl, _, (ResL.cons (ResR.tmp rfl) ResL.nil), ?_⟩
            exact ⟨(), trivial, by simp_all [resVal, mayF] <;> omega, (Leads.has (by repeat' (first | exact Has.nil | exact Pick.here | apply Has.cons | apply Pick.there)))⟩
          ·
            refine oSkip rfl rfl rfl rfl ?_
            refine oSkip rfl rfl rfl rfl ?_
            refine oWant rfl rfl ?_
            refine oPickF rfl rfl ?_
            refine oPickF rfl rfl ?_
            refine oAssign rfl ?_
            refine oNil ?_
            refine thn_n ?_
            refine wRet ?_
            refine fin_r ?_
            refine ⟨rfl, _, (ResL.cons (ResR.tmp rfl) ResL.nil), ?_⟩
            exact ⟨(), trivial, by simp_all [resVal, mayF] <;> omega, (Leads.has (by repeat' (first | exact Has.nil | exact Pick.here | apply Has.cons | apply Pick.there)))⟩
        ·
          refine oSkip rfl rfl rfl rfl ?_
          refine oSkip rfl rfl rfl rfl ?_
          refine oWant rfl rfl ?_
          refine oPickF rfl rfl ?_
          refine oWant rfl rfl ?_
          refine oMove rfl ?_
          refine oSkip rfl rfl rfl rfl ?_
          refine oSkip rfl rfl rfl rfl ?_
          refine oWant rfl rfl ?_
          refine oPickF rfl rfl ?_
          refine oPickF rfl rfl ?_
          refine oAssign rfl ?_
          refine oNil ?_
          refine thn_n ?_
          refine wRet ?_
          refine fin_r ?_
          refine ⟨rfl, _, (ResL.cons (ResR.tmp rfl) ResL.nil), ?_⟩
          exact ⟨(), trivial, by simp_all [resVal, mayF] <;> omega, (Leads.has (by repeat' (first | exact Has.nil | exact Pick.here | apply Has.cons | apply Pick.there)))⟩
set_option maxRecDepth 100000 in
theorem ref4_Check {B : Base} {w : World} (hS : St B [] w) (s : ByteArray) :
    CallsIn Fence.wide 0 Tryd.prog 9 #[.string s] w (Ret B (fun _ : Unit => True) (fun _ => .int .i64 (nameF4 s)) (fun _ => [])) := by
  (refine enter Tryd.func9 rfl rfl hS ?_; simp only [List.zipIdx_cons, List.zipIdx_nil, List.map_cons, List.map_nil, Nat.reduceAdd, Nat.zero_add])
  refine wSeq ?_
  refine wRegion' ?_
  refine oAssign rfl ?_
  refine oNil ?_
  refine thn_n ?_
  refine wSeq ?_
  refine wSeq ?_
  refine wRegion' ?_
  refine oMove rfl ?_
  refine oLenStr rfl rfl ?_
  refine oGtr rfl rfl ?_
  refine oNil ?_
  refine thn_n ?_
  first | refine wCond rfl (fun h6 => ?_) (fun h6 => ?_) | refine wCondB rfl (fun h6 => ?_) (fun h6 => ?_)
  ·
    refine wSeq ?_
    refine wRegion' ?_
    refine oAssign rfl ?_
    refine oNil ?_
    refine thn_n ?_
    refine wRet ?_
    refine thn_r ?_
    refine fin_r ?_
    refine ⟨rfl, _, (ResL.cons (ResR.tmp rfl) ResL.nil), ?_⟩
    exact ⟨(), trivial, by unfold nameF4; rw [if_pos (by omega)]; rfl, (Leads.has (by repeat' (first | exact Has.nil | exact Pick.here | apply Has.cons | apply Pick.there)))⟩
  ·
    refine wSkip ?_
    refine thn_n ?_
    refine wSeq ?_
    refine wSeq ?_
    refine wRegion' ?_
    refine oMove rfl ?_
    refine oSEq rfl rfl ?_
    refine oNil ?_
    refine thn_n ?_
    first | refine wCond rfl (fun h8 => ?_) (fun h8 => ?_) | refine wCondB rfl (fun h8 => ?_) (fun h8 => ?_)
    ·
      refine wSeq ?_
      refine wRegion' ?_
      refine oAssign rfl ?_
      refine oNil ?_
      refine thn_n ?_
      refine wRet ?_
      refine thn_r ?_
      refine fin_r ?_
      refine ⟨rfl, _, (ResL.cons (ResR.tmp rfl) ResL.nil), ?_⟩
      exact ⟨(), trivial, by unfold nameF4; rw [if_neg (by omega), if_pos (size_zero.1 h8)]; rfl, (Leads.has (by repeat' (first | exact Has.nil | exact Pick.here | apply Has.cons | apply Pick.there)))⟩
    ·
      have hz : ¬ s.size = 0 := fun h => h8 (size_zero.2 h)
      refine wSkip ?_
      refine thn_n ?_
      refine wSeq ?_
      refine wSeq ?_
      refine wRegion' ?_
      refine oAssign rfl ?_
      refine oNil ?_
      refine thn_n ?_
      refine wBlock ?_
      refine wLoop (ι := Nat) (fun i => [(0, .string s), (3, .int .i64 (i : Int))]) (fun i => []) (fun i => i ≤ s.size ∧ ∀ j, j < i → badC s j = false) (fun i => s.size - i) 0 ?_ (by repeat (first | exact trivial | refine And.intro rfl ?_)) (Leads.has (by repeat' (first | exact Has.nil | exact Pick.here | apply Has.cons | apply Pick.there))) ?_
      ·
        exact ⟨Nat.zero_le _, fun j hj => by omega⟩
      ·
        rintro i ⟨hi, hs⟩
        try dsimp only
        refine wSeq ?_
        refine wSeq ?_
        refine wRegion' ?_
        refine oMove rfl ?_
        refine oMove rfl ?_
        refine oLenStr rfl rfl ?_
        refine oLss rfl rfl ?_
        refine oNil ?_
        refine thn_n ?_
        first | refine wCond rfl (fun h12 => ?_) (fun h12 => ?_) | refine wCondB rfl (fun h12 => ?_) (fun h12 => ?_)
        ·
          have hil : i < s.size := by omega
          have hz0 : decide ((i : Int) = 0) = decide (i = 0) := decide_eq_decide.2 (by omega)
          refine wSkip ?_
          refine thn_n ?_
          refine wSeq ?_
          refine wBlock ?_
          refine wSeq ?_
          refine wRegion' ?_
          refine oMove rfl ?_
          refine oMove rfl ?_
          refine oIndexStr rfl rfl rfl hil ?_
          refine oMove rfl ?_
          refine oEql rfl rfl ?_
          (refine oCall rfl (by kernel_rfl) (fun w hS => frame hS (by repeat' (first | exact Split.nil | exact Pick.here | apply Split.cons | apply Pick.there)) (fun B' hB hS' => ref4_may hS' (byteAt s i) (decide ((i : Int) = 0)))) ?_; rintro ⟨⟩ -)
          first | refine oNot rfl ?_ | refine oNotB rfl ?_
          refine oNil ?_
          refine thn_n ?_
          first | refine wCond rfl (fun h21 => ?_) (fun h21 => ?_) | refine wCondB rfl (fun h21 => ?_) (fun h21 => ?_)
          ·
            refine wSeq ?_
            refine wRegion' ?_
            refine oAssign rfl ?_
            refine oNil ?_
            refine thn_n ?_
            refine wRet ?_
            refine blk_r ?_
            refine thn_r ?_
            refine thn_r ?_
            refine blk_r ?_
            refine thn_r ?_
            refine fin_r ?_
            refine ⟨rfl, _, (ResL.cons (ResR.tmp rfl) ResL.nil), ?_⟩
            exact ⟨(), trivial, by unfold nameF4; rw [if_neg (by omega), if_neg hz, if_pos (any_T hil (by unfold badC; rw [← hz0]; simpa using h21))]; rfl, (Leads.has (by repeat' (first | exact Has.nil | exact Pick.here | apply Has.cons | apply Pick.there)))⟩
          ·
            refine wSkip ?_
            refine blk_n ?_
            refine thn_n ?_
            refine wRegion' ?_
            refine oMove rfl ?_
            refine oSucc rfl rfl (by omega) ?_
            refine oAssign rfl ?_
            refine oNil ?_
            refine thn_n ?_
            exact ⟨rfl, i + 1, ⟨by omega, fun j hj => by
            by_cases e : j = i
            · subst e; unfold badC; rw [← hz0]; simpa using h21
            · exact hs j (by omega)⟩, by omega, (by repeat (first | exact trivial | refine And.intro rfl ?_)), (Leads.has (by repeat' (first | exact Has.nil | exact Pick.here | apply Has.cons | apply Pick.there)))⟩
        ·
          refine wExit ?_
          refine thn_x ?_
          refine thn_x ?_
          refine blk_x ?_
          refine thn_n ?_
          refine wSeq ?_
          refine wRegion' ?_
          refine oAssign rfl ?_
          refine oNil ?_
          refine thn_n ?_
          refine wRet ?_
          refine fin_r ?_
          refine ⟨rfl, _, (ResL.cons (ResR.tmp rfl) ResL.nil), ?_⟩
          obtain rfl : i = s.size := by omega
          exact ⟨(), trivial, by unfold nameF4; rw [if_neg (by omega), if_neg hz, if_neg (by rw [any_F hs]; simp)]; rfl, (Leads.has (by repeat' (first | exact Has.nil | exact Pick.here | apply Has.cons | apply Pick.there)))⟩
/-! ### runes -/
def rn (s : ByteArray) (p : Nat) : Int := ((Utf8.decode s p).1 : Int)
theorem nextV_rn {s : ByteArray} {p : Nat} (h : p < s.size) : nextV s p = .tuple #[.bool true, .int .i64 (p : Int), .int .i32 (rn s p)] := by unfold nextV rn; rw [if_pos h]
theorem rn_lo {s : ByteArray} {p : Nat} (h : p < s.size) (ha : byteAt s p < 128) : rn s p = byteAt s p := by
  have h1 := nextV_T h ha
  rw [nextV_rn h] at h1
  simpa using h1
theorem rn_hi {s : ByteArray} {p : Nat} (h : p < s.size) (ha : ¬ byteAt s p < 128) : 128 ≤ rn s p := by
  rw [byteAt_eq h] at ha
  have hg : (s.get! (p + 0)).toNat = (s[p]'h).toNat := by
    show (s.data[p]!).toNat = _
    rw [getElem!_pos s.data p h]; rfl
  have h0 : 128 ≤ (s[p]'h).toNat := by omega
  have key : 128 ≤ (Utf8.decode s p).1 := by
    unfold Utf8.decode Utf8.runeError
    simp only [hg]
    rw [if_neg (by omega)]
    repeat' split
    all_goals first | (dsimp only; omega) | (rename_i hc; simp only [Bool.and_eq_true, decide_eq_true_eq] at hc; dsimp only; omega)
  unfold rn; omega
def mayR (c : Int) (i : Int) : Bool := (decide (97 ≤ c) && decide (c ≤ 122)) || decide (c = 95) || decide (c = 46) || ((decide (48 ≤ c) && decide (c ≤ 57)) && decide (0 < i))
theorem bad_rn {s : ByteArray} {i : Nat} (h : i < s.size) : badC s i = !mayR (rn s i) (i : Int) := by
  unfold badC mayF mayR
  by_cases ha : byteAt s i < 128
  · rw [rn_lo h ha]
    congr 1
    by_cases h0 : i = 0
    · subst h0; simp
    · simp [h0, show 0 < i by omega]
  · have := rn_hi h ha
    rw [decide_eq_false (show ¬ byteAt s i ≤ 122 by omega), decide_eq_false (show ¬ byteAt s i = 95 by omega), decide_eq_false (show ¬ byteAt s i = 46 by omega), decide_eq_false (show ¬ byteAt s i ≤ 57 by omega), decide_eq_false (show ¬ rn s i ≤ 122 by omega), decide_eq_false (show ¬ rn s i = 95 by omega), decide_eq_false (show ¬ rn s i = 46 by omega), decide_eq_false (show ¬ rn s i ≤ 57 by omega)]
    simp
theorem ok_lo {s : ByteArray} {i : Nat} (h : badC s i = false) : byteAt s i < 128 := by
  unfold badC mayF at h
  simp at h
  omega
set_option maxRecDepth 100000 in
set_option maxHeartbeats 600000 in
theorem name_Check {B : Base} {w : World} (hS : St B [] w) (s : ByteArray) :
    CallsIn Fence.wide 0 Tryd.prog 8 #[.string s] w (Ret B (fun _ : Unit => True) (fun _ => .int .i64 (nameF4 s)) (fun _ => [])) := by
  (refine enter Tryd.func8 rfl rfl hS ?_; simp only [List.zipIdx_cons, List.zipIdx_nil, List.map_cons, List.map_nil, Nat.reduceAdd, Nat.zero_add])
  refine wSeq ?_
  refine wRegion' ?_
  refine oAssign rfl ?_
  refine oNil ?_
  refine thn_n ?_
  refine wSeq ?_
  refine wBlock ?_
  refine wSeq ?_
  refine wRegion' ?_
  refine oMove rfl ?_
  refine oLenStr rfl rfl ?_
  refine oGtr rfl rfl ?_
  refine oAssign rfl ?_
  refine oNil ?_
  refine thn_n ?_
  first | refine wCond rfl (fun h5 => ?_) (fun h5 => ?_) | refine wCondB rfl (fun h5 => ?_) (fun h5 => ?_)
  ·
    refine wSeq ?_
    refine wRegion' ?_
    refine oAssign rfl ?_
    refine oNil ?_
    refine thn_n ?_
    refine wRet ?_
    refine blk_r ?_
    refine thn_r ?_
    refine fin_r ?_
    refine ⟨rfl, _, (ResL.cons (ResR.tmp rfl) ResL.nil), ?_⟩
    exact ⟨(), trivial, by unfold nameF4; rw [if_pos (by omega)]; rfl, (Leads.has (by repeat' (first | exact Has.nil | exact Pick.here | apply Has.cons | apply Pick.there)))⟩
  ·
    have hs24 : ¬ 24 < s.size := by omega
    refine wSeq ?_
    refine wRegion' ?_
    refine oMove rfl ?_
    refine oSEq rfl rfl ?_
    refine oAssign rfl ?_
    refine oNil ?_
    refine thn_n ?_
    first | refine wCond rfl (fun h9 => ?_) (fun h9 => ?_) | refine wCondB rfl (fun h9 => ?_) (fun h9 => ?_)
    ·
      refine wSeq ?_
      refine wRegion' ?_
      refine oAssign rfl ?_
      refine oNil ?_
      refine thn_n ?_
      refine wRet ?_
      refine blk_r ?_
      refine thn_r ?_
      refine fin_r ?_
      refine ⟨rfl, _, (ResL.cons (ResR.tmp rfl) ResL.nil), ?_⟩
      exact ⟨(), trivial, by unfold nameF4; rw [if_neg hs24, if_pos (size_zero.1 h9)]; rfl, (Leads.has (by repeat' (first | exact Has.nil | exact Pick.here | apply Has.cons | apply Pick.there)))⟩
    ·
      have hz : ¬ s.size = 0 := fun h => h9 (size_zero.2 h)
      refine wSkip ?_
      refine blk_n ?_
      refine thn_n ?_
      refine wSeq ?_
      refine wSeq ?_
      refine wRegion' ?_
      refine oMove rfl ?_
      refine oRangeStr rfl rfl (fun b13 => ?_)
      refine oNil ?_
      refine thn_n ?_
      refine wBlock ?_
      refine wLoop (ι := Nat) (fun i => [(0, .string s), (13, .pointer (some ⟨b13, 0, none⟩))]) (fun i => [ob b13 (.stringIter s i)]) (fun i => i ≤ s.size ∧ ∀ j, j < i → badC s j = false) (fun i => s.size - i) 0 ?_ (by repeat (first | exact trivial | refine And.intro rfl ?_)) (Leads.has (by repeat' (first | exact Has.nil | exact Pick.here | apply Has.cons | apply Pick.there))) ?_
      ·
        exact ⟨Nat.zero_le _, fun j hj => by omega⟩
      ·
        rintro i ⟨hi, hs⟩
        try dsimp only
        refine wSeq ?_
        refine wRegion' ?_
        refine oNextStr rfl (by repeat (first | exact Pick.here | apply Pick.there)) ?_
        refine oExtN rfl ?_
        refine oNil ?_
        refine thn_n ?_
        refine wSeq ?_
        first | refine wCond rfl (fun h15 => ?_) (fun h15 => ?_) | refine wCondB rfl (fun h15 => ?_) (fun h15 => ?_)
        ·
          have hil : i < s.size := h15
          rw [nextV_rn hil]
          refine wSkip ?_
          refine thn_n ?_
          refine wBlock ?_
          refine wSeq ?_
          refine wRegion' ?_
          refine oExt rfl (by repeat (first | exact GetAt.here | apply GetAt.there)) ?_
          refine oExt rfl (by repeat (first | exact GetAt.here | apply GetAt.there)) ?_
          refine oAssign rfl ?_
          refine oAssign rfl ?_
          refine oNil ?_
          refine thn_n ?_
          refine wBlock ?_
          refine wSeq ?_
          refine wSeq ?_
          refine wRegion' ?_
          refine oMove rfl ?_
          refine oGeq rfl rfl ?_
          refine oMove rfl ?_
          first | refine oSplit (t := 21) rfl (fun h21 => ?_) (fun h21 => ?_) | refine oSplitB (t := 21) rfl (fun h21 => ?_) (fun h21 => ?_)
          ·
            refine oWant rfl rfl ?_
            refine oMove rfl ?_
            refine oWant rfl rfl ?_
            refine oLeq rfl rfl ?_
            refine oPickT rfl rfl ?_
            refine oAssign rfl ?_
            refine oNil ?_
            refine thn_n ?_
            first | refine wCond rfl (fun h18 => ?_) (fun h18 => ?_) | refine wCondB rfl (fun h18 => ?_) (fun h18 => ?_)
            ·
              refine wSkip ?_
              refine thn_n ?_
              first | refine wCondT rfl ?_ | refine wCondTd h18 rfl ?_ | refine wCondTb h18 rfl ?_
              refine wSkip ?_
              refine blk_n ?_
              refine blk_n ?_
              refine thn_n ?_
              have hno : badC s i = false := by rw [bad_rn hil]; unfold mayR; simp_all <;> omega
              rw [nextP_T hil (ok_lo hno)]
              exact ⟨rfl, i + 1, ⟨by omega, fun j hj => by
              by_cases e : j = i
              · subst e; exact hno
              · exact hs j (by omega)⟩, by omega, (by repeat (first | exact trivial | refine And.intro rfl ?_)), (Leads.has (by repeat' (first | exact Has.nil | exact Pick.here | apply Has.cons | apply Pick.there)))⟩
            ·
              refine wSeq ?_
              refine wRegion' ?_
              refine oMove rfl ?_
              refine oEql rfl rfl ?_
              refine oAssign rfl ?_
              refine oNil ?_
              refine thn_n ?_
              first | refine wCond rfl (fun h18 => ?_) (fun h18 => ?_) | refine wCondB rfl (fun h18 => ?_) (fun h18 => ?_)
              ·
                refine wSkip ?_
                refine thn_n ?_
                first | refine wCondT rfl ?_ | refine wCondTd h18 rfl ?_ | refine wCondTb h18 rfl ?_
                refine wSkip ?_
                refine blk_n ?_
                refine blk_n ?_
                refine thn_n ?_
                have hno : badC s i = false := by rw [bad_rn hil]; unfold mayR; simp_all <;> omega
                rw [nextP_T hil (ok_lo hno)]
                exact ⟨rfl, i + 1, ⟨by omega, fun j hj => by
                by_cases e : j = i
                · subst e; exact hno
                · exact hs j (by omega)⟩, by omega, (by repeat (first | exact trivial | refine And.intro rfl ?_)), (Leads.has (by repeat' (first | exact Has.nil | exact Pick.here | apply Has.cons | apply Pick.there)))⟩
              ·
                refine wSeq ?_
                refine wRegion' ?_
                refine oMove rfl ?_
                refine oEql rfl rfl ?_
                refine oAssign rfl ?_
                refine oNil ?_
                refine thn_n ?_
                first | refine wCond rfl (fun h18 => ?_) (fun h18 => ?_) | refine wCondB rfl (fun h18 => ?_) (fun h18 => ?_)
                ·
                  refine wSkip ?_
                  refine thn_n ?_
                  first | refine wCondT rfl ?_ | refine wCondTd h18 rfl ?_ | refine wCondTb h18 rfl ?_
                  refine wSkip ?_
                  refine blk_n ?_
                  refine blk_n ?_
                  refine thn_n ?_
                  have hno : badC s i = false := by rw [bad_rn hil]; unfold mayR; simp_all <;> omega
                  rw [nextP_T hil (ok_lo hno)]
                  exact ⟨rfl, i + 1, ⟨by omega, fun j hj => by
                  by_cases e : j = i
                  · subst e; exact hno
                  · exact hs j (by omega)⟩, by omega, (by repeat (first | exact trivial | refine And.intro rfl ?_)), (Leads.has (by repeat' (first | exact Has.nil | exact Pick.here | apply Has.cons | apply Pick.there)))⟩
                ·
                  refine wRegion' ?_
                  refine oMove rfl ?_
                  refine oGeq rfl rfl ?_
                  refine oMove rfl ?_
                  first | refine oSplit (t := 31) rfl (fun h31 => ?_) (fun h31 => ?_) | refine oSplitB (t := 31) rfl (fun h31 => ?_) (fun h31 => ?_)
                  ·
                    refine oWant rfl rfl ?_
                    refine oMove rfl ?_
                    refine oWant rfl rfl ?_
                    refine oLeq rfl rfl ?_
                    refine oPickT rfl rfl ?_
                    refine oMove rfl ?_
                    first | refine oSplit (t := 35) rfl (fun h35 => ?_) (fun h35 => ?_) | refine oSplitB (t := 35) rfl (fun h35 => ?_) (fun h35 => ?_)
                    ·
                      refine oWant rfl rfl ?_
                      refine oMove rfl ?_
                      refine oWant rfl rfl ?_
                      refine oGtr rfl rfl ?_
                      refine oPickT rfl rfl ?_
                      refine oAssign rfl ?_
                      refine oNil ?_
                      refine thn_n ?_
                      first | refine wCond rfl (fun h18 => ?_) (fun h18 => ?_) | refine wCondB rfl (fun h18 => ?_) (fun h18 => ?_)
                      ·
                        refine wSkip ?_
                        refine blk_n ?_
                        refine blk_n ?_
                        refine thn_n ?_
                        have hno : badC s i = false := by rw [bad_rn hil]; unfold mayR; simp_all <;> omega
                        rw [nextP_T hil (ok_lo hno)]
                        exact ⟨rfl, i + 1, ⟨by omega, fun j hj => by
                        by_cases e : j = i
                        · subst e; exact hno
                        · exact hs j (by omega)⟩, by omega, (by repeat (first | exact trivial | refine And.intro rfl ?_)), (Leads.has (by repeat' (first | exact Has.nil | exact Pick.here | apply Has.cons | apply Pick.there)))⟩
                      ·
                        refine wSeq ?_
                        refine wRegion' ?_
                        refine oAssign rfl ?_
                        refine oNil ?_
                        refine thn_n ?_
                        refine wRet ?_
                        refine blk_r ?_
                        refine blk_r ?_
                        refine thn_r ?_
                        refine blk_r ?_
                        refine thn_r ?_
                        refine fin_r ?_
                        refine ⟨rfl, _, (ResL.cons (ResR.tmp rfl) ResL.nil), ?_⟩
                        have hyes : badC s i = true := by rw [bad_rn hil]; unfold mayR; simp_all <;> omega
                        exact ⟨(), trivial, by unfold nameF4; rw [if_neg hs24, if_neg hz, if_pos (any_T hil hyes)]; rfl, (Leads.has (by repeat' (first | exact Has.nil | exact Pick.here | apply Has.cons | apply Pick.there)))⟩
                    ·
                      refine oSkip rfl rfl rfl rfl ?_
                      refine oSkip rfl rfl rfl rfl ?_
                      refine oPickF rfl rfl ?_
                      refine oAssign rfl ?_
                      refine oNil ?_
                      refine thn_n ?_
                      first | refine wCondF rfl ?_ | refine wCondFd h18 rfl ?_ | refine wCondFb h18 rfl ?_
                      refine wSeq ?_
                      refine wRegion' ?_
                      refine oAssign rfl ?_
                      refine oNil ?_
                      refine thn_n ?_
                      refine wRet ?_
                      refine blk_r ?_
                      refine blk_r ?_
                      refine thn_r ?_
                      refine blk_r ?_
                      refine thn_r ?_
                      refine fin_r ?_
                      refine ⟨rfl, _, (ResL.cons (ResR.tmp rfl) ResL.nil), ?_⟩
                      have hyes : badC s i = true := by rw [bad_rn hil]; unfold mayR; simp_all <;> omega
                      exact ⟨(), trivial, by unfold nameF4; rw [if_neg hs24, if_neg hz, if_pos (any_T hil hyes)]; rfl, (Leads.has (by repeat' (first | exact Has.nil | exact Pick.here | apply Has.cons | apply Pick.there)))⟩
                  ·
                    refine oSkip rfl rfl rfl rfl ?_
                    refine oSkip rfl rfl rfl rfl ?_
                    refine oPickF rfl rfl ?_
                    refine oMove rfl ?_
                    refine oSkip rfl rfl rfl rfl ?_
                    refine oSkip rfl rfl rfl rfl ?_
                    refine oPickF rfl rfl ?_
                    refine oAssign rfl ?_
                    refine oNil ?_
                    refine thn_n ?_
                    first | refine wCondF rfl ?_ | refine wCondFd h18 rfl ?_ | refine wCondFb h18 rfl ?_
                    refine wSeq ?_
                    refine wRegion' ?_
                    refine oAssign rfl ?_
                    refine oNil ?_
                    refine thn_n ?_
                    refine wRet ?_
                    refine blk_r ?_
                    refine blk_r ?_
                    refine thn_r ?_
                    refine blk_r ?_
                    refine thn_r ?_
                    refine fin_r ?_
                    refine ⟨rfl, _, (ResL.cons (ResR.tmp rfl) ResL.nil), ?_⟩
                    have hyes : badC s i = true := by rw [bad_rn hil]; unfold mayR; simp_all <;> omega
                    exact ⟨(), trivial, by unfold nameF4; rw [if_neg hs24, if_neg hz, if_pos (any_T hil hyes)]; rfl, (Leads.has (by repeat' (first | exact Has.nil | exact Pick.here | apply Has.cons | apply Pick.there)))⟩
          ·
            refine oSkip rfl rfl rfl rfl ?_
            refine oSkip rfl rfl rfl rfl ?_
            refine oPickF rfl rfl ?_
            refine oAssign rfl ?_
            refine oNil ?_
            refine thn_n ?_
            first | refine wCondF rfl ?_ | refine wCondFd h18 rfl ?_ | refine wCondFb h18 rfl ?_
            refine wSeq ?_
            refine wRegion' ?_
            refine oMove rfl ?_
            refine oEql rfl rfl ?_
            refine oAssign rfl ?_
            refine oNil ?_
            refine thn_n ?_
            first | refine wCond rfl (fun h18 => ?_) (fun h18 => ?_) | refine wCondB rfl (fun h18 => ?_) (fun h18 => ?_)
            ·
              refine wSkip ?_
              refine thn_n ?_
              first | refine wCondT rfl ?_ | refine wCondTd h18 rfl ?_ | refine wCondTb h18 rfl ?_
              refine wSkip ?_
              refine blk_n ?_
              refine blk_n ?_
              refine thn_n ?_
              have hno : badC s i = false := by rw [bad_rn hil]; unfold mayR; simp_all <;> omega
              rw [nextP_T hil (ok_lo hno)]
              exact ⟨rfl, i + 1, ⟨by omega, fun j hj => by
              by_cases e : j = i
              · subst e; exact hno
              · exact hs j (by omega)⟩, by omega, (by repeat (first | exact trivial | refine And.intro rfl ?_)), (Leads.has (by repeat' (first | exact Has.nil | exact Pick.here | apply Has.cons | apply Pick.there)))⟩
            ·
              refine wSeq ?_
              refine wRegion' ?_
              refine oMove rfl ?_
              refine oEql rfl rfl ?_
              refine oAssign rfl ?_
              refine oNil ?_
              refine thn_n ?_
              first | refine wCond rfl (fun h18 => ?_) (fun h18 => ?_) | refine wCondB rfl (fun h18 => ?_) (fun h18 => ?_)
              ·
                refine wSkip ?_
                refine thn_n ?_
                first | refine wCondT rfl ?_ | refine wCondTd h18 rfl ?_ | refine wCondTb h18 rfl ?_
                refine wSkip ?_
                refine blk_n ?_
                refine blk_n ?_
                refine thn_n ?_
                have hno : badC s i = false := by rw [bad_rn hil]; unfold mayR; simp_all <;> omega
                rw [nextP_T hil (ok_lo hno)]
                exact ⟨rfl, i + 1, ⟨by omega, fun j hj => by
                by_cases e : j = i
                · subst e; exact hno
                · exact hs j (by omega)⟩, by omega, (by repeat (first | exact trivial | refine And.intro rfl ?_)), (Leads.has (by repeat' (first | exact Has.nil | exact Pick.here | apply Has.cons | apply Pick.there)))⟩
              ·
                refine wRegion' ?_
                refine oMove rfl ?_
                refine oGeq rfl rfl ?_
                refine oMove rfl ?_
                first | refine oSplit (t := 31) rfl (fun h31 => ?_) (fun h31 => ?_) | refine oSplitB (t := 31) rfl (fun h31 => ?_) (fun h31 => ?_)
                ·
                  refine oWant rfl rfl ?_
                  refine oMove rfl ?_
                  refine oWant rfl rfl ?_
                  refine oLeq rfl rfl ?_
                  refine oPickT rfl rfl ?_
                  refine oMove rfl ?_
                  first | refine oSplit (t := 35) rfl (fun h35 => ?_) (fun h35 => ?_) | refine oSplitB (t := 35) rfl (fun h35 => ?_) (fun h35 => ?_)
                  ·
                    refine oWant rfl rfl ?_
                    refine oMove rfl ?_
                    refine oWant rfl rfl ?_
                    refine oGtr rfl rfl ?_
                    refine oPickT rfl rfl ?_
                    refine oAssign rfl ?_
                    refine oNil ?_
                    refine thn_n ?_
                    first | refine wCond rfl (fun h18 => ?_) (fun h18 => ?_) | refine wCondB rfl (fun h18 => ?_) (fun h18 => ?_)
                    ·
                      refine wSkip ?_
                      refine blk_n ?_
                      refine blk_n ?_
                      refine thn_n ?_
                      have hno : badC s i = false := by rw [bad_rn hil]; unfold mayR; simp_all <;> omega
                      rw [nextP_T hil (ok_lo hno)]
                      exact ⟨rfl, i + 1, ⟨by omega, fun j hj => by
                      by_cases e : j = i
                      · subst e; exact hno
                      · exact hs j (by omega)⟩, by omega, (by repeat (first | exact trivial | refine And.intro rfl ?_)), (Leads.has (by repeat' (first | exact Has.nil | exact Pick.here | apply Has.cons | apply Pick.there)))⟩
                    ·
                      refine wSeq ?_
                      refine wRegion' ?_
                      refine oAssign rfl ?_
                      refine oNil ?_
                      refine thn_n ?_
                      refine wRet ?_
                      refine blk_r ?_
                      refine blk_r ?_
                      refine thn_r ?_
                      refine blk_r ?_
                      refine thn_r ?_
                      refine fin_r ?_
                      refine ⟨rfl, _, (ResL.cons (ResR.tmp rfl) ResL.nil), ?_⟩
                      have hyes : badC s i = true := by rw [bad_rn hil]; unfold mayR; simp_all <;> omega
                      exact ⟨(), trivial, by unfold nameF4; rw [if_neg hs24, if_neg hz, if_pos (any_T hil hyes)]; rfl, (Leads.has (by repeat' (first | exact Has.nil | exact Pick.here | apply Has.cons | apply Pick.there)))⟩
                  ·
                    refine oSkip rfl rfl rfl rfl ?_
                    refine oSkip rfl rfl rfl rfl ?_
                    refine oPickF rfl rfl ?_
                    refine oAssign rfl ?_
                    refine oNil ?_
                    refine thn_n ?_
                    first | refine wCondF rfl ?_ | refine wCondFd h18 rfl ?_ | refine wCondFb h18 rfl ?_
                    refine wSeq ?_
                    refine wRegion' ?_
                    refine oAssign rfl ?_
                    refine oNil ?_
                    refine thn_n ?_
                    refine wRet ?_
                    refine blk_r ?_
                    refine blk_r ?_
                    refine thn_r ?_
                    refine blk_r ?_
                    refine thn_r ?_
                    refine fin_r ?_
                    refine ⟨rfl, _, (ResL.cons (ResR.tmp rfl) ResL.nil), ?_⟩
                    have hyes : badC s i = true := by rw [bad_rn hil]; unfold mayR; simp_all <;> omega
                    exact ⟨(), trivial, by unfold nameF4; rw [if_neg hs24, if_neg hz, if_pos (any_T hil hyes)]; rfl, (Leads.has (by repeat' (first | exact Has.nil | exact Pick.here | apply Has.cons | apply Pick.there)))⟩
                ·
                  refine oSkip rfl rfl rfl rfl ?_
                  refine oSkip rfl rfl rfl rfl ?_
                  refine oPickF rfl rfl ?_
                  refine oMove rfl ?_
                  refine oSkip rfl rfl rfl rfl ?_
                  refine oSkip rfl rfl rfl rfl ?_
                  refine oPickF rfl rfl ?_
                  refine oAssign rfl ?_
                  refine oNil ?_
                  refine thn_n ?_
                  first | refine wCondF rfl ?_ | refine wCondFd h18 rfl ?_ | refine wCondFb h18 rfl ?_
                  refine wSeq ?_
                  refine wRegion' ?_
                  refine oAssign rfl ?_
                  refine oNil ?_
                  refine thn_n ?_
                  refine wRet ?_
                  refine blk_r ?_
                  refine blk_r ?_
                  refine thn_r ?_
                  refine blk_r ?_
                  refine thn_r ?_
                  refine fin_r ?_
                  refine ⟨rfl, _, (ResL.cons (ResR.tmp rfl) ResL.nil), ?_⟩
                  have hyes : badC s i = true := by rw [bad_rn hil]; unfold mayR; simp_all <;> omega
                  exact ⟨(), trivial, by unfold nameF4; rw [if_neg hs24, if_neg hz, if_pos (any_T hil hyes)]; rfl, (Leads.has (by repeat' (first | exact Has.nil | exact Pick.here | apply Has.cons | apply Pick.there)))⟩
        ·
          refine wExit ?_
          refine thn_x ?_
          refine thn_x ?_
          refine blk_x ?_
          refine thn_n ?_
          refine wSeq ?_
          refine wRegion' ?_
          refine oAssign rfl ?_
          refine oNil ?_
          refine thn_n ?_
          refine wRet ?_
          refine fin_r ?_
          refine ⟨rfl, _, (ResL.cons (ResR.tmp rfl) ResL.nil), ?_⟩
          obtain rfl : i = s.size := by omega
          exact ⟨(), trivial, by unfold nameF4; rw [if_neg hs24, if_neg hz, if_neg (by rw [any_F hs]; simp)]; rfl, (Leads.has (by repeat' (first | exact Has.nil | exact Pick.here | apply Has.cons | apply Pick.there)))⟩
/-! ### places -/
def fndS (l : List ByteArray) (s : ByteArray) : Int := idxI (fun x => decide (x = s)) l
theorem idxOfS_eq (l : List ByteArray) (s : ByteArray) : Lib.idxOfS l s = fndS l s := by
  by_cases h : 0 ≤ fndS l s
  · obtain ⟨k, x, hk, hx, hp⟩ := idxI_at (show 0 ≤ idxI (fun x => decide (x = s)) l from h)
    have hf : fndS l s = (k : Int) := hk
    have hp' : x = s := of_decide_eq_true hp
    subst hp'
    have hkl := (List.getElem?_eq_some_iff.1 hx).1
    have h1 := Lib.idxOfS_hit l l.length k x hkl (Nat.le_refl _) (by rw [List.getD_eq_getElem?_getD, hx]; rfl) (fun j hj e => by
      have hjl : j < l.length := by omega
      rw [List.getD_eq_getElem?_getD, List.getElem?_eq_getElem hjl] at e
      have e' : l[j] = x := e
      unfold fndS idxI at hf
      rw [if_pos (List.any_eq_true.2 ⟨x, List.mem_of_getElem? hx, by simp⟩)] at hf
      have h2 := List.not_of_lt_findIdx (p := fun y => decide (y = x)) (xs := l) (i := j) (by omega)
      simp [e'] at h2)
    rw [List.take_length] at h1
    rw [h1, hf]
  · have hn : ∀ y ∈ l, decide (y = s) = false := fun y hy => by
      cases hd : decide (y = s) with
      | false => rfl
      | true => exact absurd (idxI_iff.2 (List.any_eq_true.2 ⟨y, hy, hd⟩)) h
    have h1 := Lib.idxOfS_miss l l.length s (fun j hj e => by
      rw [List.getD_eq_getElem?_getD, List.getElem?_eq_getElem hj] at e
      exact absurd e (of_decide_eq_false (hn _ (List.getElem_mem hj))))
    rw [List.take_length] at h1
    rw [h1]
    exact (idxI_none hn).symm
set_option maxRecDepth 100000 in
theorem name_Find {B : Base} {w : World} (hS : St B [] w) (A : Option Addr) (cp : Nat) (l : List ByteArray) (hC : Kd.string.C B.e A l) (s : ByteArray) :
    CallsIn Fence.wide 0 Tryd.prog 12 #[.slice A l.length cp, .string s] w (Ret B (fun _ : Unit => True) (fun _ => .int .i64 (fndS l s)) (fun _ => [])) := by
  (refine enter Tryd.func12 rfl rfl hS ?_; simp only [List.zipIdx_cons, List.zipIdx_nil, List.map_cons, List.map_nil, Nat.reduceAdd, Nat.zero_add])
  refine wSeq ?_
  refine wRegion' ?_
  refine oAssign rfl ?_
  refine oNil ?_
  refine thn_n ?_
  refine wSeq ?_
  refine wRegion' ?_
  refine oMove rfl ?_
  refine oMove rfl ?_
  (refine oCall rfl (by kernel_rfl) (fun w hS => frame hS (by repeat' (first | exact Split.nil | exact Pick.here | apply Split.cons | apply Pick.there)) (fun B' hB hS' => index_str laysn109_at hS' (Kd.C_grow hB hC) s)) ?_; rintro ⟨⟩ -)
  refine oAssign rfl ?_
  refine oNil ?_
  refine thn_n ?_
  refine wRet ?_
  refine fin_r ?_
  refine ⟨rfl, _, (ResL.cons (ResR.tmp rfl) ResL.nil), ?_⟩
  exact ⟨(), trivial, by rw [idxOfS_eq]; rfl, (Leads.has (by repeat' (first | exact Has.nil | exact Pick.here | apply Has.cons | apply Pick.there)))⟩
set_option maxRecDepth 100000 in
theorem ref4_Find {B : Base} {w : World} (hS : St B [] w) (A : Option Addr) (cp : Nat) (l : List ByteArray) (hC : Kd.string.C B.e A l) (hl : l.length ≤ 1000000) (s : ByteArray) :
    CallsIn Fence.wide 0 Tryd.prog 13 #[.slice A l.length cp, .string s] w (Ret B (fun _ : Unit => True) (fun _ => .int .i64 (fndS l s)) (fun _ => [])) := by
  (refine enter Tryd.func13 rfl rfl hS ?_; simp only [List.zipIdx_cons, List.zipIdx_nil, List.map_cons, List.map_nil, Nat.reduceAdd, Nat.zero_add])
  refine wSeq ?_
  refine wRegion' ?_
  refine oAssign rfl ?_
  refine oNil ?_
  refine thn_n ?_
  refine wSeq ?_
  refine wSeq ?_
  refine wRegion' ?_
  refine oAssign rfl ?_
  refine oNil ?_
  refine thn_n ?_
  refine wBlock ?_
  refine wLoop (ι := Nat) (fun i => [(0, .slice A l.length cp), (1, .string s), (5, .int .i64 (i : Int))]) (fun i => []) (fun i => i ≤ l.length ∧ ∀ y ∈ l.take i, decide (y = s) = false) (fun i => l.length - i) 0 ?_ (by repeat (first | exact trivial | refine And.intro rfl ?_)) (Leads.has (by repeat' (first | exact Has.nil | exact Pick.here | apply Has.cons | apply Pick.there))) ?_
  ·
    exact ⟨Nat.zero_le _, by simp⟩
  ·
    rintro i ⟨hi, hs⟩
    try dsimp only
    refine wSeq ?_
    refine wSeq ?_
    refine wRegion' ?_
    refine oMove rfl ?_
    refine oMove rfl ?_
    refine oLenS rfl rfl ?_
    refine oLss rfl rfl ?_
    refine oNil ?_
    refine thn_n ?_
    first | refine wCond rfl (fun h9 => ?_) (fun h9 => ?_) | refine wCondB rfl (fun h9 => ?_) (fun h9 => ?_)
    ·
      refine wSkip ?_
      refine thn_n ?_
      refine wSeq ?_
      refine wBlock ?_
      refine wSeq ?_
      refine wRegion' ?_
      refine oMove rfl ?_
      refine oMove rfl ?_
      refine oIdx rfl rfl (hC) rfl (by omega) rfl rfl (fun e14 u14 cs14 hu14 hk14 hc14 => ?_)
      obtain rfl := hk14
      first | refine oLdX rfl hc14 rfl rfl ?_ | refine oLdXA rfl hc14 rfl (by repeat (first | exact SubL.done | apply SubL.take | apply SubL.drop)) ?_ | (refine oLdR1 rfl (by repeat (first | exact Pick.here | apply Pick.there)) (by omega) rfl (fun u15 hu15 => ?_))
      refine oMove rfl ?_
      refine oSEq rfl rfl ?_
      refine oNil ?_
      refine thn_n ?_
      first | refine wCond rfl (fun h17 => ?_) (fun h17 => ?_) | refine wCondB rfl (fun h17 => ?_) (fun h17 => ?_)
      ·
        refine wSeq ?_
        refine wRegion' ?_
        refine oMove rfl ?_
        refine oAssign rfl ?_
        refine oNil ?_
        refine thn_n ?_
        refine wRet ?_
        refine blk_r ?_
        refine thn_r ?_
        refine thn_r ?_
        refine blk_r ?_
        refine thn_r ?_
        refine fin_r ?_
        refine ⟨rfl, _, (ResL.cons (ResR.tmp rfl) ResL.nil), ?_⟩
        exact ⟨(), trivial, by unfold fndS; rw [idxI_stop hs hu14 (decide_eq_true h17)]; rfl, (Leads.has (by repeat' (first | exact Has.nil | exact Pick.here | apply Has.cons | apply Pick.there)))⟩
      ·
        refine wSkip ?_
        refine blk_n ?_
        refine thn_n ?_
        refine wRegion' ?_
        refine oMove rfl ?_
        refine oSucc rfl rfl (by omega) ?_
        refine oAssign rfl ?_
        refine oNil ?_
        refine thn_n ?_
        exact ⟨rfl, i + 1, ⟨by omega, take_not hs hu14 (decide_eq_false h17)⟩, by omega, (by repeat (first | exact trivial | refine And.intro rfl ?_)), (Leads.has (by repeat' (first | exact Has.nil | exact Pick.here | apply Has.cons | apply Pick.there)))⟩
    ·
      refine wExit ?_
      refine thn_x ?_
      refine thn_x ?_
      refine blk_x ?_
      refine thn_n ?_
      refine wSeq ?_
      refine wRegion' ?_
      refine oAssign rfl ?_
      refine oNil ?_
      refine thn_n ?_
      refine wRet ?_
      refine fin_r ?_
      refine ⟨rfl, _, (ResL.cons (ResR.tmp rfl) ResL.nil), ?_⟩
      obtain rfl : i = l.length := by omega
      rw [List.take_length] at hs
      exact ⟨(), trivial, by unfold fndS; rw [idxI_none hs]; rfl, (Leads.has (by repeat' (first | exact Has.nil | exact Pick.here | apply Has.cons | apply Pick.there)))⟩
/-! ### few -/
def fewT (l : List ByteArray) : Bool := !(l.any fun s => decide (200 < s.size)) && decide (l.length ≤ 60)
set_option maxRecDepth 100000 in
theorem law4_few {B : Base} {w : World} (hS : St B [] w) (A : Option Addr) (cp : Nat) (l : List ByteArray) (hC : Kd.string.C B.e A l) :
    CallsIn Fence.wide 0 Tryd.prog 6 #[.slice A l.length cp] w (Ret B (fun _ : Unit => True) (fun _ => .bool (fewT l)) (fun _ => [])) := by
  have hl := hC.1
  (refine enter Tryd.func6 rfl rfl hS ?_; simp only [List.zipIdx_cons, List.zipIdx_nil, List.map_cons, List.map_nil, Nat.reduceAdd, Nat.zero_add])
  refine wSeq ?_
  refine wRegion' ?_
  refine oAssign rfl ?_
  refine oNil ?_
  refine thn_n ?_
  refine wSeq ?_
  refine wSeq ?_
  refine wRegion' ?_
  refine oAssign rfl ?_
  refine oNil ?_
  refine thn_n ?_
  refine wBlock ?_
  refine wLoop (ι := Nat) (fun i => [(0, .slice A l.length cp), (3, .int .i64 (i : Int))]) (fun i => []) (fun i => i ≤ l.length ∧ ∀ y ∈ l.take i, decide (200 < y.size) = false) (fun i => l.length - i) 0 ?_ (by repeat (first | exact trivial | refine And.intro rfl ?_)) (Leads.has (by repeat' (first | exact Has.nil | exact Pick.here | apply Has.cons | apply Pick.there))) ?_
  ·
    exact ⟨Nat.zero_le _, by simp⟩
  ·
    rintro i ⟨hi, hs⟩
    try dsimp only
    refine wSeq ?_
    refine wSeq ?_
    refine wRegion' ?_
    refine oMove rfl ?_
    refine oMove rfl ?_
    refine oLenS rfl rfl ?_
    refine oLss rfl rfl ?_
    refine oNil ?_
    refine thn_n ?_
    first | refine wCond rfl (fun h7 => ?_) (fun h7 => ?_) | refine wCondB rfl (fun h7 => ?_) (fun h7 => ?_)
    ·
      refine wSkip ?_
      refine thn_n ?_
      refine wSeq ?_
      refine wBlock ?_
      refine wSeq ?_
      refine wRegion' ?_
      refine oMove rfl ?_
      refine oMove rfl ?_
      refine oIdx rfl rfl (hC) rfl (by omega) rfl rfl (fun e12 u12 cs12 hu12 hk12 hc12 => ?_)
      obtain rfl := hk12
      first | refine oLdX rfl hc12 rfl rfl ?_ | refine oLdXA rfl hc12 rfl (by repeat (first | exact SubL.done | apply SubL.take | apply SubL.drop)) ?_ | (refine oLdR1 rfl (by repeat (first | exact Pick.here | apply Pick.there)) (by omega) rfl (fun u13 hu13 => ?_))
      refine oLenStr rfl rfl ?_
      refine oGtr rfl rfl ?_
      refine oNil ?_
      refine thn_n ?_
      first | refine wCond rfl (fun h15 => ?_) (fun h15 => ?_) | refine wCondB rfl (fun h15 => ?_) (fun h15 => ?_)
      ·
        refine wSeq ?_
        refine wRegion' ?_
        refine oAssign rfl ?_
        refine oNil ?_
        refine thn_n ?_
        refine wRet ?_
        refine blk_r ?_
        refine thn_r ?_
        refine thn_r ?_
        refine blk_r ?_
        refine thn_r ?_
        refine fin_r ?_
        refine ⟨rfl, _, (ResL.cons (ResR.tmp rfl) ResL.nil), ?_⟩
        exact ⟨(), trivial, by unfold fewT; rw [List.any_eq_true.2 ⟨_, List.mem_of_getElem? hu12, decide_eq_true (show 200 < _ by omega)⟩]; rfl, (Leads.has (by repeat' (first | exact Has.nil | exact Pick.here | apply Has.cons | apply Pick.there)))⟩
      ·
        refine wSkip ?_
        refine blk_n ?_
        refine thn_n ?_
        refine wRegion' ?_
        refine oMove rfl ?_
        refine oSucc rfl rfl (by omega) ?_
        refine oAssign rfl ?_
        refine oNil ?_
        refine thn_n ?_
        exact ⟨rfl, i + 1, ⟨by omega, take_not hs hu12 (decide_eq_false (by omega))⟩, by omega, (by repeat (first | exact trivial | refine And.intro rfl ?_)), (Leads.has (by repeat' (first | exact Has.nil | exact Pick.here | apply Has.cons | apply Pick.there)))⟩
    ·
      refine wExit ?_
      refine thn_x ?_
      refine thn_x ?_
      refine blk_x ?_
      refine thn_n ?_
      refine wSeq ?_
      refine wRegion' ?_
      refine oMove rfl ?_
      refine oLenS rfl rfl ?_
      refine oLeq rfl rfl ?_
      refine oAssign rfl ?_
      refine oNil ?_
      refine thn_n ?_
      refine wRet ?_
      refine fin_r ?_
      refine ⟨rfl, _, (ResL.cons (ResR.tmp rfl) ResL.nil), ?_⟩
      obtain rfl : i = l.length := by omega
      rw [List.take_length] at hs
      exact ⟨(), trivial, by unfold fewT; rw [List.any_eq_false.2 (fun y hy => by rw [hs y hy]; simp)]; simp only [resVal, Bool.not_false, Bool.true_and]; congr 1; exact decide_eq_decide.2 (by omega), (Leads.has (by repeat' (first | exact Has.nil | exact Pick.here | apply Has.cons | apply Pick.there)))⟩
end Go.Proofs.YtcacohoanlljhaaDoorN
