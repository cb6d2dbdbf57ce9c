import Derived.Test.YtogaiijhicfoaaaGreatVh
import Derived.Test.YtogaiijhicfoaaaGreatKhc

/-
  The references of sig and op.
-/
namespace Go.Proofs.YtogaiijhicfoaaaGreatV
set_option linter.unusedVariables false
set_option linter.unusedSimpArgs false
open Go.RowKit Go.Proofs.YtogaiijhicfoaaaGreatK Go.Proofs.YtogaiijhicfoaaaGreatT Go.Proofs.YtogaiijhicfoaaaGreatL

def digB (k : Int) : Int := 48 + ((k.tmod 10).natAbs : Int)
def digS : Nat → Int → ByteArray → ByteArray
  | 0, _, s => s
  | f + 1, k, s => if k = 0 then s else digS f (k.tdiv 10) (bytesS [digB k] ++ s)
def decF (n : Int) : ByteArray := if n = 0 then ⟨#[48]⟩ else if n < 0 then ⟨#[45]⟩ ++ digS 20 n ByteArray.empty else digS 20 n ByteArray.empty
theorem digB_in (k : Int) : 48 ≤ digB k ∧ digB k ≤ 57 := by
  unfold digB
  have h : (k.tmod 10).natAbs < 10 := by
    rw [Int.natAbs_tmod]
    exact Nat.mod_lt _ (by decide)
  omega
theorem bytesS_size (xs : List Int) : (bytesS xs).size = xs.length := by simp [bytesS, ByteArray.size]
theorem digS_size : ∀ (f : Nat) (k : Int) (s : ByteArray), (digS f k s).size ≤ f + s.size
  | 0, _, s => by simp [digS]
  | f + 1, k, s => by
    unfold digS
    split
    · omega
    · have := digS_size f (k.tdiv 10) (bytesS [digB k] ++ s)
      rw [ByteArray.size_append, bytesS_size] at this
      simp only [List.length_cons, List.length_nil] at this
      omega
theorem decF_size (n : Int) : (decF n).size ≤ 21 := by
  have h := digS_size 20 n ByteArray.empty
  have h0 : ByteArray.empty.size = 0 := rfl
  unfold decF
  split
  · decide
  · split
    · rw [ByteArray.size_append]
      have : (⟨#[45]⟩ : ByteArray).size = 1 := rfl
      omega
    · omega
theorem wrap8 {n : Int} (h : 48 ≤ n ∧ n ≤ 57) : IntKind.u8.wrap n = n := by
  obtain ⟨m, rfl⟩ := Int.eq_ofNat_of_zero_le (show 0 ≤ n by omega)
  have : ∀ m, m < 58 → IntKind.u8.wrap ((m : Nat) : Int) = ((m : Nat) : Int) := by decide
  exact this m (by omega)
theorem in64_tdiv {k : Int} (h : in64 k) : in64 (k.tdiv 10) := by
  have h1 : (k.tdiv 10).natAbs ≤ k.natAbs / 10 := by rw [Int.natAbs_tdiv]; exact Nat.le_refl _
  unfold in64 at *
  omega
theorem tdiv_small {k : Int} {m : Nat} (h : k.natAbs < 10 * m) : (k.tdiv 10).natAbs < m := by
  rw [Int.natAbs_tdiv]
  exact Nat.div_lt_of_lt_mul (by simpa using h)
set_option maxRecDepth 100000 in
set_option maxHeartbeats 600000 in
theorem ref_Digits {B : Base} {w : World} (hS : St B [] w) (n : Int) (hn : in64 n) :
    CallsIn Fence.wide 0 Tryz.prog 214 #[.int .i64 n] w (Ret B (fun _ : Unit => True) (fun _ => .string (decF n)) (fun _ => [])) := by
  have hnn : n.natAbs < 10 ^ 20 := by unfold in64 at hn; omega
  (refine enter Tryz.func214 rfl rfl hS ?_; simp only [List.zipIdx_cons, List.zipIdx_nil, List.map_cons, List.map_nil, Nat.reduceAdd, Nat.zero_add])
  refine wSeq (wRegion' (oAssign rfl (oNil (thn_n (wSeq (wSeq (wRegion' (oMove rfl (oEql rfl rfl (oNil (thn_n ?_)))))))))))
  refine wC (fun h7 => ?_) (fun h7 => ?_)
  ·
   refine wSeq (wRegion' (oAssign rfl (oNil (thn_n (wRet (thn_r (fin_r (fi1 rfl ?_))))))))
   exact ⟨(), trivial, by unfold decF; rw [if_pos h7]; rfl, Lh⟩
  refine wSkip (thn_n (wSeq (wRegion' (oAssign rfl (oNil (thn_n (wSeq (wSeq (wRegion' (oMove rfl (oAssign rfl ?_)))))))))))
  refine oNil (thn_n (wBlock (wLoop (ι := Nat × Int × ByteArray) (fun z => [(0, .int .i64 n), (3, .string z.2.2), (4, .int .i64 z.2.1)]) (fun z => []) (fun z => in64 z.2.1 ∧ z.1 ≤ 20 ∧ z.2.1.natAbs < 10 ^ z.1 ∧ digS 20 n ByteArray.empty = digS z.1 z.2.1 z.2.2 ∧ z.1 + z.2.2.size ≤ 20) (fun z => z.1) (20, n, ByteArray.empty) ?_ cv Lh ?_)))
  ·
   exact ⟨hn, Nat.le_refl _, hnn, rfl, Nat.le_refl _⟩
  rintro ⟨f, k, s⟩ ⟨hk64, hf, hk, hd, hsz⟩
  dsimp only at hk64 hf hk hd hsz
  try dsimp only
  refine wSeq (wSeq (wRegion' (oMove rfl (oNeq rfl rfl (oNil (thn_n (wC (fun h10 => ?_) (fun h10 => ?_))))))))
  ·
   obtain ⟨f, rfl⟩ : ∃ f', f = f' + 1 := ⟨f - 1, by cases f with | zero => simp at hk; omega | succ f => rfl⟩
   have hkb : k.natAbs < 10 ^ 20 := Nat.lt_of_lt_of_le hk (Nat.pow_le_pow_right (by decide) hf)
   have hdb := digB_in k
   have hk64' := hk64
   unfold in64 at hk64'
   have hq : ∀ z, z = digB k → IntKind.u8.wrap z = digB k := fun z hz => by rw [hz]; exact wrap8 hdb
   refine wSkip (thn_n (wSeq (wBlock (wSeq (wRegion' (oMove rfl (oRem rfl rfl (by decide) ?_)))))))
   refine oAssign rfl (oNil (thn_n (wSeq (wSeq (wRegion' (oMove rfl (oLss rfl rfl (oNil (thn_n (wC (fun h16 => ?_) (fun h16 => ?_)))))))))))
   ·
    refine wRegion' (oMove rfl ?_)
    refine oSub rfl rfl (by have := digB_in k; unfold digB at this; omega) ?_
    refine oAssign rfl (oNil (thn_n (wRegion' (oMove rfl ?_))))
    refine oAdd rfl rfl (by have := digB_in k; unfold digB at this; omega) ?_
    refine oConvInt (m := digB k) rfl rfl rfl (hq _ (by unfold digB; omega)) ?_
    refine oBuildSlice1 rfl rfl rfl rfl rfl (by repeat constructor) rfl (fun b22 => ?_)
    refine oConvBS (xs := [digB k]) rfl rfl rfl rfl (by repeat constructor) rfl rfl (by intro v hv; obtain rfl := List.mem_singleton.1 hv; omega) ?_
    refine oMove rfl ?_
    refine oAddStr rfl rfl (by rw [bytesS_size]; simp only [List.length_cons, List.length_nil]; omega) ?_
    refine oAssign rfl (oNil (blk_n (thn_n (wRegion' (oMove rfl (oQuo rfl rfl (by omega) ?_))))))
    refine oAssign rfl (oNil (thn_n ?_))
    exact ⟨rfl, (f, k.tdiv 10, bytesS [digB k] ++ s), ⟨in64_tdiv hk64, by show f ≤ 20; omega, tdiv_small (by show k.natAbs < 10 * 10 ^ f; rw [Nat.pow_succ] at hk; omega), by rw [hd]; show (if k = 0 then s else _) = _; rw [if_neg h10], by show f + (bytesS [digB k] ++ s).size ≤ 20; rw [ByteArray.size_append, bytesS_size]; simp only [List.length_cons, List.length_nil]; omega⟩, by show f < f + 1; omega, cv, Lh⟩
   refine wSkip (thn_n (wRegion' (oMove rfl ?_)))
   refine oAdd rfl rfl (by have := digB_in k; unfold digB at this; omega) ?_
   refine oConvInt (m := digB k) rfl rfl rfl (hq _ (by unfold digB; omega)) ?_
   refine oBuildSlice1 rfl rfl rfl rfl rfl (by repeat constructor) rfl (fun b22 => ?_)
   refine oConvBS (xs := [digB k]) rfl rfl rfl rfl (by repeat constructor) rfl rfl (by intro v hv; obtain rfl := List.mem_singleton.1 hv; omega) ?_
   refine oMove rfl ?_
   refine oAddStr rfl rfl (by rw [bytesS_size]; simp only [List.length_cons, List.length_nil]; omega) ?_
   refine oAssign rfl (oNil (blk_n (thn_n (wRegion' (oMove rfl (oQuo rfl rfl (by omega) ?_))))))
   refine oAssign rfl (oNil (thn_n ?_))
   exact ⟨rfl, (f, k.tdiv 10, bytesS [digB k] ++ s), ⟨in64_tdiv hk64, by show f ≤ 20; omega, tdiv_small (by show k.natAbs < 10 * 10 ^ f; rw [Nat.pow_succ] at hk; omega), by rw [hd]; show (if k = 0 then s else _) = _; rw [if_neg h10], by show f + (bytesS [digB k] ++ s).size ≤ 20; rw [ByteArray.size_append, bytesS_size]; simp only [List.length_cons, List.length_nil]; omega⟩, by show f < f + 1; omega, cv, Lh⟩
  obtain rfl : k = 0 := by omega
  have hd0 : digS 20 n ByteArray.empty = s := by rw [hd]; cases f with | zero => rfl | succ f => show (if (0 : Int) = 0 then s else _) = s; rw [if_pos rfl]
  refine wExit (thn_x (thn_x (blk_x (thn_n (wSeq (wSeq (wRegion' (oMove rfl (oLss rfl rfl (oNil (thn_n ?_)))))))))))
  refine wC (fun h27 => ?_) (fun h27 => ?_)
  ·
   refine wSeq (wRegion' (oMove rfl ?_))
   refine oAddStr rfl rfl (by show 1 + _ ≤ _; omega) ?_
   refine oAssign rfl (oNil (thn_n (wRet (thn_r (fin_r (fi1 rfl ?_))))))
   exact ⟨(), trivial, by unfold decF; rw [if_neg h7, if_pos h27, hd0]; rfl, Lh⟩
  refine wSkip (thn_n (wSeq (wRegion' (oMove rfl (oAssign rfl (oNil (thn_n (wRet (fin_r (fi1 rfl ?_))))))))))
  exact ⟨(), trivial, by unfold decF; rw [if_neg h7, if_neg h27, hd0]; rfl, Lh⟩
set_option maxRecDepth 100000 in
theorem ref5_Params {B : Base} {w : World} (hS : St B [] w) (c : Int) :
    CallsIn Fence.wide 0 Tryz.prog 288 #[.int .i64 c] w (Ret B (fun _ : Unit => True) (fun _ => .int .i64 (parF c)) (fun _ => [])) := by
  (refine enter Tryz.func288 rfl rfl hS ?_; simp only [List.zipIdx_cons, List.zipIdx_nil, List.map_cons, List.map_nil, Nat.reduceAdd, Nat.zero_add])
  refine wSeq (wRegion' (oAssign rfl (oNil (thn_n (wSeq (wSeq (wRegion' (oMove rfl ?_))))))))
  (refine oCall rfl (by kernel_rfl) (fun w hS => frame hS (by repeat' constructor) (fun B' hB hS' => ref5_Is hS' c)) ?_; rintro ⟨⟩ -)
  first | refine oNot rfl ?_ | refine oNotB rfl ?_
  refine oNil (thn_n (wC (fun h5 => ?_) (fun h5 => ?_)))
  ·
   refine wSeq (wRegion' (oAssign rfl (oNil (thn_n (wRet (thn_r (fin_r (fi1 rfl ?_))))))))
   exact ⟨(), trivial, by unfold parF; rw [if_neg (by simpa using h5)]; rfl, Lh⟩
  have hc := isC_iff.1 (show isC c = true by simpa using h5)
  refine wSkip (thn_n (wSeq (wRegion' (oMove rfl (oQuo rfl rfl (by omega) ?_)))))
  refine oAssign rfl (oNil (thn_n (wRet (fin_r (fi1 rfl ?_)))))
  exact ⟨(), trivial, by unfold parF; rw [if_pos (by simpa using h5), Int.tdiv_eq_ediv_of_nonneg hc.1]; rfl, Lh⟩
set_option maxRecDepth 100000 in
theorem ref5_Answers {B : Base} {w : World} (hS : St B [] w) (c : Int) :
    CallsIn Fence.wide 0 Tryz.prog 297 #[.int .i64 c] w (Ret B (fun _ : Unit => True) (fun _ => .bool (ansF c)) (fun _ => [])) := by
  (refine enter Tryz.func297 rfl rfl hS ?_; simp only [List.zipIdx_cons, List.zipIdx_nil, List.map_cons, List.map_nil, Nat.reduceAdd, Nat.zero_add])
  refine wSeq (wRegion' (oAssign rfl (oNil (thn_n (wSeq (wRegion' (oMove rfl ?_)))))))
  (refine oCall rfl (by kernel_rfl) (fun w hS => frame hS (by repeat' constructor) (fun B' hB hS' => ref5_Is hS' c)) ?_; rintro ⟨⟩ -)
  refine oMove rfl ?_
  first | refine oSplit (t := 5) rfl (fun h5 => ?_) (fun h5 => ?_) | refine oSplitB (t := 5) rfl (fun h5 => ?_) (fun h5 => ?_)
  ·
   have hc := isC_iff.1 (show isC c = true by simpa using h5)
   refine oWant rfl rfl (oMove rfl (oWant rfl rfl (oRem rfl rfl (by decide) ?_)))
   rw [Int.tmod_eq_emod_of_nonneg hc.1]
   refine oWant rfl rfl (oEql rfl rfl (oPickT rfl rfl (oAssign rfl (oNil (thn_n (wRet (fin_r (fi1 rfl ?_))))))))
   exact ⟨(), trivial, by simp_all [resVal, ansF], Lh⟩
  refine oSkip rfl rfl rfl rfl (oSkip rfl rfl rfl rfl (oSkip rfl rfl rfl rfl (oPickF rfl rfl (oAssign rfl (oNil (thn_n (wRet (fin_r (fi1 rfl ?_)))))))))
  exact ⟨(), trivial, by simp_all [resVal, ansF], Lh⟩
theorem latF_eq (c : Int) : latF c = decide (c = 0 ∨ c = 2) := by
  by_cases h : 0 ≤ c ∧ c < 8
  · have : ∀ n, n < 8 → latF ((n : Nat) : Int) = decide (((n : Nat) : Int) = 0 ∨ ((n : Nat) : Int) = 2) := by decide
    obtain ⟨n, rfl⟩ := Int.eq_ofNat_of_zero_le h.1
    exact this n (by omega)
  · have : isC c = false := by unfold isC; rw [← Bool.decide_and]; exact decide_eq_false h
    have h2 : decide (c = 0 ∨ c = 2) = false := decide_eq_false (by omega)
    rw [h2]
    unfold latF
    rw [this]; rfl
set_option maxRecDepth 100000 in
theorem ref5_Later {B : Base} {w : World} (hS : St B [] w) (c : Int) :
    CallsIn Fence.wide 0 Tryz.prog 257 #[.int .i64 c] w (Ret B (fun _ : Unit => True) (fun _ => .bool (latF c)) (fun _ => [])) := by
  rw [latF_eq]
  (refine enter Tryz.func257 rfl rfl hS ?_; simp only [List.zipIdx_cons, List.zipIdx_nil, List.map_cons, List.map_nil, Nat.reduceAdd, Nat.zero_add])
  refine wSeq (wRegion' (oAssign rfl (oNil (thn_n (wSeq (wRegion' (oMove rfl (oEql rfl rfl (oMove rfl ?_)))))))))
  first | refine oSplit (t := 5) rfl (fun h5 => ?_) (fun h5 => ?_) | refine oSplitB (t := 5) rfl (fun h5 => ?_) (fun h5 => ?_)
  ·
   refine oSkip rfl rfl rfl rfl (oSkip rfl rfl rfl rfl (oPickT rfl rfl (oAssign rfl (oNil (thn_n (wRet (fin_r (fi1 rfl ?_))))))))
   exact ⟨(), trivial, by simp_all [resVal], Lh⟩
  refine oWant rfl rfl (oMove rfl (oWant rfl rfl (oEql rfl rfl (oPickF rfl rfl (oAssign rfl (oNil (thn_n (wRet (fin_r (fi1 rfl ?_))))))))))
  exact ⟨(), trivial, by simp_all [resVal], Lh⟩
set_option maxRecDepth 100000 in
theorem ref5_Class {B : Base} {w : World} (hS : St B [] w) (k : Int) :
    CallsIn Fence.wide 0 Tryz.prog 213 #[.int .i64 k] w (Ret B (fun _ : Unit => True) (fun _ => .tuple #[.int .i64 (if isC (IntKind.i64.wrap (k - 1)) then IntKind.i64.wrap (k - 1) else 0), .bool (isC (IntKind.i64.wrap (k - 1)))]) (fun _ => [])) := by
  generalize hz : IntKind.i64.wrap (k - 1) = z
  (refine enter Tryz.func213 rfl rfl hS ?_; simp only [List.zipIdx_cons, List.zipIdx_nil, List.map_cons, List.map_nil, Nat.reduceAdd, Nat.zero_add])
  refine wSeq (wRegion' (oAssign rfl (oAssign rfl (oNil (thn_n (wSeq (wSeq (wRegion' (oMove rfl (oSubW rfl rfl ?_))))))))))
  rw [hz]
  (refine oCall rfl (by kernel_rfl) (fun w hS => frame hS (by repeat' constructor) (fun B' hB hS' => ref5_Is hS' z)) ?_; rintro ⟨⟩ -)
  first | refine oNot rfl ?_ | refine oNotB rfl ?_
  refine oNil (thn_n (wC (fun h7 => ?_) (fun h7 => ?_)))
  ·
   refine wSeq (wRegion' (oAssign rfl (oAssign rfl (oNil (thn_n (wRet (thn_r (fin_r ?_))))))))
   refine ⟨rfl, _, (ResL.cons (ResR.tmp rfl) (ResL.cons (ResR.tmp rfl) ResL.nil)), ?_⟩
   exact ⟨(), trivial, by simp_all [resVal], Lh⟩
  refine wSkip (thn_n (wSeq (wRegion' (oMove rfl (oSubW rfl rfl ?_)))))
  rw [hz]
  refine oAssign rfl (oAssign rfl (oNil (thn_n (wRet (fin_r ?_)))))
  refine ⟨rfl, _, (ResL.cons (ResR.tmp rfl) (ResL.cons (ResR.tmp rfl) ResL.nil)), ?_⟩
  exact ⟨(), trivial, by simp_all [resVal], Lh⟩
theorem textF_some : ∀ k : Nat, k < 8 → (⟨#[102]⟩ ++ decF ((k / 2 : Nat) : Int)) ++ (if k % 2 = 1 then (⟨#[114]⟩ : ByteArray) else ByteArray.empty) = textF ((k + 1 : Nat) : Int) := by decide
theorem emp_app (s : ByteArray) : s ++ ByteArray.empty = s := by simp
set_option maxRecDepth 100000 in
theorem ref5_Text {B : Base} {w : World} (hS : St B [] w) (k : Int) (hk : in64 k) :
    CallsIn Fence.wide 0 Tryz.prog 185 #[.int .i64 k] w (Ret B (fun _ : Unit => True) (fun _ => .string (textF k)) (fun _ => [])) := by
  have hw : isC (IntKind.i64.wrap (k - 1)) = decide (1 ≤ k ∧ k < 9) := by
    unfold in64 at hk
    by_cases h : -9223372036854775808 ≤ k - 1
    · rw [wrap_in (by unfold in64; omega)]; unfold isC; rw [← Bool.decide_and]; exact decide_eq_decide.2 (by omega)
    · obtain rfl : k = -9223372036854775808 := by omega
      decide
  (refine enter Tryz.func185 rfl rfl hS ?_; simp only [List.zipIdx_cons, List.zipIdx_nil, List.map_cons, List.map_nil, Nat.reduceAdd, Nat.zero_add])
  refine wSeq (wRegion' (oAssign rfl (oNil (thn_n (wSeq (wSeq (wRegion' (oMove rfl (oEql rfl rfl (oNil (thn_n ?_)))))))))))
  refine wC (fun h7 => ?_) (fun h7 => ?_)
  ·
   refine wSeq (wRegion' (oAssign rfl (oNil (thn_n (wRet (thn_r (fin_r (fi1 rfl ?_))))))))
   exact ⟨(), trivial, by subst h7; rfl, Lh⟩
  refine wSkip (thn_n (wSeq (wRegion' (oMove rfl ?_))))
  (refine oCall rfl (by kernel_rfl) (fun w hS => frame hS (by repeat' constructor) (fun B' hB hS' => ref5_Class hS' k)) ?_; rintro ⟨⟩ -)
  rw [hw]
  refine oMove rfl (oExt rfl (by repeat constructor) ?_)
  refine oExt rfl (by repeat constructor) ?_
  refine oAssign rfl (oAssign rfl (oNil (thn_n (wSeq (wSeq (wRegion' (oMove rfl ?_)))))))
  first | refine oNot rfl ?_ | refine oNotB rfl ?_
  refine oNil (thn_n (wC (fun h14 => ?_) (fun h14 => ?_)))
  ·
   refine wSeq (wRegion' (oAssign rfl (oNil (thn_n (wRet (thn_r (fin_r (fi1 rfl ?_))))))))
   exact ⟨(), trivial, by rw [textF_no.2 (by omega)]; rfl, Lh⟩
  have hk9 : 1 ≤ k ∧ k < 9 := by omega
  rw [if_pos (by simpa using hk9), wrap_in (by unfold in64; omega)]
  obtain ⟨m, hm⟩ := Int.eq_ofNat_of_zero_le (show 0 ≤ k - 1 by omega)
  have htf := textF_some m (by omega)
  rw [hm]
  refine wSkip (thn_n (wSeq (wRegion' (oMove rfl (oQuo rfl rfl (by omega) ?_)))))
  refine oSet (t := 16) (v' := .int .i64 ((m / 2 : Nat) : Int)) rfl (by rw [Int.tdiv_eq_ediv_of_nonneg (by omega)]; rfl) ?_
  (refine oCall rfl (by kernel_rfl) (fun w hS => frame hS (by repeat' constructor) (fun B' hB hS' => ref_Digits hS' ((m / 2 : Nat) : Int) (by unfold in64; omega))) ?_; rintro ⟨⟩ -)
  have hds : (decF ((m / 2 : Nat) : Int)).size ≤ 21 := decF_size _
  refine oAddStr rfl rfl (by show 1 + _ ≤ _; omega) ?_
  refine oAssign rfl (oNil (thn_n (wSeq (wSeq (wRegion' (oMove rfl (oRem rfl rfl (by decide) ?_)))))))
  rw [Int.tmod_eq_emod_of_nonneg (by omega)]
  refine oEql rfl rfl (oNil (thn_n (wC (fun h21 => ?_) (fun h21 => ?_))))
  ·
   refine wRegion' (oMove rfl ?_)
   refine oAddStr rfl rfl (by rw [ByteArray.size_append]; show 1 + _ + 1 ≤ _; omega) ?_
   refine oAssign rfl (oNil (thn_n (wSeq (wRegion' (oMove rfl (oAssign rfl (oNil (thn_n (wRet (fin_r (fi1 rfl ?_)))))))))))
   exact ⟨(), trivial, by rw [if_pos (by omega)] at htf; rw [show k = ((m + 1 : Nat) : Int) by omega, ← htf]; rfl, Lh⟩
  refine wSkip (thn_n (wSeq (wRegion' (oMove rfl (oAssign rfl (oNil (thn_n (wRet (fin_r (fi1 rfl ?_))))))))))
  exact ⟨(), trivial, by rw [if_neg (by omega), emp_app] at htf; rw [show k = ((m + 1 : Nat) : Int) by omega, ← htf]; rfl, Lh⟩
theorem name_case {s : ByteArray} (n : Nat) (hn : ∀ k, k < 28 → namesL.getD k ByteArray.empty = s → k = n) (hs : s ≠ ByteArray.empty) {o : Int} (h : nameF o = s) : o = (n : Int) + 1 := by
  unfold nameF at h
  split at h
  · next k => have := hn (o - 1).toNat (by omega) h; omega
  · exact absurd h.symm hs
theorem name_not {s : ByteArray} (n : Nat) (hn : n < 28) (hs : namesL.getD n ByteArray.empty = s) {o : Int} (h : ¬ nameF o = s) : o ≠ (n : Int) + 1 := by
  rintro rfl
  apply h
  unfold nameF
  rw [if_pos (by omega), ← hs]
  congr 1
  omega
set_option maxRecDepth 100000 in
theorem ref7_Own {B : Base} {w : World} (hS : St B [] w) (o : Int) :
    CallsIn Fence.wide 0 Tryz.prog 291 #[.int .i64 o] w (Ret B (fun _ : Unit => True) (fun _ => .bool (ownF o)) (fun _ => [])) := by
  (refine enter Tryz.func291 rfl rfl hS ?_; simp only [List.zipIdx_cons, List.zipIdx_nil, List.map_cons, List.map_nil, Nat.reduceAdd, Nat.zero_add])
  refine wSeq (wRegion' (oAssign rfl (oNil (thn_n (wSeq (wRegion' (oMove rfl (oGeq rfl rfl (oMove rfl ?_)))))))))
  first | refine oSplit (t := 5) rfl (fun h5 => ?_) (fun h5 => ?_) | refine oSplitB (t := 5) rfl (fun h5 => ?_) (fun h5 => ?_)
  ·
   refine oWant rfl rfl (oMove rfl (oWant rfl rfl (oLeq rfl rfl (oPickT rfl rfl (oAssign rfl (oNil (thn_n (wRet (fin_r (fi1 rfl ?_))))))))))
   exact ⟨(), trivial, by simp_all [resVal, ownF] <;> omega, Lh⟩
  refine oSkip rfl rfl rfl rfl (oSkip rfl rfl rfl rfl (oPickF rfl rfl (oAssign rfl (oNil (thn_n (wRet (fin_r (fi1 rfl ?_))))))))
  exact ⟨(), trivial, by simp_all [resVal, ownF] <;> omega, Lh⟩
set_option maxRecDepth 100000 in
theorem ref7_names {B : Base} {w : World} (hS : St B [] w) (W0 : World) :
    CallsIn Fence.wide 0 Tryz.prog 263 #[] w (Ret B (fun _ : Nat => True) (fun b => .slice (some ⟨b, 0, none⟩) 28 28) (fun b => [row Kd.string W0 9 (.slice (some ⟨b, 0, none⟩) 28 28) namesL])) := by
  (refine enter Tryz.func263 rfl rfl hS ?_; simp only [List.zipIdx_cons, List.zipIdx_nil, List.map_cons, List.map_nil, Nat.reduceAdd, Nat.zero_add])
  refine wSeq (wRegion' (oAssign rfl (oNil (thn_n (wSeq (wRegion' ?_))))))
  refine oBuildSliceF (Parts.cons rfl (Parts.cons rfl (Parts.cons rfl (Parts.cons rfl (Parts.cons rfl (Parts.cons rfl (Parts.cons rfl (Parts.cons rfl (Parts.cons rfl (Parts.cons rfl (Parts.cons rfl (Parts.cons rfl (Parts.cons rfl (Parts.cons rfl (Parts.cons rfl (Parts.cons rfl (Parts.cons rfl (Parts.cons rfl (Parts.cons rfl (Parts.cons rfl (Parts.cons rfl (Parts.cons rfl (Parts.cons rfl (Parts.cons rfl (Parts.cons rfl (Parts.cons rfl (Parts.cons rfl (Parts.cons rfl Parts.nil)))))))))))))))))))))))))))) rfl rfl rfl rfl rfl (Fulls.cons (by repeat constructor) rfl (Fulls.cons (by repeat constructor) rfl (Fulls.cons (by repeat constructor) rfl (Fulls.cons (by repeat constructor) rfl (Fulls.cons (by repeat constructor) rfl (Fulls.cons (by repeat constructor) rfl (Fulls.cons (by repeat constructor) rfl (Fulls.cons (by repeat constructor) rfl (Fulls.cons (by repeat constructor) rfl (Fulls.cons (by repeat constructor) rfl (Fulls.cons (by repeat constructor) rfl (Fulls.cons (by repeat constructor) rfl (Fulls.cons (by repeat constructor) rfl (Fulls.cons (by repeat constructor) rfl (Fulls.cons (by repeat constructor) rfl (Fulls.cons (by repeat constructor) rfl (Fulls.cons (by repeat constructor) rfl (Fulls.cons (by repeat constructor) rfl (Fulls.cons (by repeat constructor) rfl (Fulls.cons (by repeat constructor) rfl (Fulls.cons (by repeat constructor) rfl (Fulls.cons (by repeat constructor) rfl (Fulls.cons (by repeat constructor) rfl (Fulls.cons (by repeat constructor) rfl (Fulls.cons (by repeat constructor) rfl (Fulls.cons (by repeat constructor) rfl (Fulls.cons (by repeat constructor) rfl (Fulls.cons (by repeat constructor) rfl Fulls.nil (by repeat (first | exact AppL.nil | apply AppL.cons))) (by repeat (first | exact AppL.nil | apply AppL.cons))) (by repeat (first | exact AppL.nil | apply AppL.cons))) (by repeat (first | exact AppL.nil | apply AppL.cons))) (by repeat (first | exact AppL.nil | apply AppL.cons))) (by repeat (first | exact AppL.nil | apply AppL.cons))) (by repeat (first | exact AppL.nil | apply AppL.cons))) (by repeat (first | exact AppL.nil | apply AppL.cons))) (by repeat (first | exact AppL.nil | apply AppL.cons))) (by repeat (first | exact AppL.nil | apply AppL.cons))) (by repeat (first | exact AppL.nil | apply AppL.cons))) (by repeat (first | exact AppL.nil | apply AppL.cons))) (by repeat (first | exact AppL.nil | apply AppL.cons))) (by repeat (first | exact AppL.nil | apply AppL.cons))) (by repeat (first | exact AppL.nil | apply AppL.cons))) (by repeat (first | exact AppL.nil | apply AppL.cons))) (by repeat (first | exact AppL.nil | apply AppL.cons))) (by repeat (first | exact AppL.nil | apply AppL.cons))) (by repeat (first | exact AppL.nil | apply AppL.cons))) (by repeat (first | exact AppL.nil | apply AppL.cons))) (by repeat (first | exact AppL.nil | apply AppL.cons))) (by repeat (first | exact AppL.nil | apply AppL.cons))) (by repeat (first | exact AppL.nil | apply AppL.cons))) (by repeat (first | exact AppL.nil | apply AppL.cons))) (by repeat (first | exact AppL.nil | apply AppL.cons))) (by repeat (first | exact AppL.nil | apply AppL.cons))) (by repeat (first | exact AppL.nil | apply AppL.cons))) (by repeat (first | exact AppL.nil | apply AppL.cons))) (fun b1 => ?_)
  refine oAssign rfl (oNil (thn_n (wRet (fin_r (fi1 rfl ?_)))))
  exact ⟨b1, trivial, rfl, Leads.trans (blk_row (enc := Value.string) (h1 := fun _ => rfl) (W := W0) (xs := namesL) (by repeat constructor) rfl rfl (by decide)) Lh⟩
set_option maxRecDepth 100000 in
theorem ref7_Name {B : Base} {w : World} (hS : St B [] w) (o : Int) :
    CallsIn Fence.wide 0 Tryz.prog 220 #[.int .i64 o] w (Ret B (fun _ : Unit => True) (fun _ => .string (nameF o)) (fun _ => [])) := by
  (refine enter Tryz.func220 rfl rfl hS ?_; simp only [List.zipIdx_cons, List.zipIdx_nil, List.map_cons, List.map_nil, Nat.reduceAdd, Nat.zero_add])
  refine wSeq (wRegion' (oAssign rfl (oNil (thn_n (wSeq (wRegion' ?_))))))
  (refine oCall rfl (by kernel_rfl) (fun w hS => frame hS (by repeat' constructor) (fun B' hB hS' => ref7_names hS' B.e)) ?_; rintro b4 -)
  refine oAssign rfl (oNil (thn_n (wSeq (wSeq (wRegion' (oMove rfl (oLss rfl rfl (oMove rfl ?_))))))))
  first | refine oSplit (t := 7) rfl (fun h7 => ?_) (fun h7 => ?_) | refine oSplitB (t := 7) rfl (fun h7 => ?_) (fun h7 => ?_)
  ·
   refine oSkip rfl rfl rfl rfl (oSkip rfl rfl rfl rfl (oSkip rfl rfl rfl rfl (oSkip rfl rfl rfl rfl (oPickT rfl rfl (oNil (thn_n ?_))))))
   first | refine wCondT rfl ?_ | refine wCondTd h12 rfl ?_ | refine wCondTb h12 rfl ?_
   refine wSeq (wRegion' (oAssign rfl (oNil (thn_n (wRet (thn_r (fin_r (fi1 rfl ?_))))))))
   exact ⟨(), trivial, by unfold nameF; rw [if_neg (by omega)]; rfl, Lh⟩
  refine oWant rfl rfl (oMove rfl (oWant rfl rfl (oMove rfl (oWant rfl rfl (oLenS rfl rfl (oWant rfl rfl (oGtr rfl rfl (oPickF rfl rfl (oNil (thn_n (wC (fun h12 => ?_) (fun h12 => ?_))))))))))))
  ·
   refine wSeq (wRegion' (oAssign rfl (oNil (thn_n (wRet (thn_r (fin_r (fi1 rfl ?_))))))))
   exact ⟨(), trivial, by unfold nameF; rw [if_neg (by omega)]; rfl, Lh⟩
  obtain ⟨n, hn⟩ := Int.eq_ofNat_of_zero_le (show 0 ≤ o - 1 by omega)
  have hn28 : n < 28 := by omega
  refine wSkip (thn_n (wSeq (wRegion' (oMove rfl (oMove rfl ?_)))))
  first | refine oSub rfl rfl (by omega) ?_ | refine oSubW rfl rfl ?_
  rw [hn]
  refine oIdxR rfl rfl (by repeat constructor) (by first | exact hn28 | (show n < 28; omega)) rfl rfl (fun g16 hg16 => ?_)
  first | subst hg16 | (injection hg16 with hg16; injection hg16 with hg16; subst hg16)
  first | refine oLdX rfl hc16 rfl rfl ?_ | refine oLdXA rfl hc16 rfl (by repeat constructor) ?_ | (refine oLdR1 rfl (by repeat constructor) (by first | exact hn28 | (show n < 28; omega)) rfl (fun u17 hu17 => ?_))
  obtain rfl : u17 = namesL.getD n ByteArray.empty := by rw [List.getD_eq_getElem?_getD, hu17]; rfl
  refine oAssign rfl (oNil (thn_n (wRet (fin_r (fi1 rfl ?_)))))
  exact ⟨(), trivial, by unfold nameF; rw [if_pos (by omega), hn, Int.toNat_natCast]; rfl, Lh⟩
set_option maxRecDepth 100000 in
theorem ref7_Need {B : Base} {w : World} (hS : St B [] w) (o : Int) :
    CallsIn Fence.wide 0 Tryz.prog 190 #[.int .i64 o] w (Ret B (fun _ : Unit => True) (fun _ => .int .i64 (needF o)) (fun _ => [])) := by
  (refine enter Tryz.func190 rfl rfl hS ?_; simp only [List.zipIdx_cons, List.zipIdx_nil, List.map_cons, List.map_nil, Nat.reduceAdd, Nat.zero_add])
  refine wSeq (wRegion' (oAssign rfl (oNil (thn_n (wSeq (wRegion' (oMove rfl ?_)))))))
  (refine oCall rfl (by kernel_rfl) (fun w hS => frame hS (by repeat' constructor) (fun B' hB hS' => ref7_Name hS' o)) ?_; rintro ⟨⟩ -)
  refine oNil (thn_n (wBlock (wSeq (wRegion' (oSEq rfl rfl (oAssign rfl (oNil (thn_n (wC (fun h5 => ?_) (fun h5 => ?_))))))))))
  ·
   refine wSeq (wRegion' (oAssign rfl (oNil (thn_n (wRet (blk_r (fin_r (fi1 rfl ?_))))))))
   have ho := name_case 18 (by decide) (by decide) h5
   exact ⟨(), trivial, by subst ho; rfl, Lh⟩
  have n5 := name_not 18 (by decide) rfl h5
  refine wSeq (wRegion' (oSEq rfl rfl (oAssign rfl (oNil (thn_n (wC (fun h7 => ?_) (fun h7 => ?_)))))))
  ·
   refine wSeq (wRegion' (oAssign rfl (oNil (thn_n (wRet (blk_r (fin_r (fi1 rfl ?_))))))))
   have ho := name_case 16 (by decide) (by decide) h7
   exact ⟨(), trivial, by subst ho; rfl, Lh⟩
  have n7 := name_not 16 (by decide) rfl h7
  refine wSeq (wSeq (wRegion' (oSEq rfl rfl (oAssign rfl (oNil (thn_n (wC (fun h9 => ?_) (fun h9 => ?_))))))))
  ·
   refine wSkip (thn_n ?_)
   first | refine wCondT rfl ?_ | refine wCondTd h9 rfl ?_ | refine wCondTb h9 rfl ?_
   refine wSeq (wRegion' (oAssign rfl (oNil (thn_n (wRet (blk_r (fin_r (fi1 rfl ?_))))))))
   have ho : o = 15 ∨ o = 16 := by
     first
     | exact .inl (name_case 14 (by decide) (by decide) h9)
     | exact .inr (name_case 15 (by decide) (by decide) h9)
   exact ⟨(), trivial, by rcases ho with rfl | rfl <;> rfl, Lh⟩
  refine wRegion' (oSEq rfl rfl ?_)
  have n9 := name_not 14 (by decide) rfl h9
  refine oAssign rfl (oNil (thn_n (wC (fun h9 => ?_) (fun h9 => ?_))))
  ·
   refine wSeq (wRegion' (oAssign rfl (oNil (thn_n (wRet (blk_r (fin_r (fi1 rfl ?_))))))))
   have ho : o = 15 ∨ o = 16 := by
     first
     | exact .inl (name_case 14 (by decide) (by decide) h9)
     | exact .inr (name_case 15 (by decide) (by decide) h9)
   exact ⟨(), trivial, by rcases ho with rfl | rfl <;> rfl, Lh⟩
  refine wSeq (wRegion' (oSEq rfl rfl (oAssign rfl (oNil (thn_n (wC (fun h12 => ?_) (fun h12 => ?_)))))))
  ·
   refine wSeq (wRegion' (oAssign rfl (oNil (thn_n (wRet (blk_r (fin_r (fi1 rfl ?_))))))))
   have ho := name_case 17 (by decide) (by decide) h12
   exact ⟨(), trivial, by subst ho; rfl, Lh⟩
  refine wSeq (wRegion' (oSEq rfl rfl (oAssign rfl (oNil (thn_n (wC (fun h14 => ?_) (fun h14 => ?_)))))))
  ·
   refine wSeq (wRegion' (oAssign rfl (oNil (thn_n (wRet (blk_r (fin_r (fi1 rfl ?_))))))))
   have ho := name_case 20 (by decide) (by decide) h14
   exact ⟨(), trivial, by subst ho; rfl, Lh⟩
  refine wSeq (wRegion' (oAssign rfl (oNil (thn_n (wRet (blk_r (fin_r (fi1 rfl ?_))))))))
  have m9 := name_not 15 (by decide) rfl h9
  have m12 := name_not 17 (by decide) rfl h12
  have m14 := name_not 20 (by decide) rfl h14
  exact ⟨(), trivial, by unfold needF; rw [if_neg (by omega), if_neg (by omega), if_neg (by omega), if_neg (by omega), if_neg (by omega)]; rfl, Lh⟩
set_option maxRecDepth 100000 in
theorem ref7_Ends {B : Base} {w : World} (hS : St B [] w) (o : Int) :
    CallsIn Fence.wide 0 Tryz.prog 298 #[.int .i64 o] w (Ret B (fun _ : Unit => True) (fun _ => .bool (endsF o)) (fun _ => [])) := by
  have e1 : (nameF o = ⟨#[106, 117, 109, 112]⟩) ↔ o = 11 := ⟨fun h => name_case 10 (by decide) (by decide) h, fun h => by subst h; decide⟩
  have e2 : (nameF o = ⟨#[112, 97, 110, 105, 99]⟩) ↔ o = 22 := ⟨fun h => name_case 21 (by decide) (by decide) h, fun h => by subst h; decide⟩
  have e3 : (nameF o = ⟨#[114, 101, 116, 117, 114, 110]⟩) ↔ o = 24 := ⟨fun h => name_case 23 (by decide) (by decide) h, fun h => by subst h; decide⟩
  (refine enter Tryz.func298 rfl rfl hS ?_; simp only [List.zipIdx_cons, List.zipIdx_nil, List.map_cons, List.map_nil, Nat.reduceAdd, Nat.zero_add])
  refine wSeq (wRegion' (oAssign rfl (oNil (thn_n (wSeq (wRegion' (oMove rfl ?_)))))))
  (refine oCall rfl (by kernel_rfl) (fun w hS => frame hS (by repeat' constructor) (fun B' hB hS' => ref7_Name hS' o)) ?_; rintro ⟨⟩ -)
  refine oSEq rfl rfl (oMove rfl ?_)
  first | refine oSplit (t := 6) rfl (fun h6 => ?_) (fun h6 => ?_) | refine oSplitB (t := 6) rfl (fun h6 => ?_) (fun h6 => ?_)
  ·
   refine oSkip rfl rfl rfl rfl (oSkip rfl rfl rfl rfl (oSkip rfl rfl rfl rfl (oPickT rfl rfl (oMove rfl (oSkip rfl rfl rfl rfl (oSkip rfl rfl rfl rfl (oSkip rfl rfl rfl rfl (oPickT rfl rfl (oAssign rfl (oNil (thn_n ?_)))))))))))
   refine wRet (fin_r (fi1 rfl ?_))
   exact ⟨(), trivial, by simp_all [resVal, endsF], Lh⟩
  refine oWant rfl rfl (oMove rfl (oWant rfl rfl ?_))
  (refine oCall rfl (by kernel_rfl) (fun w hS => frame hS (by repeat' constructor) (fun B' hB hS' => ref7_Name hS' o)) ?_; rintro ⟨⟩ -)
  refine oWant rfl rfl (oSEq rfl rfl (oPickF rfl rfl (oMove rfl ?_)))
  first | refine oSplit (t := 11) rfl (fun h11 => ?_) (fun h11 => ?_) | refine oSplitB (t := 11) rfl (fun h11 => ?_) (fun h11 => ?_)
  ·
   refine oSkip rfl rfl rfl rfl (oSkip rfl rfl rfl rfl (oSkip rfl rfl rfl rfl (oPickT rfl rfl (oAssign rfl (oNil (thn_n (wRet (fin_r (fi1 rfl ?_)))))))))
   exact ⟨(), trivial, by simp_all [resVal, endsF], Lh⟩
  refine oWant rfl rfl (oMove rfl (oWant rfl rfl ?_))
  (refine oCall rfl (by kernel_rfl) (fun w hS => frame hS (by repeat' constructor) (fun B' hB hS' => ref7_Name hS' o)) ?_; rintro ⟨⟩ -)
  refine oWant rfl rfl (oSEq rfl rfl (oPickF rfl rfl (oAssign rfl (oNil (thn_n (wRet (fin_r (fi1 rfl ?_))))))))
  exact ⟨(), trivial, by simp_all [resVal, endsF], Lh⟩
end Go.Proofs.YtogaiijhicfoaaaGreatV
