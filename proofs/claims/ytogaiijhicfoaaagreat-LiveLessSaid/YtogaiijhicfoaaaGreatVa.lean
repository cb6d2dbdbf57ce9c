import Derived.Test.YtogaiijhicfoaaaGreatKha
import Derived.Test.YtogaiijhicfoaaaGreatKt
import Derived.Test.YtogaiijhicfoaaaGreatLay

/-
  Packages sig, op, instr: what they tell.
-/
namespace Go.Proofs.YtogaiijhicfoaaaGreatV
set_option linter.unusedVariables false
set_option linter.unusedSimpArgs false
open Go.RowKit Go.Proofs.YtogaiijhicfoaaaGreatK Go.Proofs.YtogaiijhicfoaaaGreatT Go.Proofs.YtogaiijhicfoaaaGreatL

def isC (c : Int) : Bool := decide (0 ≤ c) && decide (c < 8)
def parF (c : Int) : Int := if isC c then c / 2 else 0
def ansF (c : Int) : Bool := isC c && decide (c % 2 = 1)
def latF (c : Int) : Bool := isC c && !ansF c && decide (parF c ≤ 1)
theorem isC_iff {c : Int} : isC c = true ↔ 0 ≤ c ∧ c < 8 := by simp [isC]
theorem parF_in (c : Int) : 0 ≤ parF c ∧ parF c ≤ 3 := by
  unfold parF
  split
  · next h => have := isC_iff.1 h; omega
  · omega
def textsL : List ByteArray := [⟨#[110]⟩, ⟨#[102, 48]⟩, ⟨#[102, 48, 114]⟩, ⟨#[102, 49]⟩, ⟨#[102, 49, 114]⟩, ⟨#[102, 50]⟩, ⟨#[102, 50, 114]⟩, ⟨#[102, 51]⟩, ⟨#[102, 51, 114]⟩]
def textF (k : Int) : ByteArray := if 0 ≤ k ∧ k < 9 then textsL.getD k.toNat ByteArray.empty else ByteArray.empty
theorem textF_no {k : Int} : textF k = ByteArray.empty ↔ ¬ (0 ≤ k ∧ k < 9) := by
  unfold textF
  by_cases h : 0 ≤ k ∧ k < 9
  · rw [if_pos h]
    obtain ⟨n, rfl⟩ := Int.eq_ofNat_of_zero_le h.1
    have : ∀ n, n < 9 → textsL.getD n ByteArray.empty ≠ ByteArray.empty := by decide
    rw [Int.toNat_natCast]
    constructor
    · intro e; exact absurd e (this n (by omega))
    · intro e; exact absurd h e
  · rw [if_neg h]; simp [h]
def ownF (o : Int) : Bool := decide (1 ≤ o) && decide (o ≤ 24)
theorem ownF_iff {o : Int} : ownF o = true ↔ 1 ≤ o ∧ o ≤ 24 := by simp [ownF]
def needF (o : Int) : Int := if o = 19 then 1 else if o = 17 then 2 else if o = 15 ∨ o = 16 then 3 else if o = 18 then 4 else if o = 21 then 5 else 0
def endsF (o : Int) : Bool := decide (o = 11 ∨ o = 22 ∨ o = 24)
def shapesL : List ByteArray := [⟨#[45, 45, 45, 45]⟩, ⟨#[119, 45, 45, 110]⟩, ⟨#[119, 114, 45, 45]⟩, ⟨#[119, 114, 114, 45]⟩, ⟨#[119, 114, 114, 45]⟩, ⟨#[119, 114, 114, 45]⟩, ⟨#[119, 114, 114, 45]⟩, ⟨#[119, 114, 114, 45]⟩, ⟨#[119, 114, 114, 45]⟩, ⟨#[119, 114, 114, 45]⟩, ⟨#[45, 45, 45, 116]⟩, ⟨#[114, 45, 45, 116]⟩, ⟨#[119, 45, 45, 45]⟩, ⟨#[114, 45, 45, 45]⟩, ⟨#[119, 114, 45, 45]⟩, ⟨#[114, 114, 45, 45]⟩, ⟨#[103, 45, 45, 45]⟩, ⟨#[103, 114, 45, 45]⟩, ⟨#[99, 45, 45, 45]⟩, ⟨#[99, 102, 107, 45]⟩, ⟨#[100, 45, 45, 45]⟩, ⟨#[114, 45, 45, 45]⟩, ⟨#[119, 119, 45, 45]⟩, ⟨#[118, 45, 45, 45]⟩]
def namesL : List ByteArray := [⟨#[110, 111, 112]⟩, ⟨#[115, 101, 116]⟩, ⟨#[109, 111, 118, 101]⟩, ⟨#[97, 100, 100]⟩, ⟨#[115, 117, 98]⟩, ⟨#[109, 117, 108]⟩, ⟨#[100, 105, 118]⟩, ⟨#[109, 111, 100]⟩, ⟨#[108, 101, 115, 115]⟩, ⟨#[115, 97, 109, 101]⟩, ⟨#[106, 117, 109, 112]⟩, ⟨#[122, 101, 114, 111]⟩, ⟨#[105, 110]⟩, ⟨#[111, 117, 116]⟩, ⟨#[108, 111, 97, 100]⟩, ⟨#[115, 116, 111, 114, 101]⟩, ⟨#[102, 117, 110, 99]⟩, ⟨#[112, 105, 99, 107]⟩, ⟨#[99, 97, 108, 108]⟩, ⟨#[118, 105, 97]⟩, ⟨#[100, 101, 102, 101, 114]⟩, ⟨#[112, 97, 110, 105, 99]⟩, ⟨#[114, 101, 99, 111, 118, 101, 114]⟩, ⟨#[114, 101, 116, 117, 114, 110]⟩, ⟨#[99, 104, 101, 99, 107]⟩, ⟨#[101, 110, 116, 101, 114]⟩, ⟨#[98, 111, 116, 116, 111, 109]⟩, ⟨#[100, 114, 105, 118, 101, 114]⟩]
def shapeF (o : Int) : ByteArray := if ownF o then shapesL.getD (o - 1).toNat ByteArray.empty else ByteArray.empty
def nameF (o : Int) : ByteArray := if 1 ≤ o ∧ o ≤ 28 then namesL.getD (o - 1).toNat ByteArray.empty else ByteArray.empty
theorem shapeF_size (o : Int) : (shapeF o).size = if ownF o then 4 else 0 := by
  unfold shapeF
  by_cases h : ownF o = true
  · rw [if_pos h, if_pos h]
    have h2 := ownF_iff.1 h
    have : ∀ n, n < 24 → (shapesL.getD n ByteArray.empty).size = 4 := by decide
    exact this _ (by omega)
  · rw [if_neg h, if_neg h]; rfl
set_option maxRecDepth 100000 in
theorem op_Need {B : Base} {w : World} (hS : St B [] w) (o : Int) :
    CallsIn Fence.wide 0 Tryz.prog 148 #[.int .i64 o] w (Ret B (fun _ : Unit => True) (fun _ => .int .i64 (needF o)) (fun _ => [])) := by
  (refine enter Tryz.func148 rfl rfl hS ?_; simp only [List.zipIdx_cons, List.zipIdx_nil, List.map_cons, List.map_nil, Nat.reduceAdd, Nat.zero_add])
  refine wSeq (wRegion' (oAssign rfl (oNil (thn_n (wSeq (wSeq (wRegion' (oMove rfl (oNil (thn_n (wBlock ?_)))))))))))
  refine wSeq (wRegion' (oEql rfl rfl (oAssign rfl (oNil (thn_n (wC (fun h4 => ?_) (fun h4 => ?_)))))))
  ·
   refine wSeq (wRegion' (oAssign rfl (oNil (thn_n (wRet (blk_r (thn_r (fin_r (fi1 rfl ?_)))))))))
   exact ⟨(), trivial, by simp_all [resVal, needF], Lh⟩
  refine wSeq (wRegion' (oEql rfl rfl (oAssign rfl (oNil (thn_n (wC (fun h6 => ?_) (fun h6 => ?_)))))))
  ·
   refine wSeq (wRegion' (oAssign rfl (oNil (thn_n (wRet (blk_r (thn_r (fin_r (fi1 rfl ?_)))))))))
   exact ⟨(), trivial, by simp_all [resVal, needF], Lh⟩
  refine wSeq (wSeq (wRegion' (oEql rfl rfl (oAssign rfl (oNil (thn_n (wC (fun h8 => ?_) (fun h8 => ?_))))))))
  ·
   refine wSkip (thn_n ?_)
   first | refine wCondT rfl ?_ | refine wCondTd h8 rfl ?_ | refine wCondTb h8 rfl ?_
   refine wSeq (wRegion' (oAssign rfl (oNil (thn_n (wRet (blk_r (thn_r (fin_r (fi1 rfl ?_)))))))))
   exact ⟨(), trivial, by simp_all [resVal, needF], Lh⟩
  refine wRegion' (oEql rfl rfl (oAssign rfl (oNil (thn_n (wC (fun h8 => ?_) (fun h8 => ?_))))))
  ·
   refine wSeq (wRegion' (oAssign rfl (oNil (thn_n (wRet (blk_r (thn_r (fin_r (fi1 rfl ?_)))))))))
   exact ⟨(), trivial, by simp_all [resVal, needF], Lh⟩
  refine wSeq (wRegion' (oEql rfl rfl (oAssign rfl (oNil (thn_n (wC (fun h11 => ?_) (fun h11 => ?_)))))))
  ·
   refine wSeq (wRegion' (oAssign rfl (oNil (thn_n (wRet (blk_r (thn_r (fin_r (fi1 rfl ?_)))))))))
   exact ⟨(), trivial, by simp_all [resVal, needF], Lh⟩
  refine wSeq (wRegion' (oEql rfl rfl (oAssign rfl (oNil (thn_n (wC (fun h13 => ?_) (fun h13 => ?_)))))))
  ·
   refine wSeq (wRegion' (oAssign rfl (oNil (thn_n (wRet (blk_r (thn_r (fin_r (fi1 rfl ?_)))))))))
   exact ⟨(), trivial, by simp_all [resVal, needF], Lh⟩
  refine wSkip (blk_n (thn_n (wSeq (wRegion' (oAssign rfl (oNil (thn_n (wRet (fin_r (fi1 rfl ?_))))))))))
  exact ⟨(), trivial, by simp_all [resVal, needF], Lh⟩
end Go.Proofs.YtogaiijhicfoaaaGreatV
