/-
  Plain laws of package scope: what the reference gives is what the program gives.
-/
import Derived.Test.YtnidmlngkpkmlaaPu2
import Derived.Test.YtnidmlngkpkmlaaPScopex5
namespace Go.Proofs.Ytnidmlngkpkmlaa.PScope
open Go.RowKit Go.Proofs.YtnidmlngkpkmlaaW.PrintWords Go.Proofs.YtnidmlngkpkmlaaSl

theorem rdYsym (l : List S40) (i j : Nat) : rd_T42 (l.getD i z40).f0 (j : Int) = symAt l i j := by simp [rd_T42, symAt]
theorem badAt_nat (l : List S40) (i j : Nat) : badAt l i j = (decide (l.length ≤ i) || decide ((l.getD i z40).f0.length ≤ j)) := by
  unfold badAt; rw [Int.toNat_natCast]; generalize (l.getD i z40).f0.length = n; rw [decide_eq_false (show ¬ (i : Int) < 0 by omega), decide_eq_false (show ¬ (j : Int) < 0 by omega)]; simp
theorem ref_bound (l : List S40) (hl : Fits l) (i j : Int) (k : Nat) (hk : wtO l + 1 ≤ k) : sheerlegref23_Bound.f k l i j = some (boundS l i j) := by
  obtain ⟨k, rfl⟩ : ∃ m, k = m + 1 := ⟨k - 1, by omega⟩
  unfold sheerlegref23_Bound.f
  by_cases h1 : i < 0
  · rw [if_pos h1]; simp [sheerlegref23_Bound.j0, boundS, badAt, h1]
  · rw [if_neg h1]
    by_cases h2 : i ≥ (l.length : Int)
    · rw [if_pos h2]; simp [sheerlegref23_Bound.j0, boundS, badAt, h2]
    · rw [if_neg h2]
      by_cases h3 : j < 0
      · rw [if_pos h3]; simp [sheerlegref23_Bound.j0, boundS, badAt, h3]
      · rw [if_neg h3, if_pos (by omega), if_pos (by omega)]
        obtain ⟨i, rfl⟩ := Int.eq_ofNat_of_zero_le (Int.not_lt.1 h1)
        obtain ⟨j, rfl⟩ := Int.eq_ofNat_of_zero_le (Int.not_lt.1 h3)
        rw [rdO]
        by_cases h4 : (j : Int) ≥ ((l.getD i z40).f0.length : Int)
        · have : badAt l i j = true := by rw [badAt_nat, decide_eq_false (by omega), decide_eq_true (by omega)]; rfl
          simp only [sheerlegref23_Bound.j0, boundS, this, h4, decide_true, if_true]
        · have hnb : badAt l i j = false := by rw [badAt_nat, decide_eq_false (by omega), decide_eq_false (by omega)]; rfl
          simp only [sheerlegref23_Bound.j0, h4, decide_false, Bool.false_eq_true, if_false]
          rw [if_pos (by omega), if_pos (by omega), if_pos (by omega), rdO, if_pos (by omega), rdYsym]
          unfold boundS
          rw [hnb]
          simp only [Bool.false_eq_true, if_false]
          by_cases hd : (symAt l i j).f4 = -1
          · rw [if_pos hd, if_neg (by simpa using hd), ref_find l hl _ k (by omega), findS_eq]
            cases hf : firstOf l (symAt l i j).f0 with
            | none => simp
            | some p =>
              obtain ⟨p1, p2⟩ := p
              obtain ⟨hp1, hp2⟩ := firstOf_in hf
              dsimp only at hp1 hp2
              simp only [Option.bind_some, Option.getD_some, Option.isSome_some, if_true]
              rw [if_pos (by omega), if_pos (by omega), if_pos (by omega), rdO, if_pos (by omega), rdYsym]
              by_cases e2 : (symAt l p1 p2).f2 = (symAt l i j).f2 <;> by_cases e3 : (symAt l p1 p2).f3 = (symAt l i j).f3 <;> simp [e2, e3]
          · rw [if_neg hd, if_pos hd]

def twiceV (p : Option (Nat × Nat)) : Int × Int × Int × Bool := match p with
  | none => (0, 0, 0, false)
  | some p => (12, (p.1 : Int), (p.2 : Int), true)
theorem ref_twice (l : List S40) (hl : Fits l) (k : Nat) (hk : wtO l + wtO l ≤ k) : sheerlegref23_Twice.f k l = some (twiceV (twiceS l)) := by
  have hout : twiceV (twiceS l) = outOf (fun y => (12, (y.1 : Int), (y.2.1 : Int), true)) (0, 0, 0, false) ((symsFrom 0 l).find? (twiceP l)) := by
    unfold twiceS; cases (symsFrom 0 l).find? (twiceP l) <;> rfl
  rw [hout]
  unfold sheerlegref23_Twice.f
  refine nest l (fun k i => sheerlegref23_Twice.l0 k l i) (fun k i j => sheerlegref23_Twice.l1 k l i j) _ _ _ (wtO l) (fun k i _ hi => ?_) (fun k _ => ?_) (fun k i j x hk hi hx => ?_) (fun k i _ hi => ?_) k (by omega)
  · simp only [sheerlegref23_Twice.l0]; rw [if_pos (by omega)]
  · simp only [sheerlegref23_Twice.l0]; rw [if_neg (by omega)]
  · have hj := lt_of_some hx
    have hs := hl.syms i hi
    simp only [sheerlegref23_Twice.l1]
    rw [if_pos (by omega), if_pos (by omega), rdO, if_pos (by omega), if_pos (by omega), rdY _ _ _ hx, wrap_succ hj hs, ref_find l hl _ k hk, findS_eq]
    obtain ⟨⟨q1, q2⟩, hq⟩ : ∃ q, (firstOf l x.f0).getD (0, 0) = q := ⟨_, rfl⟩
    rw [hq]
    simp only [sheerlegref23_global.f, twiceP, isGlobal, hq, Option.bind_some]
    by_cases hx1 : x.f1 = true
    · simp [hx1]
    · by_cases h4 : x.f4 = -1 <;> by_cases e1 : q1 = i <;> by_cases e2 : q2 = j <;> simp [hx1, h4, e1, e2]
      all_goals (intros; omega)
  · simp only [sheerlegref23_Twice.l1]
    rw [if_pos (by omega), if_pos (by omega), rdO, if_neg (by omega), wrap_succ hi hl.len]

theorem ref_check (l : List S40) (hl : Fits l) (k : Nat) (hk : wtO l + wtO l + 2 ≤ k) : sheerlegref23_Check.f k l = some (checkS l) := by
  obtain ⟨k, rfl⟩ : ∃ m, k = m + 1 := ⟨k - 1, by omega⟩
  unfold sheerlegref23_Check.f checkS
  by_cases h0 : l.length = 0
  · rw [if_pos (by omega), if_pos (by omega)]; simp [sheerlegref23_Check.j0]
  · rw [if_neg (by omega)]
    by_cases h6 : 6 < l.length
    · rw [if_pos (by omega)]
      have : decide ((l.length : Int) > 6) = true := by simp; omega
      rw [this]; simp [sheerlegref23_Check.j0]
    · rw [if_neg (by omega)]
      have : decide ((l.length : Int) > 6) = false := by simp; omega
      rw [this]
      simp only [sheerlegref23_Check.j0, Bool.false_eq_true, if_false]
      rw [ref_twice l hl k (by omega)]
      cases ht : twiceS l with
      | some p => simp [twiceV]
      | none =>
        simp only [twiceV, Option.bind_some, Bool.false_eq_true, if_false]
        have hout : (match (symsFrom 0 l).find? (unboundP l) with
          | some y => ((boundS l y.1 y.2.1).2.2, (y.1 : Int), (y.2.1 : Int))
          | none => (0, 0, 0)) = outOf (fun y => ((boundS l y.1 y.2.1).2.2, (y.1 : Int), (y.2.1 : Int))) (0, 0, 0) ((symsFrom 0 l).find? (unboundP l)) := by
          cases (symsFrom 0 l).find? (unboundP l) <;> rfl
        refine Eq.trans ?_ (congrArg some hout.symm)
        refine nest l (fun k i => sheerlegref23_Check.l0 k l i) (fun k i j => sheerlegref23_Check.l1 k l i j) _ _ _ (wtO l + 1) (fun k i _ hi => ?_) (fun k _ => ?_) (fun k i j x hk hi hx => ?_) (fun k i _ hi => ?_) k (by omega)
        · simp only [sheerlegref23_Check.l0]; rw [if_pos (by omega)]
        · simp only [sheerlegref23_Check.l0]; rw [if_neg (by omega)]
        · have hj := lt_of_some hx
          have hs := hl.syms i hi
          simp only [sheerlegref23_Check.l1]
          rw [if_pos (by omega), if_pos (by omega), rdO, if_pos (by omega), wrap_succ hj hs, ref_bound l hl _ _ k hk]
          by_cases hb : (boundS l i j).2.2 = 0 <;> simp [unboundP, hb]
        · simp only [sheerlegref23_Check.l1]
          rw [if_pos (by omega), if_pos (by omega), rdO, if_neg (by omega), wrap_succ hi hl.len]
end Go.Proofs.Ytnidmlngkpkmlaa.PScope
