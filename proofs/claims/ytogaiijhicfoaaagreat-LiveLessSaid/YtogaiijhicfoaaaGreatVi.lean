import Derived.Test.YtogaiijhicfoaaaGreatVh

/-
  sheerleglaw17: known, VerifyRefers, VerifyMore.
-/
namespace Go.Proofs.YtogaiijhicfoaaaGreatV
set_option linter.unusedVariables false
set_option linter.unusedSimpArgs false
open Go.RowKit Go.Proofs.YtogaiijhicfoaaaGreatK Go.Proofs.YtogaiijhicfoaaaGreatT Go.Proofs.YtogaiijhicfoaaaGreatL

theorem nextL_any (x : ApiInstr) (i : Int) (p : Int → Bool) : (nextL x i).any p = (nextR x i).any p := by
  rw [Bool.eq_iff_iff, List.any_eq_true, List.any_eq_true]
  constructor
  · rintro ⟨y, hy, h⟩; exact ⟨y, ((sorted_spec _).2 y).1 hy, h⟩
  · rintro ⟨y, hy, h⟩; exact ⟨y, ((sorted_spec _).2 y).2 hy, h⟩
theorem flowF_eq (code : List ApiInstr) : flowF code = if code.length = 0 then 3 else if 64 < code.length then 6 else if (List.range code.length).any (fun i => (nextR (code.getD i default) (i : Int)).any (outF code.length)) then 10 else 0 := by
  have h : (graphF code).any (fun l => l.any (outF code.length)) = (List.range code.length).any (fun i => (nextR (code.getD i default) (i : Int)).any (outF code.length)) := by
    unfold graphF
    rw [List.any_map]
    rw [Bool.eq_iff_iff, List.any_eq_true, List.any_eq_true]
    have key : ∀ i ∈ List.range code.length, ((fun l : List Int => l.any (outF code.length)) ∘ fun i : Nat => nextF code (i : Int)) i = (nextR (code.getD i default) (i : Int)).any (outF code.length) := by
      intro i hi
      have := List.mem_range.1 hi
      show (nextF code (i : Int)).any _ = _
      unfold nextF
      rw [if_neg (by omega), Int.toNat_natCast, nextL_any]
    constructor
    · rintro ⟨i, hi, hp⟩; exact ⟨i, hi, by rw [← key i hi]; exact hp⟩
    · rintro ⟨i, hi, hp⟩; exact ⟨i, hi, by rw [key i hi]; exact hp⟩
  unfold flowF
  rw [h]
end Go.Proofs.YtogaiijhicfoaaaGreatV
