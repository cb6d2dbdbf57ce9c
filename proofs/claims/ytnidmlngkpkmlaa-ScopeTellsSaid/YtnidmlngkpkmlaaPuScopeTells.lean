/-
  The plain law of ScopeTells.
-/
import Derived.Test.YtnidmlngkpkmlaaPu3
namespace Go.Proofs.Ytnidmlngkpkmlaa.PScope
open Go.RowKit Go.Proofs.YtnidmlngkpkmlaaW.PrintWords Go.Proofs.YtnidmlngkpkmlaaSl

theorem fits_of (l : List S40) (hl : l.length ≤ maxLen ∧ ∀ x ∈ l, V40 x) : Fits l := ⟨hl.1, fun i hi => by
  have hmem : l.getD i z40 ∈ l := by
    rw [List.getD_eq_getElem?_getD, List.getElem?_eq_getElem hi]; exact List.getElem_mem _
  exact (hl.2 _ hmem).1.1⟩
theorem small_of {l : List S40} (h : l.length ≤ 9 ∧ ∀ o ∈ l, o.f0.length ≤ 60) : Small l := ⟨by omega, fun o ho => by have := h.2 o ho; omega⟩
theorem PureScopeTells (l : List S40) (hl : l.length ≤ maxLen ∧ ∀ x ∈ l, V40 x) (s : ByteArray) (hs : s.size ≤ maxLen) (i : Int) (hi : (Lit.int .i64 i).wf = true) (j : Int) (hj : (Lit.int .i64 j).wf = true) : ∃ k, sheerleglaw23_ScopeTells.f k l s i j = some true := by
  refine ⟨wtO l + wtO l + 3, ?_⟩
  have hf := fits_of l hl
  obtain ⟨r, hr, h9⟩ := few24 l hl (wtO l + wtO l + 3) (by omega)
  unfold sheerleglaw23_ScopeTells.f
  rw [hr]
  cases r with
  | false => simp [sheerleglaw23_ScopeTells.j0, sheerleglaw23_known.f]
  | true =>
    have hsm := small_of (h9 rfl)
    simp only [Option.bind_some, if_true, sheerleglaw23_ScopeTells.j0, sheerleglaw23_known.f]
    split
    · rfl
    · rw [ref_find l hf s _ (by omega), ref_bound l hf i j _ (by omega), ref_twice l hf _ (by omega), ref_check l hf _ (by omega), findS_eq]
      simp only [scope_Find.f, scope_Bound.f, scope_Twice.f, scope_Check.f, if_pos hsm, Option.bind_some]
      cases ht : twiceS l <;> simp [twiceV]
end Go.Proofs.Ytnidmlngkpkmlaa.PScope
