import Derived.Test.YtogaiijhicfoaaaGreatUg

/-
  The statement that the order of instructions turns nothing.
-/
namespace Go.Proofs.YtogaiijhicfoaaaGreatU
set_option linter.unusedVariables false
set_option linter.unusedSimpArgs false
open Go.RowKit Go.Proofs.YtogaiijhicfoaaaGreatK Go.Proofs.YtogaiijhicfoaaaGreatT Go.Proofs.YtogaiijhicfoaaaGreatL Go.Proofs.YtogaiijhicfoaaaGreatV Go.Proofs.YtogaiijhicfoaaaGreatG Go.Proofs.YtogaiijhicfoaaaGreatW

theorem mem_refsC {f : ApiFun} {needs : List Int} {r : Int} : r ∈ refsC f needs ↔ ∃ (i : Nat) (x : ApiInstr), f.fF.fCode[i]? = some x ∧ f.fRefs[i]? = some r ∧ needF x.fOp ∈ needs := by
  unfold refsC selP
  constructor
  · intro h
    obtain ⟨⟨x, r'⟩, hm, rfl⟩ := List.mem_map.1 h
    obtain ⟨hz, hp⟩ := List.mem_filter.1 hm
    obtain ⟨i, hi⟩ := List.mem_iff_getElem?.1 hz
    rw [List.getElem?_zip_eq_some] at hi
    exact ⟨i, x, hi.1, hi.2, of_decide_eq_true hp⟩
  · rintro ⟨i, x, hx, hr, hp⟩
    refine List.mem_map.2 ⟨(x, r), List.mem_filter.2 ⟨List.mem_of_getElem? (i := i) ?_, decide_eq_true hp⟩, rfl⟩
    rw [List.getElem?_zip_eq_some]; exact ⟨hx, hr⟩
theorem funsTo_mem {l : List ApiObject} {n : Nat} {f : ApiFun} (h : f ∈ funsTo l n) : ∃ i k : Nat, i < n ∧ k < (objAt l i).fFuncs.length ∧ f = mkFun l i k := by
  unfold funsTo at h
  obtain ⟨x, hx, hf⟩ := List.mem_flatten.1 h
  obtain ⟨i, hi, rfl⟩ := List.mem_map.1 hx
  obtain ⟨k, hk, rfl⟩ := List.mem_map.1 hf
  exact ⟨i, k, List.mem_range.1 hi, List.mem_range.1 hk, rfl⟩
theorem bindP_len (l : List ApiObject) (s : ByteArray) : ∀ f ∈ (bindP l s).fFuns, f.fRefs.length = f.fF.fCode.length := by
  intro f hf
  unfold bindP at hf
  split at hf
  · obtain ⟨i, k, _, _, rfl⟩ := funsTo_mem hf
    show (boundL l i (symsF (funAt l i k))).length = (funAt l i k).fCode.length
    rw [boundL_len, symsF_len]
  · cases hf
end Go.Proofs.YtogaiijhicfoaaaGreatU
