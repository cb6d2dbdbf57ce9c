import Derived.Test.YtogaiijhicfoaaaGreatUm

/-
  What is live: the second statement.
-/
namespace Go.Proofs.YtogaiijhicfoaaaGreatU
set_option linter.unusedVariables false
set_option linter.unusedSimpArgs false
open Go.RowKit Go.Proofs.YtogaiijhicfoaaaGreatK Go.Proofs.YtogaiijhicfoaaaGreatT Go.Proofs.YtogaiijhicfoaaaGreatL Go.Proofs.YtogaiijhicfoaaaGreatV Go.Proofs.YtogaiijhicfoaaaGreatG Go.Proofs.YtogaiijhicfoaaaGreatW

theorem lv_iff {p : ApiProgram} {i : Nat} : lv p i ↔ i < p.fFuns.length ∧ RP (p.fFuns.map (refersF p)) [p.fEntry] (i : Int) := by
  unfold lv liveL
  rw [reachB_at, List.length_map]
end Go.Proofs.YtogaiijhicfoaaaGreatU
