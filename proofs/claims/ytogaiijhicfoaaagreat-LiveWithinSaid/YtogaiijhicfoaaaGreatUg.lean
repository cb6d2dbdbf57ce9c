import Derived.Test.YtogaiijhicfoaaaGreatUf

/-
  The statement that calls are as the document says.
-/
namespace Go.Proofs.YtogaiijhicfoaaaGreatU
set_option linter.unusedVariables false
set_option linter.unusedSimpArgs false
open Go.RowKit Go.Proofs.YtogaiijhicfoaaaGreatK Go.Proofs.YtogaiijhicfoaaaGreatT Go.Proofs.YtogaiijhicfoaaaGreatL Go.Proofs.YtogaiijhicfoaaaGreatV Go.Proofs.YtogaiijhicfoaaaGreatG Go.Proofs.YtogaiijhicfoaaaGreatW

abbrev mainS : ByteArray := ⟨#[109, 97, 105, 110]⟩
end Go.Proofs.YtogaiijhicfoaaaGreatU
