/-
  DERIVED. GIVEN WITH THE SEED: THE CARDS: each row of YtcacohoanlljhaaDoorRows.lean that lists a variable, with what it lists TIED to the program's text (the seventh form; the later family's looks); each row that meets fmt, with fmt's text TOLD by the authors' own Lean function (tested against real Go, not proved from fmt's source: count such statements apart). THE CARD IS WHAT COUNTS. Prove the row's statement (the work); the ties are given (YtcacohoanlljhaaDoorTie.lean); close each card by the builder's one call (the guide's Derived/Test/ToyasCard.lean, 'card_holds'). Laid BY PROGRAM, IN A SANDBOX (cutbox-door.mjs). By AI agents, Wed Nov 11 2026. No macro, syntax, notation, axiom, sorry.
-/
import Derived.Test.YtcacohoanlljhaaDoorRows
import GoSem.ClaimSeven
namespace Go.Proofs.YtcacohoanlljhaaDoor
namespace Rows

/-- THE TIED CARD OF 'sheerleglaw04.NameTells'. -/
def nameTellsCard : Claim7 := { stood := { row := nameTellsRow, standIns := [], harness := (true, "bb13fc13b1a53627a8c72b45a9283c0274e637022361040ed8b43eb3f0fb5715"), looks := false }, kinds := [], alts := [], laidByText := true, laidKinds := [.data, .data, .data], laidTests := true, laidLooks := .later }
def NameTellsCardSaid : Prop := Claim7.holds Tryd.pinned (.plain (OpenSpec.ofChange nameTellsSpec)) nameTellsCard

/-- THE TIED CARD OF 'sheerleglaw04.NameSorts'. -/
def nameSortsCard : Claim7 := { stood := { row := nameSortsRow, standIns := [], harness := (true, "bb13fc13b1a53627a8c72b45a9283c0274e637022361040ed8b43eb3f0fb5715"), looks := false }, kinds := [], alts := [], laidByText := true, laidKinds := [.data, .data, .data], laidTests := true, laidLooks := .later }
def NameSortsCardSaid : Prop := Claim7.holds Tryd.pinned (.plain (OpenSpec.ofChange nameSortsSpec)) nameSortsCard

/-- THE TIED CARD OF 'sheerleglaw04.NameJoins'. -/
def nameJoinsCard : Claim7 := { stood := { row := nameJoinsRow, standIns := [], harness := (true, "bb13fc13b1a53627a8c72b45a9283c0274e637022361040ed8b43eb3f0fb5715"), looks := false }, kinds := [], alts := [], laidByText := true, laidKinds := [.data, .data, .data], laidTests := true, laidLooks := .later }
def NameJoinsCardSaid : Prop := Claim7.holds Tryd.pinned (.plain (OpenSpec.ofChange nameJoinsSpec)) nameJoinsCard

/-- THE SECOND FORM's CARD OF 'sheerleglaw04.NameTells'. -/
def nameTellsUptoCard : Claim7 := { stood := { row := nameTellsUptoRow, standIns := [], harness := (true, "bb13fc13b1a53627a8c72b45a9283c0274e637022361040ed8b43eb3f0fb5715"), looks := false }, kinds := [], alts := [], laidByText := true, laidKinds := [.data, .data, .data], laidTests := true, laidLooks := .later }
def NameTellsUptoCardSaid : Prop := Claim7.holds Tryd.pinned (.plain (OpenSpec.upto nameTellsSpec)) nameTellsUptoCard

/-- THE SECOND FORM's CARD OF 'sheerleglaw04.NameSorts'. -/
def nameSortsUptoCard : Claim7 := { stood := { row := nameSortsUptoRow, standIns := [], harness := (true, "bb13fc13b1a53627a8c72b45a9283c0274e637022361040ed8b43eb3f0fb5715"), looks := false }, kinds := [], alts := [], laidByText := true, laidKinds := [.data, .data, .data], laidTests := true, laidLooks := .later }
def NameSortsUptoCardSaid : Prop := Claim7.holds Tryd.pinned (.plain (OpenSpec.upto nameSortsSpec)) nameSortsUptoCard

/-- THE SECOND FORM's CARD OF 'sheerleglaw04.NameJoins'. -/
def nameJoinsUptoCard : Claim7 := { stood := { row := nameJoinsUptoRow, standIns := [], harness := (true, "bb13fc13b1a53627a8c72b45a9283c0274e637022361040ed8b43eb3f0fb5715"), looks := false }, kinds := [], alts := [], laidByText := true, laidKinds := [.data, .data, .data], laidTests := true, laidLooks := .later }
def NameJoinsUptoCardSaid : Prop := Claim7.holds Tryd.pinned (.plain (OpenSpec.upto nameJoinsSpec)) nameJoinsUptoCard
end Rows
end Go.Proofs.YtcacohoanlljhaaDoor
