/-
  DERIVED. GIVEN WITH THE SEED: THE CARDS: each row of YtpmdhkjbhjgoaaaGreatDoorRows.lean that lists a variable, with what it lists TIED to the program's text (the seventh form; the later family's looks); each row that meets fmt, with fmt's text TOLD by the authors' own Lean function (tested against real Go, not proved from fmt's source: count such statements apart). THE CARD IS WHAT COUNTS. Prove the row's statement (the work); the ties are given (YtpmdhkjbhjgoaaaGreatDoorTie.lean); close each card by the builder's one call (the guide's Derived/Test/ToyasCard.lean, 'card_holds'). Laid BY PROGRAM, IN A SANDBOX (cutbox-door.mjs). By AI agents, Wed Nov 11 2026. No macro, syntax, notation, axiom, sorry.
-/
import Derived.Test.YtpmdhkjbhjgoaaaGreatDoorRows
import GoSem.ClaimSeven
namespace Go.Proofs.YtpmdhkjbhjgoaaaGreatDoor
namespace Rows

/-- THE TIED CARD OF 'sheerleglaw09.LineInstrs'. -/
def lineInstrsCard : Claim7 := { stood := { row := lineInstrsRow, standIns := [], harness := (true, "8a66c6ce9c5950b52c268b51cd53e4767620f1f0eb8d3e012af42ef88a6acffb"), looks := true }, kinds := [], alts := [], laidByText := true, laidKinds := [.data, .data, .data, .data, .sentinel, .sentinel, .pinned], laidTests := true, laidLooks := .later }
def LineInstrsCardSaid : Prop := Claim7.holds Tryz.pinned (.plain (OpenSpec.ofChange lineInstrsSpec)) lineInstrsCard

/-- THE TIED CARD OF 'sheerleglaw45.ListingTells'. -/
def listingTellsCard : Claim7 := { stood := { row := listingTellsRow, standIns := [], harness := (true, "8a66c6ce9c5950b52c268b51cd53e4767620f1f0eb8d3e012af42ef88a6acffb"), looks := true }, kinds := [], alts := [], laidByText := true, laidKinds := [.data, .data, .data, .data, .sentinel, .sentinel, .pinned], laidTests := true, laidLooks := .later }
def ListingTellsCardSaid : Prop := Claim7.holds Tryz.pinned (.plain (OpenSpec.ofChange listingTellsSpec)) listingTellsCard

/-- THE TIED CARD OF 'sheerleglaw22.ShowTells'. -/
def showTellsCard : Claim7 := { stood := { row := showTellsRow, standIns := [], harness := (true, "8a66c6ce9c5950b52c268b51cd53e4767620f1f0eb8d3e012af42ef88a6acffb"), looks := true }, kinds := [], alts := [], laidByText := true, laidKinds := [.data, .data, .data, .data, .pinned], laidTests := true, laidLooks := .later }
def ShowTellsCardSaid : Prop := Claim7.holds Tryz.pinned (.plain (OpenSpec.ofChange showTellsSpec)) showTellsCard

/-- THE SECOND FORM's CARD OF 'sheerleglaw09.LineInstrs'. -/
def lineInstrsUptoCard : Claim7 := { stood := { row := lineInstrsUptoRow, standIns := [], harness := (true, "8a66c6ce9c5950b52c268b51cd53e4767620f1f0eb8d3e012af42ef88a6acffb"), looks := true }, kinds := [], alts := [], laidByText := true, laidKinds := [.data, .data, .data, .data, .sentinel, .sentinel, .pinned], laidTests := true, laidLooks := .later }
def LineInstrsUptoCardSaid : Prop := Claim7.holds Tryz.pinned (.plain (OpenSpec.upto lineInstrsSpec)) lineInstrsUptoCard

/-- THE SECOND FORM's CARD OF 'sheerleglaw45.ListingTells'. -/
def listingTellsUptoCard : Claim7 := { stood := { row := listingTellsUptoRow, standIns := [], harness := (true, "8a66c6ce9c5950b52c268b51cd53e4767620f1f0eb8d3e012af42ef88a6acffb"), looks := true }, kinds := [], alts := [], laidByText := true, laidKinds := [.data, .data, .data, .data, .sentinel, .sentinel, .pinned], laidTests := true, laidLooks := .later }
def ListingTellsUptoCardSaid : Prop := Claim7.holds Tryz.pinned (.plain (OpenSpec.upto listingTellsSpec)) listingTellsUptoCard

/-- THE SECOND FORM's CARD OF 'sheerleglaw22.ShowTells'. -/
def showTellsUptoCard : Claim7 := { stood := { row := showTellsUptoRow, standIns := [], harness := (true, "8a66c6ce9c5950b52c268b51cd53e4767620f1f0eb8d3e012af42ef88a6acffb"), looks := true }, kinds := [], alts := [], laidByText := true, laidKinds := [.data, .data, .data, .data, .pinned], laidTests := true, laidLooks := .later }
def ShowTellsUptoCardSaid : Prop := Claim7.holds Tryz.pinned (.plain (OpenSpec.upto showTellsSpec)) showTellsUptoCard
end Rows
end Go.Proofs.YtpmdhkjbhjgoaaaGreatDoor
