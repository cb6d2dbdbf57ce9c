/-
  No cell of these rows narrows 'for every input' (looked for: loops, veiled, ifaces, maps, wideKeys, modest, calm, conditions, laid).
  DERIVED. THE GIVEN ROWS OF THIS SEAT. 4 by the template 'for every input the law returns true; each argument reads behind the call as it read before'; 0 by the template 'total and deterministic' (their statements: YtcacohoanlljhaaGreatTotals.lean).
  GIVEN WITH THE SEED: the statements are not yours to turn. If you find one false, say at which input.
  Laid BY PROGRAM, IN A SANDBOX (cutbox-rows.mjs): the forced cells as the released guide's own fill.sh prints them over the translation bc55d60f202257dc… (all of the seat's roots in one cut). By AI agents, Wed Nov 11 2026. No macro, syntax, notation, axiom, sorry.
-/
import Derived.Test.YtcacohoanlljhaaGreatChecked
import GoSem.Claim
import GoSem.ClaimJoined
import GoSem.ClaimMapViews
import Derived.JoinedTies
import Derived.KernelRfl
namespace Go.Proofs.YtcacohoanlljhaaGreat
/- THE CELL 'sum', in the pinned program and in every row, IS THE sha256 OF THE DUMP (.gsa) THAT YtcacohoanlljhaaGreatProg.lean LOADS. Nothing in Lean hashes anything: it is a label: what it is worth is what the hold of that sum in a sandbox is worth. -/
noncomputable def Tryz.pinned : Pinned := { name := "ytcacohoanlljhaagreat", sum := "bc55d60f202257dcba1217fc0780b253a10d63d1ad3c7b95e994547d0f64b5f0", checked := Tryz.checked }
namespace Rows
def none {H : Type} : Left H := { results := [], args := [] }

/-- 'sheerleglaw26.LiveTells': WHATEVER THE INPUT: true; the input reads as it did. -/
def liveTellsSpec : ChangeSpec := { name := "liveTells", fn := fun _ => fun
  | [d1, d2, d3, d4] => { results := [.lit (.bool true)], args := [d1, d2, d3, d4] }
  | _ => none }
def liveTellsRow : OpenClaim := { program := "ytcacohoanlljhaagreat", sum := "bc55d60f202257dcba1217fc0780b253a10d63d1ad3c7b95e994547d0f64b5f0", func := "sheerleg/sheerleglaw26.LiveTells", spec := "liveTells", unfollowed := true, recurses := true, apart := false }
def LiveTellsSaid : Prop := liveTellsRow.holds Tryz.pinned (OpenSpec.ofChange liveTellsSpec)

/-- ITS FALSE NEIGHBOUR: 'it returns false'. Refute it at one input. -/
def liveTellsWrong : ChangeSpec := { name := "liveTells", fn := fun _ => fun
  | [d1, d2, d3, d4] => { results := [.lit (.bool false)], args := [d1, d2, d3, d4] }
  | _ => none }
def LiveTellsWrongFalsely : Prop := liveTellsRow.holds Tryz.pinned (OpenSpec.ofChange liveTellsWrong)

/-- 'sheerleglaw26.LiveWithin': WHATEVER THE INPUT: true; the input reads as it did. -/
def liveWithinSpec : ChangeSpec := { name := "liveWithin", fn := fun _ => fun
  | [d] => { results := [.lit (.bool true)], args := [d] }
  | _ => none }
def liveWithinRow : OpenClaim := { program := "ytcacohoanlljhaagreat", sum := "bc55d60f202257dcba1217fc0780b253a10d63d1ad3c7b95e994547d0f64b5f0", func := "sheerleg/sheerleglaw26.LiveWithin", spec := "liveWithin", unfollowed := true, recurses := true, apart := false }
def LiveWithinSaid : Prop := liveWithinRow.holds Tryz.pinned (OpenSpec.ofChange liveWithinSpec)

/-- ITS FALSE NEIGHBOUR: 'it returns false'. Refute it at one input. -/
def liveWithinWrong : ChangeSpec := { name := "liveWithin", fn := fun _ => fun
  | [d] => { results := [.lit (.bool false)], args := [d] }
  | _ => none }
def LiveWithinWrongFalsely : Prop := liveWithinRow.holds Tryz.pinned (OpenSpec.ofChange liveWithinWrong)

/-- 'sheerleglaw26.LiveLess': WHATEVER THE INPUT: true; the input reads as it did. -/
def liveLessSpec : ChangeSpec := { name := "liveLess", fn := fun _ => fun
  | [d1, d2] => { results := [.lit (.bool true)], args := [d1, d2] }
  | _ => none }
def liveLessRow : OpenClaim := { program := "ytcacohoanlljhaagreat", sum := "bc55d60f202257dcba1217fc0780b253a10d63d1ad3c7b95e994547d0f64b5f0", func := "sheerleg/sheerleglaw26.LiveLess", spec := "liveLess", unfollowed := true, recurses := true, apart := false }
def LiveLessSaid : Prop := liveLessRow.holds Tryz.pinned (OpenSpec.ofChange liveLessSpec)

/-- ITS FALSE NEIGHBOUR: 'it returns false'. Refute it at one input. -/
def liveLessWrong : ChangeSpec := { name := "liveLess", fn := fun _ => fun
  | [d1, d2] => { results := [.lit (.bool false)], args := [d1, d2] }
  | _ => none }
def LiveLessWrongFalsely : Prop := liveLessRow.holds Tryz.pinned (OpenSpec.ofChange liveLessWrong)

/-- 'sheerleglaw17.VerifyTells': WHATEVER THE INPUT: true; the input reads as it did. -/
def verifyTellsSpec : ChangeSpec := { name := "verifyTells", fn := fun _ => fun
  | [d1, d2, d3] => { results := [.lit (.bool true)], args := [d1, d2, d3] }
  | _ => none }
def verifyTellsRow : OpenClaim := { program := "ytcacohoanlljhaagreat", sum := "bc55d60f202257dcba1217fc0780b253a10d63d1ad3c7b95e994547d0f64b5f0", func := "sheerleg/sheerleglaw17.VerifyTells", spec := "verifyTells", unfollowed := true, recurses := true, apart := false }
def VerifyTellsSaid : Prop := verifyTellsRow.holds Tryz.pinned (OpenSpec.ofChange verifyTellsSpec)

/-- ITS FALSE NEIGHBOUR: 'it returns false'. Refute it at one input. -/
def verifyTellsWrong : ChangeSpec := { name := "verifyTells", fn := fun _ => fun
  | [d1, d2, d3] => { results := [.lit (.bool false)], args := [d1, d2, d3] }
  | _ => none }
def VerifyTellsWrongFalsely : Prop := verifyTellsRow.holds Tryz.pinned (OpenSpec.ofChange verifyTellsWrong)

/- THE SECOND FORM. 'bulk': how many values and letters a reading holds, each counted each time it is reached (what is shared counts as often as it is met; a slice's spare places count too). A statement '..UptoSaid' is the law's where the arguments, and the package variables that the reading takes, are together of bulk at most 1048576: NARROWER than '..Said'. Prove '..Said' where nothing that the law and all that it calls make is longer than what came in: it says more and counts as full. Else prove '..UptoSaid'. A law counts once. -/
mutual
def uptoBulk {H : Type} : DataW H → Nat
  | .lit (.string bytes) => bytes.length + 1
  | .lit _ => 1
  | .nil => 1
  | .ptr d => uptoBulk d + 1
  | .slice elems spare => uptoBulkAll elems + uptoBulkAll spare + 1
  | .agg parts => uptoBulkAll parts + 1
  | .iface _ d => uptoBulk d + 1
  | .map entries => uptoBulkEntries entries + 1
  | .held _ => 1
def uptoBulkAll {H : Type} : List (DataW H) → Nat
  | [] => 0
  | d :: r => uptoBulk d + uptoBulkAll r
def uptoBulkEntries {H : Type} : List (Lit × DataW H) → Nat
  | [] => 0
  | x :: r => uptoBulkEntry x + uptoBulkEntries r
def uptoBulkEntry {H : Type} : Lit × DataW H → Nat
  | (.string bytes, d) => bytes.length + uptoBulk d + 1
  | (_, d) => uptoBulk d + 1
 end
def uptoSmall : (H : Type) → List (DataW H) → Bool := fun _ ds => decide (uptoBulkAll ds ≤ 1048576)
def OpenSpec.upto (s : _root_.Go.ChangeSpec) : _root_.Go.OpenSpec := { _root_.Go.OpenSpec.ofChange s with cond := some uptoSmall }

/-- 'sheerleglaw26.LiveTells', WHERE WHAT IT READS IS OF BULK AT MOST 1048576: true; the input reads as it did. -/
def liveTellsUptoRow : OpenClaim := { program := "ytcacohoanlljhaagreat", sum := "bc55d60f202257dcba1217fc0780b253a10d63d1ad3c7b95e994547d0f64b5f0", func := "sheerleg/sheerleglaw26.LiveTells", spec := "liveTells", unfollowed := true, recurses := true, apart := false, narrowed := true }
def LiveTellsUptoSaid : Prop := liveTellsUptoRow.holds Tryz.pinned (OpenSpec.upto liveTellsSpec)

/-- 'sheerleglaw26.LiveWithin', WHERE WHAT IT READS IS OF BULK AT MOST 1048576: true; the input reads as it did. -/
def liveWithinUptoRow : OpenClaim := { program := "ytcacohoanlljhaagreat", sum := "bc55d60f202257dcba1217fc0780b253a10d63d1ad3c7b95e994547d0f64b5f0", func := "sheerleg/sheerleglaw26.LiveWithin", spec := "liveWithin", unfollowed := true, recurses := true, apart := false, narrowed := true }
def LiveWithinUptoSaid : Prop := liveWithinUptoRow.holds Tryz.pinned (OpenSpec.upto liveWithinSpec)

/-- 'sheerleglaw26.LiveLess', WHERE WHAT IT READS IS OF BULK AT MOST 1048576: true; the input reads as it did. -/
def liveLessUptoRow : OpenClaim := { program := "ytcacohoanlljhaagreat", sum := "bc55d60f202257dcba1217fc0780b253a10d63d1ad3c7b95e994547d0f64b5f0", func := "sheerleg/sheerleglaw26.LiveLess", spec := "liveLess", unfollowed := true, recurses := true, apart := false, narrowed := true }
def LiveLessUptoSaid : Prop := liveLessUptoRow.holds Tryz.pinned (OpenSpec.upto liveLessSpec)

/-- 'sheerleglaw17.VerifyTells', WHERE WHAT IT READS IS OF BULK AT MOST 1048576: true; the input reads as it did. -/
def verifyTellsUptoRow : OpenClaim := { program := "ytcacohoanlljhaagreat", sum := "bc55d60f202257dcba1217fc0780b253a10d63d1ad3c7b95e994547d0f64b5f0", func := "sheerleg/sheerleglaw17.VerifyTells", spec := "verifyTells", unfollowed := true, recurses := true, apart := false, narrowed := true }
def VerifyTellsUptoSaid : Prop := verifyTellsUptoRow.holds Tryz.pinned (OpenSpec.upto verifyTellsSpec)

end Rows
end Go.Proofs.YtcacohoanlljhaaGreat
