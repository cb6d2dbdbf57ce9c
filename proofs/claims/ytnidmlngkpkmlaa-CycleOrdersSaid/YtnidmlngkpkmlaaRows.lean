/-
  No cell of these rows narrows 'for every input' (looked for: loops, veiled, ifaces, maps, wideKeys, modest, calm, conditions, laid).
  DERIVED. THE GIVEN ROWS OF THIS SEAT. 10 by the template 'for every input the law returns true; each argument reads behind the call as it read before'; 0 by the template 'total and deterministic' (their statements: YtnidmlngkpkmlaaTotals.lean).
  GIVEN WITH THE SEED: the statements are not yours to turn. If you find one false, say at which input.
  Laid BY PROGRAM, IN A SANDBOX (cutbox-rows.mjs): the forced cells as the released guide's own fill.sh prints them over the translation e2a476c8e5d3da62… (all of the seat's roots in one cut). By AI agents, Wed Nov 11 2026. No macro, syntax, notation, axiom, sorry.
-/
import Derived.Test.YtnidmlngkpkmlaaChecked
import GoSem.Claim
import GoSem.ClaimJoined
import GoSem.ClaimMapViews
import Derived.JoinedTies
import Derived.KernelRfl
namespace Go.Proofs.Ytnidmlngkpkmlaa
/- THE CELL 'sum', in the pinned program and in every row, IS THE sha256 OF THE DUMP (.gsa) THAT YtnidmlngkpkmlaaProg.lean LOADS. Nothing in Lean hashes anything: it is a label: what it is worth is what the hold of that sum in a sandbox is worth. -/
noncomputable def Try.pinned : Pinned := { name := "ytnidmlngkpkmlaa", sum := "e2a476c8e5d3da62d8d5765c4722c123124218cd133b7b406dcb198f66ed9635", checked := Try.checked }
namespace Rows
def none {H : Type} : Left H := { results := [], args := [] }

/-- 'sheerleglaw23.ScopeTells': WHATEVER THE INPUT: true; the input reads as it did. -/
def scopeTellsSpec : ChangeSpec := { name := "scopeTells", fn := fun _ => fun
  | [d1, d2, d3, d4] => { results := [.lit (.bool true)], args := [d1, d2, d3, d4] }
  | _ => none }
def scopeTellsRow : OpenClaim := { program := "ytnidmlngkpkmlaa", sum := "e2a476c8e5d3da62d8d5765c4722c123124218cd133b7b406dcb198f66ed9635", func := "sheerleg/sheerleglaw23.ScopeTells", spec := "scopeTells", unfollowed := true, recurses := true, apart := false }
def ScopeTellsSaid : Prop := scopeTellsRow.holds Try.pinned (OpenSpec.ofChange scopeTellsSpec)

/-- ITS FALSE NEIGHBOUR: 'it returns false'. Refute it at one input. -/
def scopeTellsWrong : ChangeSpec := { name := "scopeTells", fn := fun _ => fun
  | [d1, d2, d3, d4] => { results := [.lit (.bool false)], args := [d1, d2, d3, d4] }
  | _ => none }
def ScopeTellsWrongFalsely : Prop := scopeTellsRow.holds Try.pinned (OpenSpec.ofChange scopeTellsWrong)

/-- 'sheerleglaw23.ScopeTurned': WHATEVER THE INPUT: true; the input reads as it did. -/
def scopeTurnedSpec : ChangeSpec := { name := "scopeTurned", fn := fun _ => fun
  | [d] => { results := [.lit (.bool true)], args := [d] }
  | _ => none }
def scopeTurnedRow : OpenClaim := { program := "ytnidmlngkpkmlaa", sum := "e2a476c8e5d3da62d8d5765c4722c123124218cd133b7b406dcb198f66ed9635", func := "sheerleg/sheerleglaw23.ScopeTurned", spec := "scopeTurned", unfollowed := true, recurses := true, apart := false }
def ScopeTurnedSaid : Prop := scopeTurnedRow.holds Try.pinned (OpenSpec.ofChange scopeTurnedSpec)

/-- ITS FALSE NEIGHBOUR: 'it returns false'. Refute it at one input. -/
def scopeTurnedWrong : ChangeSpec := { name := "scopeTurned", fn := fun _ => fun
  | [d] => { results := [.lit (.bool false)], args := [d] }
  | _ => none }
def ScopeTurnedWrongFalsely : Prop := scopeTurnedRow.holds Try.pinned (OpenSpec.ofChange scopeTurnedWrong)

/-- 'sheerleglaw23.ScopeMore': WHATEVER THE INPUT: true; the input reads as it did. -/
def scopeMoreSpec : ChangeSpec := { name := "scopeMore", fn := fun _ => fun
  | [d1, d2] => { results := [.lit (.bool true)], args := [d1, d2] }
  | _ => none }
def scopeMoreRow : OpenClaim := { program := "ytnidmlngkpkmlaa", sum := "e2a476c8e5d3da62d8d5765c4722c123124218cd133b7b406dcb198f66ed9635", func := "sheerleg/sheerleglaw23.ScopeMore", spec := "scopeMore", unfollowed := true, recurses := true, apart := false }
def ScopeMoreSaid : Prop := scopeMoreRow.holds Try.pinned (OpenSpec.ofChange scopeMoreSpec)

/-- ITS FALSE NEIGHBOUR: 'it returns false'. Refute it at one input. -/
def scopeMoreWrong : ChangeSpec := { name := "scopeMore", fn := fun _ => fun
  | [d1, d2] => { results := [.lit (.bool false)], args := [d1, d2] }
  | _ => none }
def ScopeMoreWrongFalsely : Prop := scopeMoreRow.holds Try.pinned (OpenSpec.ofChange scopeMoreWrong)

/-- 'sheerleglaw06.QueueRises': WHATEVER THE INPUT: true; the input reads as it did. -/
def queueRisesSpec : ChangeSpec := { name := "queueRises", fn := fun _ => fun
  | [d] => { results := [.lit (.bool true)], args := [d] }
  | _ => none }
def queueRisesRow : OpenClaim := { program := "ytnidmlngkpkmlaa", sum := "e2a476c8e5d3da62d8d5765c4722c123124218cd133b7b406dcb198f66ed9635", func := "sheerleg/sheerleglaw06.QueueRises", spec := "queueRises", unfollowed := true, recurses := true, apart := false }
def QueueRisesSaid : Prop := queueRisesRow.holds Try.pinned (OpenSpec.ofChange queueRisesSpec)

/-- ITS FALSE NEIGHBOUR: 'it returns false'. Refute it at one input. -/
def queueRisesWrong : ChangeSpec := { name := "queueRises", fn := fun _ => fun
  | [d] => { results := [.lit (.bool false)], args := [d] }
  | _ => none }
def QueueRisesWrongFalsely : Prop := queueRisesRow.holds Try.pinned (OpenSpec.ofChange queueRisesWrong)

/-- 'sheerleglaw06.QueuePlays': WHATEVER THE INPUT: true; the input reads as it did. -/
def queuePlaysSpec : ChangeSpec := { name := "queuePlays", fn := fun _ => fun
  | [d] => { results := [.lit (.bool true)], args := [d] }
  | _ => none }
def queuePlaysRow : OpenClaim := { program := "ytnidmlngkpkmlaa", sum := "e2a476c8e5d3da62d8d5765c4722c123124218cd133b7b406dcb198f66ed9635", func := "sheerleg/sheerleglaw06.QueuePlays", spec := "queuePlays", unfollowed := true, recurses := true, apart := false }
def QueuePlaysSaid : Prop := queuePlaysRow.holds Try.pinned (OpenSpec.ofChange queuePlaysSpec)

/-- ITS FALSE NEIGHBOUR: 'it returns false'. Refute it at one input. -/
def queuePlaysWrong : ChangeSpec := { name := "queuePlays", fn := fun _ => fun
  | [d] => { results := [.lit (.bool false)], args := [d] }
  | _ => none }
def QueuePlaysWrongFalsely : Prop := queuePlaysRow.holds Try.pinned (OpenSpec.ofChange queuePlaysWrong)

/-- 'sheerleglaw06.QueueNobody': WHATEVER THE INPUT: true; the input reads as it did. -/
def queueNobodySpec : ChangeSpec := { name := "queueNobody", fn := fun _ => fun
  | [d1, d2] => { results := [.lit (.bool true)], args := [d1, d2] }
  | _ => none }
def queueNobodyRow : OpenClaim := { program := "ytnidmlngkpkmlaa", sum := "e2a476c8e5d3da62d8d5765c4722c123124218cd133b7b406dcb198f66ed9635", func := "sheerleg/sheerleglaw06.QueueNobody", spec := "queueNobody", unfollowed := true, recurses := true, apart := false }
def QueueNobodySaid : Prop := queueNobodyRow.holds Try.pinned (OpenSpec.ofChange queueNobodySpec)

/-- ITS FALSE NEIGHBOUR: 'it returns false'. Refute it at one input. -/
def queueNobodyWrong : ChangeSpec := { name := "queueNobody", fn := fun _ => fun
  | [d1, d2] => { results := [.lit (.bool false)], args := [d1, d2] }
  | _ => none }
def QueueNobodyWrongFalsely : Prop := queueNobodyRow.holds Try.pinned (OpenSpec.ofChange queueNobodyWrong)

/-- 'sheerleglaw06.QueueDrops': WHATEVER THE INPUT: true; the input reads as it did. -/
def queueDropsSpec : ChangeSpec := { name := "queueDrops", fn := fun _ => fun
  | [d1, d2] => { results := [.lit (.bool true)], args := [d1, d2] }
  | _ => none }
def queueDropsRow : OpenClaim := { program := "ytnidmlngkpkmlaa", sum := "e2a476c8e5d3da62d8d5765c4722c123124218cd133b7b406dcb198f66ed9635", func := "sheerleg/sheerleglaw06.QueueDrops", spec := "queueDrops", unfollowed := true, recurses := true, apart := false }
def QueueDropsSaid : Prop := queueDropsRow.holds Try.pinned (OpenSpec.ofChange queueDropsSpec)

/-- ITS FALSE NEIGHBOUR: 'it returns false'. Refute it at one input. -/
def queueDropsWrong : ChangeSpec := { name := "queueDrops", fn := fun _ => fun
  | [d1, d2] => { results := [.lit (.bool false)], args := [d1, d2] }
  | _ => none }
def QueueDropsWrongFalsely : Prop := queueDropsRow.holds Try.pinned (OpenSpec.ofChange queueDropsWrong)

/-- 'sheerleglaw11.CycleTells': WHATEVER THE INPUT: true; the input reads as it did. -/
def cycleTellsSpec : ChangeSpec := { name := "cycleTells", fn := fun _ => fun
  | [d1, d2] => { results := [.lit (.bool true)], args := [d1, d2] }
  | _ => none }
def cycleTellsRow : OpenClaim := { program := "ytnidmlngkpkmlaa", sum := "e2a476c8e5d3da62d8d5765c4722c123124218cd133b7b406dcb198f66ed9635", func := "sheerleg/sheerleglaw11.CycleTells", spec := "cycleTells", unfollowed := true, recurses := true, apart := false }
def CycleTellsSaid : Prop := cycleTellsRow.holds Try.pinned (OpenSpec.ofChange cycleTellsSpec)

/-- ITS FALSE NEIGHBOUR: 'it returns false'. Refute it at one input. -/
def cycleTellsWrong : ChangeSpec := { name := "cycleTells", fn := fun _ => fun
  | [d1, d2] => { results := [.lit (.bool false)], args := [d1, d2] }
  | _ => none }
def CycleTellsWrongFalsely : Prop := cycleTellsRow.holds Try.pinned (OpenSpec.ofChange cycleTellsWrong)

/-- 'sheerleglaw11.CycleOrders': WHATEVER THE INPUT: true; the input reads as it did. -/
def cycleOrdersSpec : ChangeSpec := { name := "cycleOrders", fn := fun _ => fun
  | [d1, d2] => { results := [.lit (.bool true)], args := [d1, d2] }
  | _ => none }
def cycleOrdersRow : OpenClaim := { program := "ytnidmlngkpkmlaa", sum := "e2a476c8e5d3da62d8d5765c4722c123124218cd133b7b406dcb198f66ed9635", func := "sheerleg/sheerleglaw11.CycleOrders", spec := "cycleOrders", unfollowed := true, recurses := true, apart := false }
def CycleOrdersSaid : Prop := cycleOrdersRow.holds Try.pinned (OpenSpec.ofChange cycleOrdersSpec)

/-- ITS FALSE NEIGHBOUR: 'it returns false'. Refute it at one input. -/
def cycleOrdersWrong : ChangeSpec := { name := "cycleOrders", fn := fun _ => fun
  | [d1, d2] => { results := [.lit (.bool false)], args := [d1, d2] }
  | _ => none }
def CycleOrdersWrongFalsely : Prop := cycleOrdersRow.holds Try.pinned (OpenSpec.ofChange cycleOrdersWrong)

/-- 'sheerleglaw11.CycleLess': WHATEVER THE INPUT: true; the input reads as it did. -/
def cycleLessSpec : ChangeSpec := { name := "cycleLess", fn := fun _ => fun
  | [d1, d2, d3] => { results := [.lit (.bool true)], args := [d1, d2, d3] }
  | _ => none }
def cycleLessRow : OpenClaim := { program := "ytnidmlngkpkmlaa", sum := "e2a476c8e5d3da62d8d5765c4722c123124218cd133b7b406dcb198f66ed9635", func := "sheerleg/sheerleglaw11.CycleLess", spec := "cycleLess", unfollowed := true, recurses := true, apart := false }
def CycleLessSaid : Prop := cycleLessRow.holds Try.pinned (OpenSpec.ofChange cycleLessSpec)

/-- ITS FALSE NEIGHBOUR: 'it returns false'. Refute it at one input. -/
def cycleLessWrong : ChangeSpec := { name := "cycleLess", fn := fun _ => fun
  | [d1, d2, d3] => { results := [.lit (.bool false)], args := [d1, d2, d3] }
  | _ => none }
def CycleLessWrongFalsely : Prop := cycleLessRow.holds Try.pinned (OpenSpec.ofChange cycleLessWrong)

/- THE SECOND FORM. 'bulk': how many values and letters a reading holds, each counted each time it is reached (what is shared counts as often as it is met; a slice's spare places count too). A statement '..UptoSaid' is the law's where the arguments, and the package variables that the reading takes, are together of bulk at most 1048576: NARROWER than '..Said'. Prove '..Said' where nothing that the law and all that it calls make is longer than what came in: it says more and counts as full. Else prove '..UptoSaid'. A law counts once. -/
mutual
def uptoBulk {H : Type} : DataW H → Nat
  | .lit (.string bytes) => bytes.length + 1
  | .lit _ => 1
  | .nil => 1
  | .ptr d => uptoBulk d + 1
  | .slice elems spare => uptoBulkAll elems + uptoBulkAll spare + 1
  | .agg parts => uptoBulkAll parts + 1
  | .iface _ d => uptoBulk d + 1
  | .map entries => uptoBulkEntries entries + 1
  | .held _ => 1
def uptoBulkAll {H : Type} : List (DataW H) → Nat
  | [] => 0
  | d :: r => uptoBulk d + uptoBulkAll r
def uptoBulkEntries {H : Type} : List (Lit × DataW H) → Nat
  | [] => 0
  | x :: r => uptoBulkEntry x + uptoBulkEntries r
def uptoBulkEntry {H : Type} : Lit × DataW H → Nat
  | (.string bytes, d) => bytes.length + uptoBulk d + 1
  | (_, d) => uptoBulk d + 1
 end
def uptoSmall : (H : Type) → List (DataW H) → Bool := fun _ ds => decide (uptoBulkAll ds ≤ 1048576)
def OpenSpec.upto (s : _root_.Go.ChangeSpec) : _root_.Go.OpenSpec := { _root_.Go.OpenSpec.ofChange s with cond := some uptoSmall }

/-- 'sheerleglaw23.ScopeTells', WHERE WHAT IT READS IS OF BULK AT MOST 1048576: true; the input reads as it did. -/
def scopeTellsUptoRow : OpenClaim := { program := "ytnidmlngkpkmlaa", sum := "e2a476c8e5d3da62d8d5765c4722c123124218cd133b7b406dcb198f66ed9635", func := "sheerleg/sheerleglaw23.ScopeTells", spec := "scopeTells", unfollowed := true, recurses := true, apart := false, narrowed := true }
def ScopeTellsUptoSaid : Prop := scopeTellsUptoRow.holds Try.pinned (OpenSpec.upto scopeTellsSpec)

/-- 'sheerleglaw23.ScopeTurned', WHERE WHAT IT READS IS OF BULK AT MOST 1048576: true; the input reads as it did. -/
def scopeTurnedUptoRow : OpenClaim := { program := "ytnidmlngkpkmlaa", sum := "e2a476c8e5d3da62d8d5765c4722c123124218cd133b7b406dcb198f66ed9635", func := "sheerleg/sheerleglaw23.ScopeTurned", spec := "scopeTurned", unfollowed := true, recurses := true, apart := false, narrowed := true }
def ScopeTurnedUptoSaid : Prop := scopeTurnedUptoRow.holds Try.pinned (OpenSpec.upto scopeTurnedSpec)

/-- 'sheerleglaw23.ScopeMore', WHERE WHAT IT READS IS OF BULK AT MOST 1048576: true; the input reads as it did. -/
def scopeMoreUptoRow : OpenClaim := { program := "ytnidmlngkpkmlaa", sum := "e2a476c8e5d3da62d8d5765c4722c123124218cd133b7b406dcb198f66ed9635", func := "sheerleg/sheerleglaw23.ScopeMore", spec := "scopeMore", unfollowed := true, recurses := true, apart := false, narrowed := true }
def ScopeMoreUptoSaid : Prop := scopeMoreUptoRow.holds Try.pinned (OpenSpec.upto scopeMoreSpec)

/-- 'sheerleglaw06.QueueRises', WHERE WHAT IT READS IS OF BULK AT MOST 1048576: true; the input reads as it did. -/
def queueRisesUptoRow : OpenClaim := { program := "ytnidmlngkpkmlaa", sum := "e2a476c8e5d3da62d8d5765c4722c123124218cd133b7b406dcb198f66ed9635", func := "sheerleg/sheerleglaw06.QueueRises", spec := "queueRises", unfollowed := true, recurses := true, apart := false, narrowed := true }
def QueueRisesUptoSaid : Prop := queueRisesUptoRow.holds Try.pinned (OpenSpec.upto queueRisesSpec)

/-- 'sheerleglaw06.QueuePlays', WHERE WHAT IT READS IS OF BULK AT MOST 1048576: true; the input reads as it did. -/
def queuePlaysUptoRow : OpenClaim := { program := "ytnidmlngkpkmlaa", sum := "e2a476c8e5d3da62d8d5765c4722c123124218cd133b7b406dcb198f66ed9635", func := "sheerleg/sheerleglaw06.QueuePlays", spec := "queuePlays", unfollowed := true, recurses := true, apart := false, narrowed := true }
def QueuePlaysUptoSaid : Prop := queuePlaysUptoRow.holds Try.pinned (OpenSpec.upto queuePlaysSpec)

/-- 'sheerleglaw06.QueueNobody', WHERE WHAT IT READS IS OF BULK AT MOST 1048576: true; the input reads as it did. -/
def queueNobodyUptoRow : OpenClaim := { program := "ytnidmlngkpkmlaa", sum := "e2a476c8e5d3da62d8d5765c4722c123124218cd133b7b406dcb198f66ed9635", func := "sheerleg/sheerleglaw06.QueueNobody", spec := "queueNobody", unfollowed := true, recurses := true, apart := false, narrowed := true }
def QueueNobodyUptoSaid : Prop := queueNobodyUptoRow.holds Try.pinned (OpenSpec.upto queueNobodySpec)

/-- 'sheerleglaw06.QueueDrops', WHERE WHAT IT READS IS OF BULK AT MOST 1048576: true; the input reads as it did. -/
def queueDropsUptoRow : OpenClaim := { program := "ytnidmlngkpkmlaa", sum := "e2a476c8e5d3da62d8d5765c4722c123124218cd133b7b406dcb198f66ed9635", func := "sheerleg/sheerleglaw06.QueueDrops", spec := "queueDrops", unfollowed := true, recurses := true, apart := false, narrowed := true }
def QueueDropsUptoSaid : Prop := queueDropsUptoRow.holds Try.pinned (OpenSpec.upto queueDropsSpec)

/-- 'sheerleglaw11.CycleTells', WHERE WHAT IT READS IS OF BULK AT MOST 1048576: true; the input reads as it did. -/
def cycleTellsUptoRow : OpenClaim := { program := "ytnidmlngkpkmlaa", sum := "e2a476c8e5d3da62d8d5765c4722c123124218cd133b7b406dcb198f66ed9635", func := "sheerleg/sheerleglaw11.CycleTells", spec := "cycleTells", unfollowed := true, recurses := true, apart := false, narrowed := true }
def CycleTellsUptoSaid : Prop := cycleTellsUptoRow.holds Try.pinned (OpenSpec.upto cycleTellsSpec)

/-- 'sheerleglaw11.CycleOrders', WHERE WHAT IT READS IS OF BULK AT MOST 1048576: true; the input reads as it did. -/
def cycleOrdersUptoRow : OpenClaim := { program := "ytnidmlngkpkmlaa", sum := "e2a476c8e5d3da62d8d5765c4722c123124218cd133b7b406dcb198f66ed9635", func := "sheerleg/sheerleglaw11.CycleOrders", spec := "cycleOrders", unfollowed := true, recurses := true, apart := false, narrowed := true }
def CycleOrdersUptoSaid : Prop := cycleOrdersUptoRow.holds Try.pinned (OpenSpec.upto cycleOrdersSpec)

/-- 'sheerleglaw11.CycleLess', WHERE WHAT IT READS IS OF BULK AT MOST 1048576: true; the input reads as it did. -/
def cycleLessUptoRow : OpenClaim := { program := "ytnidmlngkpkmlaa", sum := "e2a476c8e5d3da62d8d5765c4722c123124218cd133b7b406dcb198f66ed9635", func := "sheerleg/sheerleglaw11.CycleLess", spec := "cycleLess", unfollowed := true, recurses := true, apart := false, narrowed := true }
def CycleLessUptoSaid : Prop := cycleLessUptoRow.holds Try.pinned (OpenSpec.upto cycleLessSpec)

end Rows
end Go.Proofs.Ytnidmlngkpkmlaa
