/-
  No cell of these rows narrows 'for every input' (looked for: loops, veiled, ifaces, maps, wideKeys, modest, calm, conditions, laid).
  DERIVED. THE GIVEN ROWS OF THIS SEAT. 12 by the template 'for every input the law returns true; each argument reads behind the call as it read before'; 0 by the template 'total and deterministic' (their statements: YtogaiijhicfoaaaGreatTotals.lean).
  GIVEN WITH THE SEED: the statements are not yours to turn. If you find one false, say at which input.
  Laid BY PROGRAM, IN A SANDBOX (cutbox-rows.mjs): the forced cells as the released guide's own fill.sh prints them over the translation 01b4bdb057c8a669… (all of the seat's roots in one cut). By AI agents, Wed Nov 11 2026. No macro, syntax, notation, axiom, sorry.
-/
import Derived.Test.YtogaiijhicfoaaaGreatChecked
import GoSem.Claim
import GoSem.ClaimJoined
import GoSem.ClaimMapViews
import Derived.JoinedTies
import Derived.KernelRfl
namespace Go.Proofs.YtogaiijhicfoaaaGreat
/- THE CELL 'sum', in the pinned program and in every row, IS THE sha256 OF THE DUMP (.gsa) THAT YtogaiijhicfoaaaGreatProg.lean LOADS. Nothing in Lean hashes anything: it is a label: what it is worth is what the hold of that sum in a sandbox is worth. -/
noncomputable def Tryz.pinned : Pinned := { name := "ytogaiijhicfoaaagreat", sum := "01b4bdb057c8a669a3b510d447669054027e7b983ba1e8d68a8a81756c93331e", checked := Tryz.checked }
namespace Rows
def none {H : Type} : Left H := { results := [], args := [] }

/-- 'sheerleglaw25.CallsTell': WHATEVER THE INPUT: true; the input reads as it did. -/
def callsTellSpec : ChangeSpec := { name := "callsTell", fn := fun _ => fun
  | [d1, d2, d3, d4] => { results := [.lit (.bool true)], args := [d1, d2, d3, d4] }
  | _ => none }
def callsTellRow : OpenClaim := { program := "ytogaiijhicfoaaagreat", sum := "01b4bdb057c8a669a3b510d447669054027e7b983ba1e8d68a8a81756c93331e", func := "sheerleg/sheerleglaw25.CallsTell", spec := "callsTell", unfollowed := true, recurses := true, apart := false }
def CallsTellSaid : Prop := callsTellRow.holds Tryz.pinned (OpenSpec.ofChange callsTellSpec)

/-- ITS FALSE NEIGHBOUR: 'it returns false'. Refute it at one input. -/
def callsTellWrong : ChangeSpec := { name := "callsTell", fn := fun _ => fun
  | [d1, d2, d3, d4] => { results := [.lit (.bool false)], args := [d1, d2, d3, d4] }
  | _ => none }
def CallsTellWrongFalsely : Prop := callsTellRow.holds Tryz.pinned (OpenSpec.ofChange callsTellWrong)

/-- 'sheerleglaw25.CallsTurned': WHATEVER THE INPUT: true; the input reads as it did. -/
def callsTurnedSpec : ChangeSpec := { name := "callsTurned", fn := fun _ => fun
  | [d] => { results := [.lit (.bool true)], args := [d] }
  | _ => none }
def callsTurnedRow : OpenClaim := { program := "ytogaiijhicfoaaagreat", sum := "01b4bdb057c8a669a3b510d447669054027e7b983ba1e8d68a8a81756c93331e", func := "sheerleg/sheerleglaw25.CallsTurned", spec := "callsTurned", unfollowed := true, recurses := true, apart := false }
def CallsTurnedSaid : Prop := callsTurnedRow.holds Tryz.pinned (OpenSpec.ofChange callsTurnedSpec)

/-- ITS FALSE NEIGHBOUR: 'it returns false'. Refute it at one input. -/
def callsTurnedWrong : ChangeSpec := { name := "callsTurned", fn := fun _ => fun
  | [d] => { results := [.lit (.bool false)], args := [d] }
  | _ => none }
def CallsTurnedWrongFalsely : Prop := callsTurnedRow.holds Tryz.pinned (OpenSpec.ofChange callsTurnedWrong)

/-- 'sheerleglaw26.LiveTells': WHATEVER THE INPUT: true; the input reads as it did. -/
def liveTellsSpec : ChangeSpec := { name := "liveTells", fn := fun _ => fun
  | [d1, d2, d3, d4] => { results := [.lit (.bool true)], args := [d1, d2, d3, d4] }
  | _ => none }
def liveTellsRow : OpenClaim := { program := "ytogaiijhicfoaaagreat", sum := "01b4bdb057c8a669a3b510d447669054027e7b983ba1e8d68a8a81756c93331e", func := "sheerleg/sheerleglaw26.LiveTells", spec := "liveTells", unfollowed := true, recurses := true, apart := false }
def LiveTellsSaid : Prop := liveTellsRow.holds Tryz.pinned (OpenSpec.ofChange liveTellsSpec)

/-- ITS FALSE NEIGHBOUR: 'it returns false'. Refute it at one input. -/
def liveTellsWrong : ChangeSpec := { name := "liveTells", fn := fun _ => fun
  | [d1, d2, d3, d4] => { results := [.lit (.bool false)], args := [d1, d2, d3, d4] }
  | _ => none }
def LiveTellsWrongFalsely : Prop := liveTellsRow.holds Tryz.pinned (OpenSpec.ofChange liveTellsWrong)

/-- 'sheerleglaw26.LiveWithin': WHATEVER THE INPUT: true; the input reads as it did. -/
def liveWithinSpec : ChangeSpec := { name := "liveWithin", fn := fun _ => fun
  | [d] => { results := [.lit (.bool true)], args := [d] }
  | _ => none }
def liveWithinRow : OpenClaim := { program := "ytogaiijhicfoaaagreat", sum := "01b4bdb057c8a669a3b510d447669054027e7b983ba1e8d68a8a81756c93331e", func := "sheerleg/sheerleglaw26.LiveWithin", spec := "liveWithin", unfollowed := true, recurses := true, apart := false }
def LiveWithinSaid : Prop := liveWithinRow.holds Tryz.pinned (OpenSpec.ofChange liveWithinSpec)

/-- ITS FALSE NEIGHBOUR: 'it returns false'. Refute it at one input. -/
def liveWithinWrong : ChangeSpec := { name := "liveWithin", fn := fun _ => fun
  | [d] => { results := [.lit (.bool false)], args := [d] }
  | _ => none }
def LiveWithinWrongFalsely : Prop := liveWithinRow.holds Tryz.pinned (OpenSpec.ofChange liveWithinWrong)

/-- 'sheerleglaw26.LiveLess': WHATEVER THE INPUT: true; the input reads as it did. -/
def liveLessSpec : ChangeSpec := { name := "liveLess", fn := fun _ => fun
  | [d1, d2] => { results := [.lit (.bool true)], args := [d1, d2] }
  | _ => none }
def liveLessRow : OpenClaim := { program := "ytogaiijhicfoaaagreat", sum := "01b4bdb057c8a669a3b510d447669054027e7b983ba1e8d68a8a81756c93331e", func := "sheerleg/sheerleglaw26.LiveLess", spec := "liveLess", unfollowed := true, recurses := true, apart := false }
def LiveLessSaid : Prop := liveLessRow.holds Tryz.pinned (OpenSpec.ofChange liveLessSpec)

/-- ITS FALSE NEIGHBOUR: 'it returns false'. Refute it at one input. -/
def liveLessWrong : ChangeSpec := { name := "liveLess", fn := fun _ => fun
  | [d1, d2] => { results := [.lit (.bool false)], args := [d1, d2] }
  | _ => none }
def LiveLessWrongFalsely : Prop := liveLessRow.holds Tryz.pinned (OpenSpec.ofChange liveLessWrong)

/-- 'sheerleglaw27.ChainTells': WHATEVER THE INPUT: true; the input reads as it did. -/
def chainTellsSpec : ChangeSpec := { name := "chainTells", fn := fun _ => fun
  | [d1, d2, d3, d4] => { results := [.lit (.bool true)], args := [d1, d2, d3, d4] }
  | _ => none }
def chainTellsRow : OpenClaim := { program := "ytogaiijhicfoaaagreat", sum := "01b4bdb057c8a669a3b510d447669054027e7b983ba1e8d68a8a81756c93331e", func := "sheerleg/sheerleglaw27.ChainTells", spec := "chainTells", unfollowed := true, recurses := true, apart := false }
def ChainTellsSaid : Prop := chainTellsRow.holds Tryz.pinned (OpenSpec.ofChange chainTellsSpec)

/-- ITS FALSE NEIGHBOUR: 'it returns false'. Refute it at one input. -/
def chainTellsWrong : ChangeSpec := { name := "chainTells", fn := fun _ => fun
  | [d1, d2, d3, d4] => { results := [.lit (.bool false)], args := [d1, d2, d3, d4] }
  | _ => none }
def ChainTellsWrongFalsely : Prop := chainTellsRow.holds Tryz.pinned (OpenSpec.ofChange chainTellsWrong)

/-- 'sheerleglaw27.ChainPaths': WHATEVER THE INPUT: true; the input reads as it did. -/
def chainPathsSpec : ChangeSpec := { name := "chainPaths", fn := fun _ => fun
  | [d1, d2] => { results := [.lit (.bool true)], args := [d1, d2] }
  | _ => none }
def chainPathsRow : OpenClaim := { program := "ytogaiijhicfoaaagreat", sum := "01b4bdb057c8a669a3b510d447669054027e7b983ba1e8d68a8a81756c93331e", func := "sheerleg/sheerleglaw27.ChainPaths", spec := "chainPaths", unfollowed := true, recurses := true, apart := false }
def ChainPathsSaid : Prop := chainPathsRow.holds Tryz.pinned (OpenSpec.ofChange chainPathsSpec)

/-- ITS FALSE NEIGHBOUR: 'it returns false'. Refute it at one input. -/
def chainPathsWrong : ChangeSpec := { name := "chainPaths", fn := fun _ => fun
  | [d1, d2] => { results := [.lit (.bool false)], args := [d1, d2] }
  | _ => none }
def ChainPathsWrongFalsely : Prop := chainPathsRow.holds Tryz.pinned (OpenSpec.ofChange chainPathsWrong)

/-- 'sheerleglaw27.ChainLess': WHATEVER THE INPUT: true; the input reads as it did. -/
def chainLessSpec : ChangeSpec := { name := "chainLess", fn := fun _ => fun
  | [d1, d2, d3] => { results := [.lit (.bool true)], args := [d1, d2, d3] }
  | _ => none }
def chainLessRow : OpenClaim := { program := "ytogaiijhicfoaaagreat", sum := "01b4bdb057c8a669a3b510d447669054027e7b983ba1e8d68a8a81756c93331e", func := "sheerleg/sheerleglaw27.ChainLess", spec := "chainLess", unfollowed := true, recurses := true, apart := false }
def ChainLessSaid : Prop := chainLessRow.holds Tryz.pinned (OpenSpec.ofChange chainLessSpec)

/-- ITS FALSE NEIGHBOUR: 'it returns false'. Refute it at one input. -/
def chainLessWrong : ChangeSpec := { name := "chainLess", fn := fun _ => fun
  | [d1, d2, d3] => { results := [.lit (.bool false)], args := [d1, d2, d3] }
  | _ => none }
def ChainLessWrongFalsely : Prop := chainLessRow.holds Tryz.pinned (OpenSpec.ofChange chainLessWrong)

/-- 'sheerleglaw31.ElideTells': WHATEVER THE INPUT: true; the input reads as it did. -/
def elideTellsSpec : ChangeSpec := { name := "elideTells", fn := fun _ => fun
  | [d1, d2, d3, d4] => { results := [.lit (.bool true)], args := [d1, d2, d3, d4] }
  | _ => none }
def elideTellsRow : OpenClaim := { program := "ytogaiijhicfoaaagreat", sum := "01b4bdb057c8a669a3b510d447669054027e7b983ba1e8d68a8a81756c93331e", func := "sheerleg/sheerleglaw31.ElideTells", spec := "elideTells", unfollowed := true, recurses := true, apart := false }
def ElideTellsSaid : Prop := elideTellsRow.holds Tryz.pinned (OpenSpec.ofChange elideTellsSpec)

/-- ITS FALSE NEIGHBOUR: 'it returns false'. Refute it at one input. -/
def elideTellsWrong : ChangeSpec := { name := "elideTells", fn := fun _ => fun
  | [d1, d2, d3, d4] => { results := [.lit (.bool false)], args := [d1, d2, d3, d4] }
  | _ => none }
def ElideTellsWrongFalsely : Prop := elideTellsRow.holds Tryz.pinned (OpenSpec.ofChange elideTellsWrong)

/-- 'sheerleglaw31.ElideSafe': WHATEVER THE INPUT: true; the input reads as it did. -/
def elideSafeSpec : ChangeSpec := { name := "elideSafe", fn := fun _ => fun
  | [d1, d2] => { results := [.lit (.bool true)], args := [d1, d2] }
  | _ => none }
def elideSafeRow : OpenClaim := { program := "ytogaiijhicfoaaagreat", sum := "01b4bdb057c8a669a3b510d447669054027e7b983ba1e8d68a8a81756c93331e", func := "sheerleg/sheerleglaw31.ElideSafe", spec := "elideSafe", unfollowed := true, recurses := true, apart := false }
def ElideSafeSaid : Prop := elideSafeRow.holds Tryz.pinned (OpenSpec.ofChange elideSafeSpec)

/-- ITS FALSE NEIGHBOUR: 'it returns false'. Refute it at one input. -/
def elideSafeWrong : ChangeSpec := { name := "elideSafe", fn := fun _ => fun
  | [d1, d2] => { results := [.lit (.bool false)], args := [d1, d2] }
  | _ => none }
def ElideSafeWrongFalsely : Prop := elideSafeRow.holds Tryz.pinned (OpenSpec.ofChange elideSafeWrong)

/-- 'sheerleglaw31.ElideLess': WHATEVER THE INPUT: true; the input reads as it did. -/
def elideLessSpec : ChangeSpec := { name := "elideLess", fn := fun _ => fun
  | [d] => { results := [.lit (.bool true)], args := [d] }
  | _ => none }
def elideLessRow : OpenClaim := { program := "ytogaiijhicfoaaagreat", sum := "01b4bdb057c8a669a3b510d447669054027e7b983ba1e8d68a8a81756c93331e", func := "sheerleg/sheerleglaw31.ElideLess", spec := "elideLess", unfollowed := true, recurses := true, apart := false }
def ElideLessSaid : Prop := elideLessRow.holds Tryz.pinned (OpenSpec.ofChange elideLessSpec)

/-- ITS FALSE NEIGHBOUR: 'it returns false'. Refute it at one input. -/
def elideLessWrong : ChangeSpec := { name := "elideLess", fn := fun _ => fun
  | [d] => { results := [.lit (.bool false)], args := [d] }
  | _ => none }
def ElideLessWrongFalsely : Prop := elideLessRow.holds Tryz.pinned (OpenSpec.ofChange elideLessWrong)

/-- 'sheerleglaw19.ObjectTells': WHATEVER THE INPUT: true; the input reads as it did. -/
def objectTellsSpec : ChangeSpec := { name := "objectTells", fn := fun _ => fun
  | [d1, d2] => { results := [.lit (.bool true)], args := [d1, d2] }
  | _ => none }
def objectTellsRow : OpenClaim := { program := "ytogaiijhicfoaaagreat", sum := "01b4bdb057c8a669a3b510d447669054027e7b983ba1e8d68a8a81756c93331e", func := "sheerleg/sheerleglaw19.ObjectTells", spec := "objectTells", unfollowed := true, recurses := true, apart := false }
def ObjectTellsSaid : Prop := objectTellsRow.holds Tryz.pinned (OpenSpec.ofChange objectTellsSpec)

/-- ITS FALSE NEIGHBOUR: 'it returns false'. Refute it at one input. -/
def objectTellsWrong : ChangeSpec := { name := "objectTells", fn := fun _ => fun
  | [d1, d2] => { results := [.lit (.bool false)], args := [d1, d2] }
  | _ => none }
def ObjectTellsWrongFalsely : Prop := objectTellsRow.holds Tryz.pinned (OpenSpec.ofChange objectTellsWrong)

/- THE SECOND FORM. 'bulk': how many values and letters a reading holds, each counted each time it is reached (what is shared counts as often as it is met; a slice's spare places count too). A statement '..UptoSaid' is the law's where the arguments, and the package variables that the reading takes, are together of bulk at most 1048576: NARROWER than '..Said'. Prove '..Said' where nothing that the law and all that it calls make is longer than what came in: it says more and counts as full. Else prove '..UptoSaid'. A law counts once. -/
mutual
def uptoBulk {H : Type} : DataW H → Nat
  | .lit (.string bytes) => bytes.length + 1
  | .lit _ => 1
  | .nil => 1
  | .ptr d => uptoBulk d + 1
  | .slice elems spare => uptoBulkAll elems + uptoBulkAll spare + 1
  | .agg parts => uptoBulkAll parts + 1
  | .iface _ d => uptoBulk d + 1
  | .map entries => uptoBulkEntries entries + 1
  | .held _ => 1
def uptoBulkAll {H : Type} : List (DataW H) → Nat
  | [] => 0
  | d :: r => uptoBulk d + uptoBulkAll r
def uptoBulkEntries {H : Type} : List (Lit × DataW H) → Nat
  | [] => 0
  | x :: r => uptoBulkEntry x + uptoBulkEntries r
def uptoBulkEntry {H : Type} : Lit × DataW H → Nat
  | (.string bytes, d) => bytes.length + uptoBulk d + 1
  | (_, d) => uptoBulk d + 1
 end
def uptoSmall : (H : Type) → List (DataW H) → Bool := fun _ ds => decide (uptoBulkAll ds ≤ 1048576)
def OpenSpec.upto (s : _root_.Go.ChangeSpec) : _root_.Go.OpenSpec := { _root_.Go.OpenSpec.ofChange s with cond := some uptoSmall }

/-- 'sheerleglaw25.CallsTell', WHERE WHAT IT READS IS OF BULK AT MOST 1048576: true; the input reads as it did. -/
def callsTellUptoRow : OpenClaim := { program := "ytogaiijhicfoaaagreat", sum := "01b4bdb057c8a669a3b510d447669054027e7b983ba1e8d68a8a81756c93331e", func := "sheerleg/sheerleglaw25.CallsTell", spec := "callsTell", unfollowed := true, recurses := true, apart := false, narrowed := true }
def CallsTellUptoSaid : Prop := callsTellUptoRow.holds Tryz.pinned (OpenSpec.upto callsTellSpec)

/-- 'sheerleglaw25.CallsTurned', WHERE WHAT IT READS IS OF BULK AT MOST 1048576: true; the input reads as it did. -/
def callsTurnedUptoRow : OpenClaim := { program := "ytogaiijhicfoaaagreat", sum := "01b4bdb057c8a669a3b510d447669054027e7b983ba1e8d68a8a81756c93331e", func := "sheerleg/sheerleglaw25.CallsTurned", spec := "callsTurned", unfollowed := true, recurses := true, apart := false, narrowed := true }
def CallsTurnedUptoSaid : Prop := callsTurnedUptoRow.holds Tryz.pinned (OpenSpec.upto callsTurnedSpec)

/-- 'sheerleglaw26.LiveTells', WHERE WHAT IT READS IS OF BULK AT MOST 1048576: true; the input reads as it did. -/
def liveTellsUptoRow : OpenClaim := { program := "ytogaiijhicfoaaagreat", sum := "01b4bdb057c8a669a3b510d447669054027e7b983ba1e8d68a8a81756c93331e", func := "sheerleg/sheerleglaw26.LiveTells", spec := "liveTells", unfollowed := true, recurses := true, apart := false, narrowed := true }
def LiveTellsUptoSaid : Prop := liveTellsUptoRow.holds Tryz.pinned (OpenSpec.upto liveTellsSpec)

/-- 'sheerleglaw26.LiveWithin', WHERE WHAT IT READS IS OF BULK AT MOST 1048576: true; the input reads as it did. -/
def liveWithinUptoRow : OpenClaim := { program := "ytogaiijhicfoaaagreat", sum := "01b4bdb057c8a669a3b510d447669054027e7b983ba1e8d68a8a81756c93331e", func := "sheerleg/sheerleglaw26.LiveWithin", spec := "liveWithin", unfollowed := true, recurses := true, apart := false, narrowed := true }
def LiveWithinUptoSaid : Prop := liveWithinUptoRow.holds Tryz.pinned (OpenSpec.upto liveWithinSpec)

/-- 'sheerleglaw26.LiveLess', WHERE WHAT IT READS IS OF BULK AT MOST 1048576: true; the input reads as it did. -/
def liveLessUptoRow : OpenClaim := { program := "ytogaiijhicfoaaagreat", sum := "01b4bdb057c8a669a3b510d447669054027e7b983ba1e8d68a8a81756c93331e", func := "sheerleg/sheerleglaw26.LiveLess", spec := "liveLess", unfollowed := true, recurses := true, apart := false, narrowed := true }
def LiveLessUptoSaid : Prop := liveLessUptoRow.holds Tryz.pinned (OpenSpec.upto liveLessSpec)

/-- 'sheerleglaw27.ChainTells', WHERE WHAT IT READS IS OF BULK AT MOST 1048576: true; the input reads as it did. -/
def chainTellsUptoRow : OpenClaim := { program := "ytogaiijhicfoaaagreat", sum := "01b4bdb057c8a669a3b510d447669054027e7b983ba1e8d68a8a81756c93331e", func := "sheerleg/sheerleglaw27.ChainTells", spec := "chainTells", unfollowed := true, recurses := true, apart := false, narrowed := true }
def ChainTellsUptoSaid : Prop := chainTellsUptoRow.holds Tryz.pinned (OpenSpec.upto chainTellsSpec)

/-- 'sheerleglaw27.ChainPaths', WHERE WHAT IT READS IS OF BULK AT MOST 1048576: true; the input reads as it did. -/
def chainPathsUptoRow : OpenClaim := { program := "ytogaiijhicfoaaagreat", sum := "01b4bdb057c8a669a3b510d447669054027e7b983ba1e8d68a8a81756c93331e", func := "sheerleg/sheerleglaw27.ChainPaths", spec := "chainPaths", unfollowed := true, recurses := true, apart := false, narrowed := true }
def ChainPathsUptoSaid : Prop := chainPathsUptoRow.holds Tryz.pinned (OpenSpec.upto chainPathsSpec)

/-- 'sheerleglaw27.ChainLess', WHERE WHAT IT READS IS OF BULK AT MOST 1048576: true; the input reads as it did. -/
def chainLessUptoRow : OpenClaim := { program := "ytogaiijhicfoaaagreat", sum := "01b4bdb057c8a669a3b510d447669054027e7b983ba1e8d68a8a81756c93331e", func := "sheerleg/sheerleglaw27.ChainLess", spec := "chainLess", unfollowed := true, recurses := true, apart := false, narrowed := true }
def ChainLessUptoSaid : Prop := chainLessUptoRow.holds Tryz.pinned (OpenSpec.upto chainLessSpec)

/-- 'sheerleglaw31.ElideTells', WHERE WHAT IT READS IS OF BULK AT MOST 1048576: true; the input reads as it did. -/
def elideTellsUptoRow : OpenClaim := { program := "ytogaiijhicfoaaagreat", sum := "01b4bdb057c8a669a3b510d447669054027e7b983ba1e8d68a8a81756c93331e", func := "sheerleg/sheerleglaw31.ElideTells", spec := "elideTells", unfollowed := true, recurses := true, apart := false, narrowed := true }
def ElideTellsUptoSaid : Prop := elideTellsUptoRow.holds Tryz.pinned (OpenSpec.upto elideTellsSpec)

/-- 'sheerleglaw31.ElideSafe', WHERE WHAT IT READS IS OF BULK AT MOST 1048576: true; the input reads as it did. -/
def elideSafeUptoRow : OpenClaim := { program := "ytogaiijhicfoaaagreat", sum := "01b4bdb057c8a669a3b510d447669054027e7b983ba1e8d68a8a81756c93331e", func := "sheerleg/sheerleglaw31.ElideSafe", spec := "elideSafe", unfollowed := true, recurses := true, apart := false, narrowed := true }
def ElideSafeUptoSaid : Prop := elideSafeUptoRow.holds Tryz.pinned (OpenSpec.upto elideSafeSpec)

/-- 'sheerleglaw31.ElideLess', WHERE WHAT IT READS IS OF BULK AT MOST 1048576: true; the input reads as it did. -/
def elideLessUptoRow : OpenClaim := { program := "ytogaiijhicfoaaagreat", sum := "01b4bdb057c8a669a3b510d447669054027e7b983ba1e8d68a8a81756c93331e", func := "sheerleg/sheerleglaw31.ElideLess", spec := "elideLess", unfollowed := true, recurses := true, apart := false, narrowed := true }
def ElideLessUptoSaid : Prop := elideLessUptoRow.holds Tryz.pinned (OpenSpec.upto elideLessSpec)

/-- 'sheerleglaw19.ObjectTells', WHERE WHAT IT READS IS OF BULK AT MOST 1048576: true; the input reads as it did. -/
def objectTellsUptoRow : OpenClaim := { program := "ytogaiijhicfoaaagreat", sum := "01b4bdb057c8a669a3b510d447669054027e7b983ba1e8d68a8a81756c93331e", func := "sheerleg/sheerleglaw19.ObjectTells", spec := "objectTells", unfollowed := true, recurses := true, apart := false, narrowed := true }
def ObjectTellsUptoSaid : Prop := objectTellsUptoRow.holds Tryz.pinned (OpenSpec.upto objectTellsSpec)

end Rows
end Go.Proofs.YtogaiijhicfoaaaGreat
