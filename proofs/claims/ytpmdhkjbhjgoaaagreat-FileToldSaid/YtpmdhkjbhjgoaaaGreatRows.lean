/-
  No cell of these rows narrows 'for every input' (looked for: loops, veiled, ifaces, maps, wideKeys, modest, calm, conditions, laid).
  DERIVED. THE GIVEN ROWS OF THIS SEAT. 3 by the template 'for every input the law returns true; each argument reads behind the call as it read before'; 0 by the template 'total and deterministic' (their statements: YtpmdhkjbhjgoaaaGreatTotals.lean).
  GIVEN WITH THE SEED: the statements are not yours to turn. If you find one false, say at which input.
  Laid BY PROGRAM, IN A SANDBOX (cutbox-rows.mjs): the forced cells as the released guide's own fill.sh prints them over the translation f224971d4ddc0d2f… (all of the seat's roots in one cut). By AI agents, Wed Nov 11 2026. No macro, syntax, notation, axiom, sorry.
-/
import Derived.Test.YtpmdhkjbhjgoaaaGreatChecked
import GoSem.Claim
import GoSem.ClaimJoined
import GoSem.ClaimMapViews
import Derived.JoinedTies
import Derived.KernelRfl
namespace Go.Proofs.YtpmdhkjbhjgoaaaGreat
/- THE CELL 'sum', in the pinned program and in every row, IS THE sha256 OF THE DUMP (.gsa) THAT YtpmdhkjbhjgoaaaGreatProg.lean LOADS. Nothing in Lean hashes anything: it is a label: what it is worth is what the hold of that sum in a sandbox is worth. -/
noncomputable def Tryz.pinned : Pinned := { name := "ytpmdhkjbhjgoaaagreat", sum := "f224971d4ddc0d2faf95be9b7afce7c70c9d2ba419c5fd69b5f77b73d371ba83", checked := Tryz.checked }
namespace Rows
def none {H : Type} : Left H := { results := [], args := [] }

/-- 'sheerleglaw20.FileTells': WHATEVER THE INPUT: true; the input reads as it did. -/
def fileTellsSpec : ChangeSpec := { name := "fileTells", fn := fun _ => fun
  | [d1, d2] => { results := [.lit (.bool true)], args := [d1, d2] }
  | _ => none }
def fileTellsRow : OpenClaim := { program := "ytpmdhkjbhjgoaaagreat", sum := "f224971d4ddc0d2faf95be9b7afce7c70c9d2ba419c5fd69b5f77b73d371ba83", func := "sheerleg/sheerleglaw20.FileTells", spec := "fileTells", unfollowed := true, recurses := true, apart := false }
def FileTellsSaid : Prop := fileTellsRow.holds Tryz.pinned (OpenSpec.ofChange fileTellsSpec)

/-- ITS FALSE NEIGHBOUR: 'it returns false'. Refute it at one input. -/
def fileTellsWrong : ChangeSpec := { name := "fileTells", fn := fun _ => fun
  | [d1, d2] => { results := [.lit (.bool false)], args := [d1, d2] }
  | _ => none }
def FileTellsWrongFalsely : Prop := fileTellsRow.holds Tryz.pinned (OpenSpec.ofChange fileTellsWrong)

/-- 'sheerleglaw20.FileBack': WHATEVER THE INPUT: true; the input reads as it did. -/
def fileBackSpec : ChangeSpec := { name := "fileBack", fn := fun _ => fun
  | [d1, d2] => { results := [.lit (.bool true)], args := [d1, d2] }
  | _ => none }
def fileBackRow : OpenClaim := { program := "ytpmdhkjbhjgoaaagreat", sum := "f224971d4ddc0d2faf95be9b7afce7c70c9d2ba419c5fd69b5f77b73d371ba83", func := "sheerleg/sheerleglaw20.FileBack", spec := "fileBack", unfollowed := true, recurses := true, apart := false }
def FileBackSaid : Prop := fileBackRow.holds Tryz.pinned (OpenSpec.ofChange fileBackSpec)

/-- ITS FALSE NEIGHBOUR: 'it returns false'. Refute it at one input. -/
def fileBackWrong : ChangeSpec := { name := "fileBack", fn := fun _ => fun
  | [d1, d2] => { results := [.lit (.bool false)], args := [d1, d2] }
  | _ => none }
def FileBackWrongFalsely : Prop := fileBackRow.holds Tryz.pinned (OpenSpec.ofChange fileBackWrong)

/-- 'sheerleglaw20.FileTold': WHATEVER THE INPUT: true; the input reads as it did. -/
def fileToldSpec : ChangeSpec := { name := "fileTold", fn := fun _ => fun
  | [d1, d2, d3] => { results := [.lit (.bool true)], args := [d1, d2, d3] }
  | _ => none }
def fileToldRow : OpenClaim := { program := "ytpmdhkjbhjgoaaagreat", sum := "f224971d4ddc0d2faf95be9b7afce7c70c9d2ba419c5fd69b5f77b73d371ba83", func := "sheerleg/sheerleglaw20.FileTold", spec := "fileTold", unfollowed := true, recurses := true, apart := false }
def FileToldSaid : Prop := fileToldRow.holds Tryz.pinned (OpenSpec.ofChange fileToldSpec)

/-- ITS FALSE NEIGHBOUR: 'it returns false'. Refute it at one input. -/
def fileToldWrong : ChangeSpec := { name := "fileTold", fn := fun _ => fun
  | [d1, d2, d3] => { results := [.lit (.bool false)], args := [d1, d2, d3] }
  | _ => none }
def FileToldWrongFalsely : Prop := fileToldRow.holds Tryz.pinned (OpenSpec.ofChange fileToldWrong)

/- THE SECOND FORM. 'bulk': how many values and letters a reading holds, each counted each time it is reached (what is shared counts as often as it is met; a slice's spare places count too). A statement '..UptoSaid' is the law's where the arguments, and the package variables that the reading takes, are together of bulk at most 1048576: NARROWER than '..Said'. Prove '..Said' where nothing that the law and all that it calls make is longer than what came in: it says more and counts as full. Else prove '..UptoSaid'. A law counts once. -/
mutual
def uptoBulk {H : Type} : DataW H → Nat
  | .lit (.string bytes) => bytes.length + 1
  | .lit _ => 1
  | .nil => 1
  | .ptr d => uptoBulk d + 1
  | .slice elems spare => uptoBulkAll elems + uptoBulkAll spare + 1
  | .agg parts => uptoBulkAll parts + 1
  | .iface _ d => uptoBulk d + 1
  | .map entries => uptoBulkEntries entries + 1
  | .held _ => 1
def uptoBulkAll {H : Type} : List (DataW H) → Nat
  | [] => 0
  | d :: r => uptoBulk d + uptoBulkAll r
def uptoBulkEntries {H : Type} : List (Lit × DataW H) → Nat
  | [] => 0
  | x :: r => uptoBulkEntry x + uptoBulkEntries r
def uptoBulkEntry {H : Type} : Lit × DataW H → Nat
  | (.string bytes, d) => bytes.length + uptoBulk d + 1
  | (_, d) => uptoBulk d + 1
 end
def uptoSmall : (H : Type) → List (DataW H) → Bool := fun _ ds => decide (uptoBulkAll ds ≤ 1048576)
def OpenSpec.upto (s : _root_.Go.ChangeSpec) : _root_.Go.OpenSpec := { _root_.Go.OpenSpec.ofChange s with cond := some uptoSmall }

/-- 'sheerleglaw20.FileTells', WHERE WHAT IT READS IS OF BULK AT MOST 1048576: true; the input reads as it did. -/
def fileTellsUptoRow : OpenClaim := { program := "ytpmdhkjbhjgoaaagreat", sum := "f224971d4ddc0d2faf95be9b7afce7c70c9d2ba419c5fd69b5f77b73d371ba83", func := "sheerleg/sheerleglaw20.FileTells", spec := "fileTells", unfollowed := true, recurses := true, apart := false, narrowed := true }
def FileTellsUptoSaid : Prop := fileTellsUptoRow.holds Tryz.pinned (OpenSpec.upto fileTellsSpec)

/-- 'sheerleglaw20.FileBack', WHERE WHAT IT READS IS OF BULK AT MOST 1048576: true; the input reads as it did. -/
def fileBackUptoRow : OpenClaim := { program := "ytpmdhkjbhjgoaaagreat", sum := "f224971d4ddc0d2faf95be9b7afce7c70c9d2ba419c5fd69b5f77b73d371ba83", func := "sheerleg/sheerleglaw20.FileBack", spec := "fileBack", unfollowed := true, recurses := true, apart := false, narrowed := true }
def FileBackUptoSaid : Prop := fileBackUptoRow.holds Tryz.pinned (OpenSpec.upto fileBackSpec)

/-- 'sheerleglaw20.FileTold', WHERE WHAT IT READS IS OF BULK AT MOST 1048576: true; the input reads as it did. -/
def fileToldUptoRow : OpenClaim := { program := "ytpmdhkjbhjgoaaagreat", sum := "f224971d4ddc0d2faf95be9b7afce7c70c9d2ba419c5fd69b5f77b73d371ba83", func := "sheerleg/sheerleglaw20.FileTold", spec := "fileTold", unfollowed := true, recurses := true, apart := false, narrowed := true }
def FileToldUptoSaid : Prop := fileToldUptoRow.holds Tryz.pinned (OpenSpec.upto fileToldSpec)

end Rows
end Go.Proofs.YtpmdhkjbhjgoaaaGreat
