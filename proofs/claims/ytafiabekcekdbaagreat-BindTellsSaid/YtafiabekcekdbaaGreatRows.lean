/-
  No cell of these rows narrows 'for every input' (looked for: loops, veiled, ifaces, maps, wideKeys, modest, calm, conditions, laid).
  DERIVED. THE GIVEN ROWS OF THIS SEAT. 5 by the template 'for every input the law returns true; each argument reads behind the call as it read before'; 0 by the template 'total and deterministic' (their statements: YtafiabekcekdbaaGreatTotals.lean).
  GIVEN WITH THE SEED: the statements are not yours to turn. If you find one false, say at which input.
  Laid BY PROGRAM, IN A SANDBOX (cutbox-rows.mjs): the forced cells as the released guide's own fill.sh prints them over the translation dcedd3e8b9a28e8a… (all of the seat's roots in one cut). By AI agents, Wed Nov 11 2026. No macro, syntax, notation, axiom, sorry.
-/
import Derived.Test.YtafiabekcekdbaaGreatChecked
import GoSem.Claim
import GoSem.ClaimJoined
import GoSem.ClaimMapViews
import Derived.JoinedTies
import Derived.KernelRfl
namespace Go.Proofs.YtafiabekcekdbaaGreat
/- THE CELL 'sum', in the pinned program and in every row, IS THE sha256 OF THE DUMP (.gsa) THAT YtafiabekcekdbaaGreatProg.lean LOADS. Nothing in Lean hashes anything: it is a label: what it is worth is what the hold of that sum in a sandbox is worth. -/
noncomputable def Tryz.pinned : Pinned := { name := "ytafiabekcekdbaagreat", sum := "dcedd3e8b9a28e8a3c605061fbca47cce0af99547f1b5affd744e7f5cfbf4cb1", checked := Tryz.checked }
namespace Rows
def none {H : Type} : Left H := { results := [], args := [] }

/-- 'sheerleglaw19.ObjectTells': WHATEVER THE INPUT: true; the input reads as it did. -/
def objectTellsSpec : ChangeSpec := { name := "objectTells", fn := fun _ => fun
  | [d1, d2] => { results := [.lit (.bool true)], args := [d1, d2] }
  | _ => none }
def objectTellsRow : OpenClaim := { program := "ytafiabekcekdbaagreat", sum := "dcedd3e8b9a28e8a3c605061fbca47cce0af99547f1b5affd744e7f5cfbf4cb1", func := "sheerleg/sheerleglaw19.ObjectTells", spec := "objectTells", unfollowed := true, recurses := true, plainKeys := false, apart := false }
def ObjectTellsSaid : Prop := objectTellsRow.holds Tryz.pinned (OpenSpec.ofChange objectTellsSpec)

/-- ITS FALSE NEIGHBOUR: 'it returns false'. Refute it at one input. -/
def objectTellsWrong : ChangeSpec := { name := "objectTells", fn := fun _ => fun
  | [d1, d2] => { results := [.lit (.bool false)], args := [d1, d2] }
  | _ => none }
def ObjectTellsWrongFalsely : Prop := objectTellsRow.holds Tryz.pinned (OpenSpec.ofChange objectTellsWrong)

/-- 'sheerleglaw19.ObjectPairs': WHATEVER THE INPUT: true; the input reads as it did. -/
def objectPairsSpec : ChangeSpec := { name := "objectPairs", fn := fun _ => fun
  | [d] => { results := [.lit (.bool true)], args := [d] }
  | _ => none }
def objectPairsRow : OpenClaim := { program := "ytafiabekcekdbaagreat", sum := "dcedd3e8b9a28e8a3c605061fbca47cce0af99547f1b5affd744e7f5cfbf4cb1", func := "sheerleg/sheerleglaw19.ObjectPairs", spec := "objectPairs", unfollowed := true, recurses := true, plainKeys := false, apart := false }
def ObjectPairsSaid : Prop := objectPairsRow.holds Tryz.pinned (OpenSpec.ofChange objectPairsSpec)

/-- ITS FALSE NEIGHBOUR: 'it returns false'. Refute it at one input. -/
def objectPairsWrong : ChangeSpec := { name := "objectPairs", fn := fun _ => fun
  | [d] => { results := [.lit (.bool false)], args := [d] }
  | _ => none }
def ObjectPairsWrongFalsely : Prop := objectPairsRow.holds Tryz.pinned (OpenSpec.ofChange objectPairsWrong)

/-- 'sheerleglaw24.BindTells': WHATEVER THE INPUT: true; the input reads as it did. -/
def bindTellsSpec : ChangeSpec := { name := "bindTells", fn := fun _ => fun
  | [d1, d2, d3, d4] => { results := [.lit (.bool true)], args := [d1, d2, d3, d4] }
  | _ => none }
def bindTellsRow : OpenClaim := { program := "ytafiabekcekdbaagreat", sum := "dcedd3e8b9a28e8a3c605061fbca47cce0af99547f1b5affd744e7f5cfbf4cb1", func := "sheerleg/sheerleglaw24.BindTells", spec := "bindTells", unfollowed := true, recurses := true, plainKeys := false, apart := false }
def BindTellsSaid : Prop := bindTellsRow.holds Tryz.pinned (OpenSpec.ofChange bindTellsSpec)

/-- ITS FALSE NEIGHBOUR: 'it returns false'. Refute it at one input. -/
def bindTellsWrong : ChangeSpec := { name := "bindTells", fn := fun _ => fun
  | [d1, d2, d3, d4] => { results := [.lit (.bool false)], args := [d1, d2, d3, d4] }
  | _ => none }
def BindTellsWrongFalsely : Prop := bindTellsRow.holds Tryz.pinned (OpenSpec.ofChange bindTellsWrong)

/-- 'sheerleglaw24.BindChecks': WHATEVER THE INPUT: true; the input reads as it did. -/
def bindChecksSpec : ChangeSpec := { name := "bindChecks", fn := fun _ => fun
  | [d1, d2, d3, d4] => { results := [.lit (.bool true)], args := [d1, d2, d3, d4] }
  | _ => none }
def bindChecksRow : OpenClaim := { program := "ytafiabekcekdbaagreat", sum := "dcedd3e8b9a28e8a3c605061fbca47cce0af99547f1b5affd744e7f5cfbf4cb1", func := "sheerleg/sheerleglaw24.BindChecks", spec := "bindChecks", unfollowed := true, recurses := true, plainKeys := false, apart := false }
def BindChecksSaid : Prop := bindChecksRow.holds Tryz.pinned (OpenSpec.ofChange bindChecksSpec)

/-- ITS FALSE NEIGHBOUR: 'it returns false'. Refute it at one input. -/
def bindChecksWrong : ChangeSpec := { name := "bindChecks", fn := fun _ => fun
  | [d1, d2, d3, d4] => { results := [.lit (.bool false)], args := [d1, d2, d3, d4] }
  | _ => none }
def BindChecksWrongFalsely : Prop := bindChecksRow.holds Tryz.pinned (OpenSpec.ofChange bindChecksWrong)

/-- 'sheerleglaw24.BindRight': WHATEVER THE INPUT: true; the input reads as it did. -/
def bindRightSpec : ChangeSpec := { name := "bindRight", fn := fun _ => fun
  | [d1, d2] => { results := [.lit (.bool true)], args := [d1, d2] }
  | _ => none }
def bindRightRow : OpenClaim := { program := "ytafiabekcekdbaagreat", sum := "dcedd3e8b9a28e8a3c605061fbca47cce0af99547f1b5affd744e7f5cfbf4cb1", func := "sheerleg/sheerleglaw24.BindRight", spec := "bindRight", unfollowed := true, recurses := true, plainKeys := false, apart := false }
def BindRightSaid : Prop := bindRightRow.holds Tryz.pinned (OpenSpec.ofChange bindRightSpec)

/-- ITS FALSE NEIGHBOUR: 'it returns false'. Refute it at one input. -/
def bindRightWrong : ChangeSpec := { name := "bindRight", fn := fun _ => fun
  | [d1, d2] => { results := [.lit (.bool false)], args := [d1, d2] }
  | _ => none }
def BindRightWrongFalsely : Prop := bindRightRow.holds Tryz.pinned (OpenSpec.ofChange bindRightWrong)

/- THE SECOND FORM. 'bulk': how many values and letters a reading holds, each counted each time it is reached (what is shared counts as often as it is met; a slice's spare places count too). A statement '..UptoSaid' is the law's where the arguments, and the package variables that the reading takes, are together of bulk at most 1048576: NARROWER than '..Said'. Prove '..Said' where nothing that the law and all that it calls make is longer than what came in: it says more and counts as full. Else prove '..UptoSaid'. A law counts once. -/
mutual
def uptoBulk {H : Type} : DataW H → Nat
  | .lit (.string bytes) => bytes.length + 1
  | .lit _ => 1
  | .nil => 1
  | .ptr d => uptoBulk d + 1
  | .slice elems spare => uptoBulkAll elems + uptoBulkAll spare + 1
  | .agg parts => uptoBulkAll parts + 1
  | .iface _ d => uptoBulk d + 1
  | .map entries => uptoBulkEntries entries + 1
  | .held _ => 1
def uptoBulkAll {H : Type} : List (DataW H) → Nat
  | [] => 0
  | d :: r => uptoBulk d + uptoBulkAll r
def uptoBulkEntries {H : Type} : List (Lit × DataW H) → Nat
  | [] => 0
  | x :: r => uptoBulkEntry x + uptoBulkEntries r
def uptoBulkEntry {H : Type} : Lit × DataW H → Nat
  | (.string bytes, d) => bytes.length + uptoBulk d + 1
  | (_, d) => uptoBulk d + 1
 end
def uptoSmall : (H : Type) → List (DataW H) → Bool := fun _ ds => decide (uptoBulkAll ds ≤ 1048576)
def OpenSpec.upto (s : _root_.Go.ChangeSpec) : _root_.Go.OpenSpec := { _root_.Go.OpenSpec.ofChange s with cond := some uptoSmall }

/-- 'sheerleglaw19.ObjectTells', WHERE WHAT IT READS IS OF BULK AT MOST 1048576: true; the input reads as it did. -/
def objectTellsUptoRow : OpenClaim := { program := "ytafiabekcekdbaagreat", sum := "dcedd3e8b9a28e8a3c605061fbca47cce0af99547f1b5affd744e7f5cfbf4cb1", func := "sheerleg/sheerleglaw19.ObjectTells", spec := "objectTells", unfollowed := true, recurses := true, plainKeys := false, apart := false, narrowed := true }
def ObjectTellsUptoSaid : Prop := objectTellsUptoRow.holds Tryz.pinned (OpenSpec.upto objectTellsSpec)

/-- 'sheerleglaw19.ObjectPairs', WHERE WHAT IT READS IS OF BULK AT MOST 1048576: true; the input reads as it did. -/
def objectPairsUptoRow : OpenClaim := { program := "ytafiabekcekdbaagreat", sum := "dcedd3e8b9a28e8a3c605061fbca47cce0af99547f1b5affd744e7f5cfbf4cb1", func := "sheerleg/sheerleglaw19.ObjectPairs", spec := "objectPairs", unfollowed := true, recurses := true, plainKeys := false, apart := false, narrowed := true }
def ObjectPairsUptoSaid : Prop := objectPairsUptoRow.holds Tryz.pinned (OpenSpec.upto objectPairsSpec)

/-- 'sheerleglaw24.BindTells', WHERE WHAT IT READS IS OF BULK AT MOST 1048576: true; the input reads as it did. -/
def bindTellsUptoRow : OpenClaim := { program := "ytafiabekcekdbaagreat", sum := "dcedd3e8b9a28e8a3c605061fbca47cce0af99547f1b5affd744e7f5cfbf4cb1", func := "sheerleg/sheerleglaw24.BindTells", spec := "bindTells", unfollowed := true, recurses := true, plainKeys := false, apart := false, narrowed := true }
def BindTellsUptoSaid : Prop := bindTellsUptoRow.holds Tryz.pinned (OpenSpec.upto bindTellsSpec)

/-- 'sheerleglaw24.BindChecks', WHERE WHAT IT READS IS OF BULK AT MOST 1048576: true; the input reads as it did. -/
def bindChecksUptoRow : OpenClaim := { program := "ytafiabekcekdbaagreat", sum := "dcedd3e8b9a28e8a3c605061fbca47cce0af99547f1b5affd744e7f5cfbf4cb1", func := "sheerleg/sheerleglaw24.BindChecks", spec := "bindChecks", unfollowed := true, recurses := true, plainKeys := false, apart := false, narrowed := true }
def BindChecksUptoSaid : Prop := bindChecksUptoRow.holds Tryz.pinned (OpenSpec.upto bindChecksSpec)

/-- 'sheerleglaw24.BindRight', WHERE WHAT IT READS IS OF BULK AT MOST 1048576: true; the input reads as it did. -/
def bindRightUptoRow : OpenClaim := { program := "ytafiabekcekdbaagreat", sum := "dcedd3e8b9a28e8a3c605061fbca47cce0af99547f1b5affd744e7f5cfbf4cb1", func := "sheerleg/sheerleglaw24.BindRight", spec := "bindRight", unfollowed := true, recurses := true, plainKeys := false, apart := false, narrowed := true }
def BindRightUptoSaid : Prop := bindRightUptoRow.holds Tryz.pinned (OpenSpec.upto bindRightSpec)

end Rows
end Go.Proofs.YtafiabekcekdbaaGreat
