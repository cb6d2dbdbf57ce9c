/-
  No cell of these rows narrows 'for every input' (looked for: loops, veiled, ifaces, maps, wideKeys, modest, calm, conditions, laid).
  DERIVED. THE GIVEN ROWS OF THIS SEAT. 5 by the template 'for every input the law returns true; each argument reads behind the call as it read before'; 0 by the template 'total and deterministic' (their statements: YtcacohoanlljhaaTotals.lean).
  GIVEN WITH THE SEED: the statements are not yours to turn. If you find one false, say at which input.
  Laid BY PROGRAM, IN A SANDBOX (cutbox-rows.mjs): the forced cells as the released guide's own fill.sh prints them over the translation 5d256321271f8b8f… (all of the seat's roots in one cut). By AI agents, Wed Nov 11 2026. No macro, syntax, notation, axiom, sorry.
-/
import Derived.Test.YtcacohoanlljhaaChecked
import GoSem.Claim
import GoSem.ClaimJoined
import GoSem.ClaimMapViews
import Derived.JoinedTies
import Derived.KernelRfl
namespace Go.Proofs.Ytcacohoanlljhaa
/- THE CELL 'sum', in the pinned program and in every row, IS THE sha256 OF THE DUMP (.gsa) THAT YtcacohoanlljhaaProg.lean LOADS. Nothing in Lean hashes anything: it is a label: what it is worth is what the hold of that sum in a sandbox is worth. -/
noncomputable def Try.pinned : Pinned := { name := "ytcacohoanlljhaa", sum := "5d256321271f8b8ffad6686286b4430c8ba25cebe42e5e43af5c22dc8e477388", checked := Try.checked }
namespace Rows
def none {H : Type} : Left H := { results := [], args := [] }

/-- 'sheerleglaw12.DeepTells': WHATEVER THE INPUT: true; the input reads as it did. -/
def deepTellsSpec : ChangeSpec := { name := "deepTells", fn := fun _ => fun
  | [d1, d2, d3, d4] => { results := [.lit (.bool true)], args := [d1, d2, d3, d4] }
  | _ => none }
def deepTellsRow : OpenClaim := { program := "ytcacohoanlljhaa", sum := "5d256321271f8b8ffad6686286b4430c8ba25cebe42e5e43af5c22dc8e477388", func := "sheerleg/sheerleglaw12.DeepTells", spec := "deepTells", unfollowed := true, recurses := true, apart := false }
def DeepTellsSaid : Prop := deepTellsRow.holds Try.pinned (OpenSpec.ofChange deepTellsSpec)

/-- ITS FALSE NEIGHBOUR: 'it returns false'. Refute it at one input. -/
def deepTellsWrong : ChangeSpec := { name := "deepTells", fn := fun _ => fun
  | [d1, d2, d3, d4] => { results := [.lit (.bool false)], args := [d1, d2, d3, d4] }
  | _ => none }
def DeepTellsWrongFalsely : Prop := deepTellsRow.holds Try.pinned (OpenSpec.ofChange deepTellsWrong)

/-- 'sheerleglaw12.DeepWays': WHATEVER THE INPUT: true; the input reads as it did. -/
def deepWaysSpec : ChangeSpec := { name := "deepWays", fn := fun _ => fun
  | [d1, d2, d3, d4] => { results := [.lit (.bool true)], args := [d1, d2, d3, d4] }
  | _ => none }
def deepWaysRow : OpenClaim := { program := "ytcacohoanlljhaa", sum := "5d256321271f8b8ffad6686286b4430c8ba25cebe42e5e43af5c22dc8e477388", func := "sheerleg/sheerleglaw12.DeepWays", spec := "deepWays", unfollowed := true, recurses := true, apart := false }
def DeepWaysSaid : Prop := deepWaysRow.holds Try.pinned (OpenSpec.ofChange deepWaysSpec)

/-- ITS FALSE NEIGHBOUR: 'it returns false'. Refute it at one input. -/
def deepWaysWrong : ChangeSpec := { name := "deepWays", fn := fun _ => fun
  | [d1, d2, d3, d4] => { results := [.lit (.bool false)], args := [d1, d2, d3, d4] }
  | _ => none }
def DeepWaysWrongFalsely : Prop := deepWaysRow.holds Try.pinned (OpenSpec.ofChange deepWaysWrong)

/-- 'sheerleglaw12.DeepMore': WHATEVER THE INPUT: true; the input reads as it did. -/
def deepMoreSpec : ChangeSpec := { name := "deepMore", fn := fun _ => fun
  | [d1, d2, d3, d4, d5] => { results := [.lit (.bool true)], args := [d1, d2, d3, d4, d5] }
  | _ => none }
def deepMoreRow : OpenClaim := { program := "ytcacohoanlljhaa", sum := "5d256321271f8b8ffad6686286b4430c8ba25cebe42e5e43af5c22dc8e477388", func := "sheerleg/sheerleglaw12.DeepMore", spec := "deepMore", unfollowed := true, recurses := true, apart := false }
def DeepMoreSaid : Prop := deepMoreRow.holds Try.pinned (OpenSpec.ofChange deepMoreSpec)

/-- ITS FALSE NEIGHBOUR: 'it returns false'. Refute it at one input. -/
def deepMoreWrong : ChangeSpec := { name := "deepMore", fn := fun _ => fun
  | [d1, d2, d3, d4, d5] => { results := [.lit (.bool false)], args := [d1, d2, d3, d4, d5] }
  | _ => none }
def DeepMoreWrongFalsely : Prop := deepMoreRow.holds Try.pinned (OpenSpec.ofChange deepMoreWrong)

/-- 'sheerleglaw17.VerifyRefers': WHATEVER THE INPUT: true; the input reads as it did. -/
def verifyRefersSpec : ChangeSpec := { name := "verifyRefers", fn := fun _ => fun
  | [d1, d2, d3] => { results := [.lit (.bool true)], args := [d1, d2, d3] }
  | _ => none }
def verifyRefersRow : OpenClaim := { program := "ytcacohoanlljhaa", sum := "5d256321271f8b8ffad6686286b4430c8ba25cebe42e5e43af5c22dc8e477388", func := "sheerleg/sheerleglaw17.VerifyRefers", spec := "verifyRefers", unfollowed := true, recurses := true, apart := false }
def VerifyRefersSaid : Prop := verifyRefersRow.holds Try.pinned (OpenSpec.ofChange verifyRefersSpec)

/-- ITS FALSE NEIGHBOUR: 'it returns false'. Refute it at one input. -/
def verifyRefersWrong : ChangeSpec := { name := "verifyRefers", fn := fun _ => fun
  | [d1, d2, d3] => { results := [.lit (.bool false)], args := [d1, d2, d3] }
  | _ => none }
def VerifyRefersWrongFalsely : Prop := verifyRefersRow.holds Try.pinned (OpenSpec.ofChange verifyRefersWrong)

/-- 'sheerleglaw17.VerifyMore': WHATEVER THE INPUT: true; the input reads as it did. -/
def verifyMoreSpec : ChangeSpec := { name := "verifyMore", fn := fun _ => fun
  | [d1, d2, d3] => { results := [.lit (.bool true)], args := [d1, d2, d3] }
  | _ => none }
def verifyMoreRow : OpenClaim := { program := "ytcacohoanlljhaa", sum := "5d256321271f8b8ffad6686286b4430c8ba25cebe42e5e43af5c22dc8e477388", func := "sheerleg/sheerleglaw17.VerifyMore", spec := "verifyMore", unfollowed := true, recurses := true, apart := false }
def VerifyMoreSaid : Prop := verifyMoreRow.holds Try.pinned (OpenSpec.ofChange verifyMoreSpec)

/-- ITS FALSE NEIGHBOUR: 'it returns false'. Refute it at one input. -/
def verifyMoreWrong : ChangeSpec := { name := "verifyMore", fn := fun _ => fun
  | [d1, d2, d3] => { results := [.lit (.bool false)], args := [d1, d2, d3] }
  | _ => none }
def VerifyMoreWrongFalsely : Prop := verifyMoreRow.holds Try.pinned (OpenSpec.ofChange verifyMoreWrong)

/- THE SECOND FORM. 'bulk': how many values and letters a reading holds, each counted each time it is reached (what is shared counts as often as it is met; a slice's spare places count too). A statement '..UptoSaid' is the law's where the arguments, and the package variables that the reading takes, are together of bulk at most 1048576: NARROWER than '..Said'. Prove '..Said' where nothing that the law and all that it calls make is longer than what came in: it says more and counts as full. Else prove '..UptoSaid'. A law counts once. -/
mutual
def uptoBulk {H : Type} : DataW H → Nat
  | .lit (.string bytes) => bytes.length + 1
  | .lit _ => 1
  | .nil => 1
  | .ptr d => uptoBulk d + 1
  | .slice elems spare => uptoBulkAll elems + uptoBulkAll spare + 1
  | .agg parts => uptoBulkAll parts + 1
  | .iface _ d => uptoBulk d + 1
  | .map entries => uptoBulkEntries entries + 1
  | .held _ => 1
def uptoBulkAll {H : Type} : List (DataW H) → Nat
  | [] => 0
  | d :: r => uptoBulk d + uptoBulkAll r
def uptoBulkEntries {H : Type} : List (Lit × DataW H) → Nat
  | [] => 0
  | x :: r => uptoBulkEntry x + uptoBulkEntries r
def uptoBulkEntry {H : Type} : Lit × DataW H → Nat
  | (.string bytes, d) => bytes.length + uptoBulk d + 1
  | (_, d) => uptoBulk d + 1
 end
def uptoSmall : (H : Type) → List (DataW H) → Bool := fun _ ds => decide (uptoBulkAll ds ≤ 1048576)
def OpenSpec.upto (s : _root_.Go.ChangeSpec) : _root_.Go.OpenSpec := { _root_.Go.OpenSpec.ofChange s with cond := some uptoSmall }

/-- 'sheerleglaw12.DeepTells', WHERE WHAT IT READS IS OF BULK AT MOST 1048576: true; the input reads as it did. -/
def deepTellsUptoRow : OpenClaim := { program := "ytcacohoanlljhaa", sum := "5d256321271f8b8ffad6686286b4430c8ba25cebe42e5e43af5c22dc8e477388", func := "sheerleg/sheerleglaw12.DeepTells", spec := "deepTells", unfollowed := true, recurses := true, apart := false, narrowed := true }
def DeepTellsUptoSaid : Prop := deepTellsUptoRow.holds Try.pinned (OpenSpec.upto deepTellsSpec)

/-- 'sheerleglaw12.DeepWays', WHERE WHAT IT READS IS OF BULK AT MOST 1048576: true; the input reads as it did. -/
def deepWaysUptoRow : OpenClaim := { program := "ytcacohoanlljhaa", sum := "5d256321271f8b8ffad6686286b4430c8ba25cebe42e5e43af5c22dc8e477388", func := "sheerleg/sheerleglaw12.DeepWays", spec := "deepWays", unfollowed := true, recurses := true, apart := false, narrowed := true }
def DeepWaysUptoSaid : Prop := deepWaysUptoRow.holds Try.pinned (OpenSpec.upto deepWaysSpec)

/-- 'sheerleglaw12.DeepMore', WHERE WHAT IT READS IS OF BULK AT MOST 1048576: true; the input reads as it did. -/
def deepMoreUptoRow : OpenClaim := { program := "ytcacohoanlljhaa", sum := "5d256321271f8b8ffad6686286b4430c8ba25cebe42e5e43af5c22dc8e477388", func := "sheerleg/sheerleglaw12.DeepMore", spec := "deepMore", unfollowed := true, recurses := true, apart := false, narrowed := true }
def DeepMoreUptoSaid : Prop := deepMoreUptoRow.holds Try.pinned (OpenSpec.upto deepMoreSpec)

/-- 'sheerleglaw17.VerifyRefers', WHERE WHAT IT READS IS OF BULK AT MOST 1048576: true; the input reads as it did. -/
def verifyRefersUptoRow : OpenClaim := { program := "ytcacohoanlljhaa", sum := "5d256321271f8b8ffad6686286b4430c8ba25cebe42e5e43af5c22dc8e477388", func := "sheerleg/sheerleglaw17.VerifyRefers", spec := "verifyRefers", unfollowed := true, recurses := true, apart := false, narrowed := true }
def VerifyRefersUptoSaid : Prop := verifyRefersUptoRow.holds Try.pinned (OpenSpec.upto verifyRefersSpec)

/-- 'sheerleglaw17.VerifyMore', WHERE WHAT IT READS IS OF BULK AT MOST 1048576: true; the input reads as it did. -/
def verifyMoreUptoRow : OpenClaim := { program := "ytcacohoanlljhaa", sum := "5d256321271f8b8ffad6686286b4430c8ba25cebe42e5e43af5c22dc8e477388", func := "sheerleg/sheerleglaw17.VerifyMore", spec := "verifyMore", unfollowed := true, recurses := true, apart := false, narrowed := true }
def VerifyMoreUptoSaid : Prop := verifyMoreUptoRow.holds Try.pinned (OpenSpec.upto verifyMoreSpec)

end Rows
end Go.Proofs.Ytcacohoanlljhaa
