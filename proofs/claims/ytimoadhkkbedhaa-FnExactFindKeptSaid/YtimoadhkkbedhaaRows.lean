/-
  No cell of these rows narrows 'for every input' (looked for: loops, veiled, ifaces, maps, wideKeys, modest, calm, conditions, laid).
  DERIVED. THE GIVEN ROWS OF THIS SEAT. 8 by the template 'for every input the law returns true; each argument reads behind the call as it read before'; 0 by the template 'total and deterministic' (their statements: YtimoadhkkbedhaaTotals.lean).
  GIVEN WITH THE SEED: the statements are not yours to turn. If you find one false, say at which input.
  Laid BY PROGRAM, IN A SANDBOX (cutbox-rows.mjs): the forced cells as the released guide's own fill.sh prints them over the translation 06803484dd1f38ec… (all of the seat's roots in one cut). By AI agents, Wed Nov 11 2026. No macro, syntax, notation, axiom, sorry.
-/
import Derived.Test.YtimoadhkkbedhaaChecked
import GoSem.Claim
import GoSem.ClaimJoined
import GoSem.ClaimMapViews
import Derived.JoinedTies
import Derived.KernelRfl
namespace Go.Proofs.Ytimoadhkkbedhaa
/- THE CELL 'sum', in the pinned program and in every row, IS THE sha256 OF THE DUMP (.gsa) THAT YtimoadhkkbedhaaProg.lean LOADS. Nothing in Lean hashes anything: it is a label: what it is worth is what the hold of that sum in a sandbox is worth. -/
noncomputable def Try.pinned : Pinned := { name := "ytimoadhkkbedhaa", sum := "06803484dd1f38ecbffabe9c6a0c04d34f1a9209bc07d222e575e859395b8d95", checked := Try.checked }
namespace Rows
def none {H : Type} : Left H := { results := [], args := [] }

/-- 'laws.FnExactUnionOf': WHATEVER THE INPUT: true; the input reads as it did. -/
def fnExactUnionOfSpec : ChangeSpec := { name := "fnExactUnionOf", fn := fun _ => fun
  | [d1, d2] => { results := [.lit (.bool true)], args := [d1, d2] }
  | _ => none }
def fnExactUnionOfRow : OpenClaim := { program := "ytimoadhkkbedhaa", sum := "06803484dd1f38ecbffabe9c6a0c04d34f1a9209bc07d222e575e859395b8d95", func := "loop.example/g01388/laws.FnExactUnionOf", spec := "fnExactUnionOf", plainKeys := false, apart := false }
def FnExactUnionOfSaid : Prop := fnExactUnionOfRow.holds Try.pinned (OpenSpec.ofChange fnExactUnionOfSpec)

/-- ITS FALSE NEIGHBOUR: 'it returns false'. Refute it at one input. -/
def fnExactUnionOfWrong : ChangeSpec := { name := "fnExactUnionOf", fn := fun _ => fun
  | [d1, d2] => { results := [.lit (.bool false)], args := [d1, d2] }
  | _ => none }
def FnExactUnionOfWrongFalsely : Prop := fnExactUnionOfRow.holds Try.pinned (OpenSpec.ofChange fnExactUnionOfWrong)

/-- 'laws.FnExactPointsFor': WHATEVER THE INPUT: true; the input reads as it did. -/
def fnExactPointsForSpec : ChangeSpec := { name := "fnExactPointsFor", fn := fun _ => fun
  | [d1, d2, d3] => { results := [.lit (.bool true)], args := [d1, d2, d3] }
  | _ => none }
def fnExactPointsForRow : OpenClaim := { program := "ytimoadhkkbedhaa", sum := "06803484dd1f38ecbffabe9c6a0c04d34f1a9209bc07d222e575e859395b8d95", func := "loop.example/g01388/laws.FnExactPointsFor", spec := "fnExactPointsFor", unfollowed := true, recurses := true, plainKeys := false, apart := false }
def FnExactPointsForSaid : Prop := fnExactPointsForRow.holds Try.pinned (OpenSpec.ofChange fnExactPointsForSpec)

/-- ITS FALSE NEIGHBOUR: 'it returns false'. Refute it at one input. -/
def fnExactPointsForWrong : ChangeSpec := { name := "fnExactPointsFor", fn := fun _ => fun
  | [d1, d2, d3] => { results := [.lit (.bool false)], args := [d1, d2, d3] }
  | _ => none }
def FnExactPointsForWrongFalsely : Prop := fnExactPointsForRow.holds Try.pinned (OpenSpec.ofChange fnExactPointsForWrong)

/-- 'laws.FnExactColourPoint': WHATEVER THE INPUT: true; the input reads as it did. -/
def fnExactColourPointSpec : ChangeSpec := { name := "fnExactColourPoint", fn := fun _ => fun
  | [d1, d2, d3, d4] => { results := [.lit (.bool true)], args := [d1, d2, d3, d4] }
  | _ => none }
def fnExactColourPointRow : OpenClaim := { program := "ytimoadhkkbedhaa", sum := "06803484dd1f38ecbffabe9c6a0c04d34f1a9209bc07d222e575e859395b8d95", func := "loop.example/g01388/laws.FnExactColourPoint", spec := "fnExactColourPoint", unfollowed := true, recurses := true, plainKeys := false, apart := false }
def FnExactColourPointSaid : Prop := fnExactColourPointRow.holds Try.pinned (OpenSpec.ofChange fnExactColourPointSpec)

/-- ITS FALSE NEIGHBOUR: 'it returns false'. Refute it at one input. -/
def fnExactColourPointWrong : ChangeSpec := { name := "fnExactColourPoint", fn := fun _ => fun
  | [d1, d2, d3, d4] => { results := [.lit (.bool false)], args := [d1, d2, d3, d4] }
  | _ => none }
def FnExactColourPointWrongFalsely : Prop := fnExactColourPointRow.holds Try.pinned (OpenSpec.ofChange fnExactColourPointWrong)

/-- 'laws.FnExactMovesLeft': WHATEVER THE INPUT: true; the input reads as it did. -/
def fnExactMovesLeftSpec : ChangeSpec := { name := "fnExactMovesLeft", fn := fun _ => fun
  | [d1, d2] => { results := [.lit (.bool true)], args := [d1, d2] }
  | _ => none }
def fnExactMovesLeftRow : OpenClaim := { program := "ytimoadhkkbedhaa", sum := "06803484dd1f38ecbffabe9c6a0c04d34f1a9209bc07d222e575e859395b8d95", func := "loop.example/g01388/laws.FnExactMovesLeft", spec := "fnExactMovesLeft", unfollowed := true, recurses := true, plainKeys := false, apart := false }
def FnExactMovesLeftSaid : Prop := fnExactMovesLeftRow.holds Try.pinned (OpenSpec.ofChange fnExactMovesLeftSpec)

/-- ITS FALSE NEIGHBOUR: 'it returns false'. Refute it at one input. -/
def fnExactMovesLeftWrong : ChangeSpec := { name := "fnExactMovesLeft", fn := fun _ => fun
  | [d1, d2] => { results := [.lit (.bool false)], args := [d1, d2] }
  | _ => none }
def FnExactMovesLeftWrongFalsely : Prop := fnExactMovesLeftRow.holds Try.pinned (OpenSpec.ofChange fnExactMovesLeftWrong)

/-- 'laws.FnExactOutcomeOf': WHATEVER THE INPUT: true; the input reads as it did. -/
def fnExactOutcomeOfSpec : ChangeSpec := { name := "fnExactOutcomeOf", fn := fun _ => fun
  | [d1, d2] => { results := [.lit (.bool true)], args := [d1, d2] }
  | _ => none }
def fnExactOutcomeOfRow : OpenClaim := { program := "ytimoadhkkbedhaa", sum := "06803484dd1f38ecbffabe9c6a0c04d34f1a9209bc07d222e575e859395b8d95", func := "loop.example/g01388/laws.FnExactOutcomeOf", spec := "fnExactOutcomeOf", unfollowed := true, recurses := true, plainKeys := false, apart := false }
def FnExactOutcomeOfSaid : Prop := fnExactOutcomeOfRow.holds Try.pinned (OpenSpec.ofChange fnExactOutcomeOfSpec)

/-- ITS FALSE NEIGHBOUR: 'it returns false'. Refute it at one input. -/
def fnExactOutcomeOfWrong : ChangeSpec := { name := "fnExactOutcomeOf", fn := fun _ => fun
  | [d1, d2] => { results := [.lit (.bool false)], args := [d1, d2] }
  | _ => none }
def FnExactOutcomeOfWrongFalsely : Prop := fnExactOutcomeOfRow.holds Try.pinned (OpenSpec.ofChange fnExactOutcomeOfWrong)

/-- 'laws.FnExactFindKept': WHATEVER THE INPUT: true; the input reads as it did. -/
def fnExactFindKeptSpec : ChangeSpec := { name := "fnExactFindKept", fn := fun _ => fun
  | [d] => { results := [.lit (.bool true)], args := [d] }
  | _ => none }
def fnExactFindKeptRow : OpenClaim := { program := "ytimoadhkkbedhaa", sum := "06803484dd1f38ecbffabe9c6a0c04d34f1a9209bc07d222e575e859395b8d95", func := "loop.example/g01388/laws.FnExactFindKept", spec := "fnExactFindKept", recurses := true, plainKeys := false, apart := false }
def FnExactFindKeptSaid : Prop := fnExactFindKeptRow.holds Try.pinned (OpenSpec.ofChange fnExactFindKeptSpec)

/-- ITS FALSE NEIGHBOUR: 'it returns false'. Refute it at one input. -/
def fnExactFindKeptWrong : ChangeSpec := { name := "fnExactFindKept", fn := fun _ => fun
  | [d] => { results := [.lit (.bool false)], args := [d] }
  | _ => none }
def FnExactFindKeptWrongFalsely : Prop := fnExactFindKeptRow.holds Try.pinned (OpenSpec.ofChange fnExactFindKeptWrong)

/-- 'laws.FnExactBestPoints': WHATEVER THE INPUT: true; the input reads as it did. -/
def fnExactBestPointsSpec : ChangeSpec := { name := "fnExactBestPoints", fn := fun _ => fun
  | [d1, d2, d3] => { results := [.lit (.bool true)], args := [d1, d2, d3] }
  | _ => none }
def fnExactBestPointsRow : OpenClaim := { program := "ytimoadhkkbedhaa", sum := "06803484dd1f38ecbffabe9c6a0c04d34f1a9209bc07d222e575e859395b8d95", func := "loop.example/g01388/laws.FnExactBestPoints", spec := "fnExactBestPoints", unfollowed := true, recurses := true, plainKeys := false, apart := false }
def FnExactBestPointsSaid : Prop := fnExactBestPointsRow.holds Try.pinned (OpenSpec.ofChange fnExactBestPointsSpec)

/-- ITS FALSE NEIGHBOUR: 'it returns false'. Refute it at one input. -/
def fnExactBestPointsWrong : ChangeSpec := { name := "fnExactBestPoints", fn := fun _ => fun
  | [d1, d2, d3] => { results := [.lit (.bool false)], args := [d1, d2, d3] }
  | _ => none }
def FnExactBestPointsWrongFalsely : Prop := fnExactBestPointsRow.holds Try.pinned (OpenSpec.ofChange fnExactBestPointsWrong)

/-- 'laws.FnExactPlayField': WHATEVER THE INPUT: true; the input reads as it did. -/
def fnExactPlayFieldSpec : ChangeSpec := { name := "fnExactPlayField", fn := fun _ => fun
  | [d1, d2, d3] => { results := [.lit (.bool true)], args := [d1, d2, d3] }
  | _ => none }
def fnExactPlayFieldRow : OpenClaim := { program := "ytimoadhkkbedhaa", sum := "06803484dd1f38ecbffabe9c6a0c04d34f1a9209bc07d222e575e859395b8d95", func := "loop.example/g01388/laws.FnExactPlayField", spec := "fnExactPlayField", unfollowed := true, recurses := true, plainKeys := false, apart := false }
def FnExactPlayFieldSaid : Prop := fnExactPlayFieldRow.holds Try.pinned (OpenSpec.ofChange fnExactPlayFieldSpec)

/-- ITS FALSE NEIGHBOUR: 'it returns false'. Refute it at one input. -/
def fnExactPlayFieldWrong : ChangeSpec := { name := "fnExactPlayField", fn := fun _ => fun
  | [d1, d2, d3] => { results := [.lit (.bool false)], args := [d1, d2, d3] }
  | _ => none }
def FnExactPlayFieldWrongFalsely : Prop := fnExactPlayFieldRow.holds Try.pinned (OpenSpec.ofChange fnExactPlayFieldWrong)

/- THE SECOND FORM. 'bulk': how many values and letters a reading holds, each counted each time it is reached (what is shared counts as often as it is met; a slice's spare places count too). A statement '..UptoSaid' is the law's where the arguments, and the package variables that the reading takes, are together of bulk at most 1048576: NARROWER than '..Said'. Prove '..Said' where nothing that the law and all that it calls make is longer than what came in: it says more and counts as full. Else prove '..UptoSaid'. A law counts once. -/
mutual
def uptoBulk {H : Type} : DataW H → Nat
  | .lit (.string bytes) => bytes.length + 1
  | .lit _ => 1
  | .nil => 1
  | .ptr d => uptoBulk d + 1
  | .slice elems spare => uptoBulkAll elems + uptoBulkAll spare + 1
  | .agg parts => uptoBulkAll parts + 1
  | .iface _ d => uptoBulk d + 1
  | .map entries => uptoBulkEntries entries + 1
  | .held _ => 1
def uptoBulkAll {H : Type} : List (DataW H) → Nat
  | [] => 0
  | d :: r => uptoBulk d + uptoBulkAll r
def uptoBulkEntries {H : Type} : List (Lit × DataW H) → Nat
  | [] => 0
  | x :: r => uptoBulkEntry x + uptoBulkEntries r
def uptoBulkEntry {H : Type} : Lit × DataW H → Nat
  | (.string bytes, d) => bytes.length + uptoBulk d + 1
  | (_, d) => uptoBulk d + 1
 end
def uptoSmall : (H : Type) → List (DataW H) → Bool := fun _ ds => decide (uptoBulkAll ds ≤ 1048576)
def OpenSpec.upto (s : _root_.Go.ChangeSpec) : _root_.Go.OpenSpec := { _root_.Go.OpenSpec.ofChange s with cond := some uptoSmall }

/-- 'laws.FnExactUnionOf', WHERE WHAT IT READS IS OF BULK AT MOST 1048576: true; the input reads as it did. -/
def fnExactUnionOfUptoRow : OpenClaim := { program := "ytimoadhkkbedhaa", sum := "06803484dd1f38ecbffabe9c6a0c04d34f1a9209bc07d222e575e859395b8d95", func := "loop.example/g01388/laws.FnExactUnionOf", spec := "fnExactUnionOf", plainKeys := false, apart := false, narrowed := true }
def FnExactUnionOfUptoSaid : Prop := fnExactUnionOfUptoRow.holds Try.pinned (OpenSpec.upto fnExactUnionOfSpec)

/-- 'laws.FnExactPointsFor', WHERE WHAT IT READS IS OF BULK AT MOST 1048576: true; the input reads as it did. -/
def fnExactPointsForUptoRow : OpenClaim := { program := "ytimoadhkkbedhaa", sum := "06803484dd1f38ecbffabe9c6a0c04d34f1a9209bc07d222e575e859395b8d95", func := "loop.example/g01388/laws.FnExactPointsFor", spec := "fnExactPointsFor", unfollowed := true, recurses := true, plainKeys := false, apart := false, narrowed := true }
def FnExactPointsForUptoSaid : Prop := fnExactPointsForUptoRow.holds Try.pinned (OpenSpec.upto fnExactPointsForSpec)

/-- 'laws.FnExactColourPoint', WHERE WHAT IT READS IS OF BULK AT MOST 1048576: true; the input reads as it did. -/
def fnExactColourPointUptoRow : OpenClaim := { program := "ytimoadhkkbedhaa", sum := "06803484dd1f38ecbffabe9c6a0c04d34f1a9209bc07d222e575e859395b8d95", func := "loop.example/g01388/laws.FnExactColourPoint", spec := "fnExactColourPoint", unfollowed := true, recurses := true, plainKeys := false, apart := false, narrowed := true }
def FnExactColourPointUptoSaid : Prop := fnExactColourPointUptoRow.holds Try.pinned (OpenSpec.upto fnExactColourPointSpec)

/-- 'laws.FnExactMovesLeft', WHERE WHAT IT READS IS OF BULK AT MOST 1048576: true; the input reads as it did. -/
def fnExactMovesLeftUptoRow : OpenClaim := { program := "ytimoadhkkbedhaa", sum := "06803484dd1f38ecbffabe9c6a0c04d34f1a9209bc07d222e575e859395b8d95", func := "loop.example/g01388/laws.FnExactMovesLeft", spec := "fnExactMovesLeft", unfollowed := true, recurses := true, plainKeys := false, apart := false, narrowed := true }
def FnExactMovesLeftUptoSaid : Prop := fnExactMovesLeftUptoRow.holds Try.pinned (OpenSpec.upto fnExactMovesLeftSpec)

/-- 'laws.FnExactOutcomeOf', WHERE WHAT IT READS IS OF BULK AT MOST 1048576: true; the input reads as it did. -/
def fnExactOutcomeOfUptoRow : OpenClaim := { program := "ytimoadhkkbedhaa", sum := "06803484dd1f38ecbffabe9c6a0c04d34f1a9209bc07d222e575e859395b8d95", func := "loop.example/g01388/laws.FnExactOutcomeOf", spec := "fnExactOutcomeOf", unfollowed := true, recurses := true, plainKeys := false, apart := false, narrowed := true }
def FnExactOutcomeOfUptoSaid : Prop := fnExactOutcomeOfUptoRow.holds Try.pinned (OpenSpec.upto fnExactOutcomeOfSpec)

/-- 'laws.FnExactFindKept', WHERE WHAT IT READS IS OF BULK AT MOST 1048576: true; the input reads as it did. -/
def fnExactFindKeptUptoRow : OpenClaim := { program := "ytimoadhkkbedhaa", sum := "06803484dd1f38ecbffabe9c6a0c04d34f1a9209bc07d222e575e859395b8d95", func := "loop.example/g01388/laws.FnExactFindKept", spec := "fnExactFindKept", recurses := true, plainKeys := false, apart := false, narrowed := true }
def FnExactFindKeptUptoSaid : Prop := fnExactFindKeptUptoRow.holds Try.pinned (OpenSpec.upto fnExactFindKeptSpec)

/-- 'laws.FnExactBestPoints', WHERE WHAT IT READS IS OF BULK AT MOST 1048576: true; the input reads as it did. -/
def fnExactBestPointsUptoRow : OpenClaim := { program := "ytimoadhkkbedhaa", sum := "06803484dd1f38ecbffabe9c6a0c04d34f1a9209bc07d222e575e859395b8d95", func := "loop.example/g01388/laws.FnExactBestPoints", spec := "fnExactBestPoints", unfollowed := true, recurses := true, plainKeys := false, apart := false, narrowed := true }
def FnExactBestPointsUptoSaid : Prop := fnExactBestPointsUptoRow.holds Try.pinned (OpenSpec.upto fnExactBestPointsSpec)

/-- 'laws.FnExactPlayField', WHERE WHAT IT READS IS OF BULK AT MOST 1048576: true; the input reads as it did. -/
def fnExactPlayFieldUptoRow : OpenClaim := { program := "ytimoadhkkbedhaa", sum := "06803484dd1f38ecbffabe9c6a0c04d34f1a9209bc07d222e575e859395b8d95", func := "loop.example/g01388/laws.FnExactPlayField", spec := "fnExactPlayField", unfollowed := true, recurses := true, plainKeys := false, apart := false, narrowed := true }
def FnExactPlayFieldUptoSaid : Prop := fnExactPlayFieldUptoRow.holds Try.pinned (OpenSpec.upto fnExactPlayFieldSpec)

end Rows
end Go.Proofs.Ytimoadhkkbedhaa
