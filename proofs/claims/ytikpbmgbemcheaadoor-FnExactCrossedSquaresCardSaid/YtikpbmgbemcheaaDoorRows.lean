/-
  NARROWER THAN 'FOR EVERY INPUT', by the rows' own cells (each row's printed sentence says how): FnExactIsTrack: laid · FnExactFirstCar: laid · FnExactMoveCar: laid · FnExactDriveRoute: laid · FnExactCrossedSquares: laid · FnExactOpenMoves: laid.
  DERIVED. THE GIVEN ROWS OF THIS SEAT. 6 by the template 'for every input the law returns true; each argument reads behind the call as it read before'; 0 by the template 'total and deterministic' (their statements: YtikpbmgbemcheaaDoorTotals.lean).
  GIVEN WITH THE SEED: the statements are not yours to turn. If you find one false, say at which input.
  Laid BY PROGRAM, IN A SANDBOX (cutbox-rows.mjs): the forced cells as the released guide's own fill.sh prints them over the translation 7aeab491b62807ef… (all of the seat's roots in one cut). By AI agents, Wed Nov 11 2026. No macro, syntax, notation, axiom, sorry.
-/
import Derived.Test.YtikpbmgbemcheaaDoorChecked
import GoSem.PinnedTables
import GoSem.Claim
import GoSem.ClaimJoined
import GoSem.ClaimMapViews
import Derived.JoinedTies
import Derived.KernelRfl
namespace Go.Proofs.YtikpbmgbemcheaaDoor
/- THE CELL 'sum', in the pinned program and in every row, IS THE sha256 OF THE DUMP (.gsa) THAT YtikpbmgbemcheaaDoorProg.lean LOADS. Nothing in Lean hashes anything: it is a label: what it is worth is what the hold of that sum in a sandbox is worth. -/
noncomputable def Tryd.pinned : Pinned := { name := "ytikpbmgbemcheaadoor", sum := "7aeab491b62807effcb7024f804776068cf23562998d0a4e163fefd52467f26b", checked := Tryd.checked }
namespace Rows
def none {H : Type} : Left H := { results := [], args := [] }

/- WHAT THE LISTED PACKAGE-LEVEL VARIABLES READ AS WHEN THE CALL BEGINS. Each datum BY PROGRAM (the guide's laid-datum.mjs) off the statement by which the dump's own 'gosem.cut.vars' lays the variable. In a bare row this is a premise. The card (YtikpbmgbemcheaaDoorCards.lean) ties it to the program's text. -/
def laid_unicode_utf8_acceptRanges {H : Type} : DataW H := .agg [.agg [.lit (.int .u8 128), .lit (.int .u8 191)], .agg [.lit (.int .u8 160), .lit (.int .u8 191)], .agg [.lit (.int .u8 128), .lit (.int .u8 159)], .agg [.lit (.int .u8 144), .lit (.int .u8 191)], .agg [.lit (.int .u8 128), .lit (.int .u8 143)], .agg [.lit (.int .u8 0), .lit (.int .u8 0)], .agg [.lit (.int .u8 0), .lit (.int .u8 0)], .agg [.lit (.int .u8 0), .lit (.int .u8 0)], .agg [.lit (.int .u8 0), .lit (.int .u8 0)], .agg [.lit (.int .u8 0), .lit (.int .u8 0)], .agg [.lit (.int .u8 0), .lit (.int .u8 0)], .agg [.lit (.int .u8 0), .lit (.int .u8 0)], .agg [.lit (.int .u8 0), .lit (.int .u8 0)], .agg [.lit (.int .u8 0), .lit (.int .u8 0)], .agg [.lit (.int .u8 0), .lit (.int .u8 0)], .agg [.lit (.int .u8 0), .lit (.int .u8 0)]]
/-- One of Go's own tables, pinned by name: the form's constant. -/
def laid_unicode_utf8_first : DataW Unit := Go.Pinned.utf8First

/-- 'laws.FnExactIsTrack': WHATEVER THE INPUT: true; the input reads as it did. -/
def fnExactIsTrackSpec : ChangeSpec := { name := "fnExactIsTrack", fn := fun _ => fun
  | [d] => { results := [.lit (.bool true)], args := [d] }
  | _ => none }
def fnExactIsTrackRow : OpenClaim := { program := "ytikpbmgbemcheaadoor", sum := "7aeab491b62807effcb7024f804776068cf23562998d0a4e163fefd52467f26b", func := "loop.example/g01388/laws.FnExactIsTrack", spec := "fnExactIsTrack", inPlace := ["internal/abi.NoEscape", "internal/bytealg.MakeNoZero", "internal/bytealg.IndexByteString", "internal/bytealg.IndexString", "internal/bytealg.CountString"], unfollowed := true, recurses := true, named := ["unicode/utf8.first", "unicode/utf8.acceptRanges", "internal/bytealg.MaxLen"], apart := false, laid := [("unicode/utf8.acceptRanges", laid_unicode_utf8_acceptRanges), ("unicode/utf8.first", laid_unicode_utf8_first)] }
def FnExactIsTrackSaid : Prop := fnExactIsTrackRow.holds Tryd.pinned (OpenSpec.ofChange fnExactIsTrackSpec)

/-- ITS FALSE NEIGHBOUR: 'it returns false'. Refute it at one input. -/
def fnExactIsTrackWrong : ChangeSpec := { name := "fnExactIsTrack", fn := fun _ => fun
  | [d] => { results := [.lit (.bool false)], args := [d] }
  | _ => none }
def FnExactIsTrackWrongFalsely : Prop := fnExactIsTrackRow.holds Tryd.pinned (OpenSpec.ofChange fnExactIsTrackWrong)

/-- 'laws.FnExactFirstCar': WHATEVER THE INPUT: true; the input reads as it did. -/
def fnExactFirstCarSpec : ChangeSpec := { name := "fnExactFirstCar", fn := fun _ => fun
  | [d] => { results := [.lit (.bool true)], args := [d] }
  | _ => none }
def fnExactFirstCarRow : OpenClaim := { program := "ytikpbmgbemcheaadoor", sum := "7aeab491b62807effcb7024f804776068cf23562998d0a4e163fefd52467f26b", func := "loop.example/g01388/laws.FnExactFirstCar", spec := "fnExactFirstCar", inPlace := ["internal/abi.NoEscape", "internal/bytealg.MakeNoZero", "internal/bytealg.IndexByteString", "internal/bytealg.IndexString", "internal/bytealg.CountString"], unfollowed := true, recurses := true, named := ["unicode/utf8.first", "unicode/utf8.acceptRanges", "internal/bytealg.MaxLen"], apart := false, laid := [("unicode/utf8.acceptRanges", laid_unicode_utf8_acceptRanges), ("unicode/utf8.first", laid_unicode_utf8_first)] }
def FnExactFirstCarSaid : Prop := fnExactFirstCarRow.holds Tryd.pinned (OpenSpec.ofChange fnExactFirstCarSpec)

/-- ITS FALSE NEIGHBOUR: 'it returns false'. Refute it at one input. -/
def fnExactFirstCarWrong : ChangeSpec := { name := "fnExactFirstCar", fn := fun _ => fun
  | [d] => { results := [.lit (.bool false)], args := [d] }
  | _ => none }
def FnExactFirstCarWrongFalsely : Prop := fnExactFirstCarRow.holds Tryd.pinned (OpenSpec.ofChange fnExactFirstCarWrong)

/-- 'laws.FnExactMoveCar': WHATEVER THE INPUT: true; the input reads as it did. -/
def fnExactMoveCarSpec : ChangeSpec := { name := "fnExactMoveCar", fn := fun _ => fun
  | [d1, d2, d3] => { results := [.lit (.bool true)], args := [d1, d2, d3] }
  | _ => none }
def fnExactMoveCarRow : OpenClaim := { program := "ytikpbmgbemcheaadoor", sum := "7aeab491b62807effcb7024f804776068cf23562998d0a4e163fefd52467f26b", func := "loop.example/g01388/laws.FnExactMoveCar", spec := "fnExactMoveCar", inPlace := ["internal/abi.NoEscape", "internal/bytealg.MakeNoZero", "internal/bytealg.IndexByteString", "internal/bytealg.IndexString", "internal/bytealg.CountString"], unfollowed := true, recurses := true, named := ["unicode/utf8.first", "unicode/utf8.acceptRanges", "internal/bytealg.MaxLen"], apart := false, laid := [("unicode/utf8.acceptRanges", laid_unicode_utf8_acceptRanges), ("unicode/utf8.first", laid_unicode_utf8_first)] }
def FnExactMoveCarSaid : Prop := fnExactMoveCarRow.holds Tryd.pinned (OpenSpec.ofChange fnExactMoveCarSpec)

/-- ITS FALSE NEIGHBOUR: 'it returns false'. Refute it at one input. -/
def fnExactMoveCarWrong : ChangeSpec := { name := "fnExactMoveCar", fn := fun _ => fun
  | [d1, d2, d3] => { results := [.lit (.bool false)], args := [d1, d2, d3] }
  | _ => none }
def FnExactMoveCarWrongFalsely : Prop := fnExactMoveCarRow.holds Tryd.pinned (OpenSpec.ofChange fnExactMoveCarWrong)

/-- 'laws.FnExactDriveRoute': WHATEVER THE INPUT: true; the input reads as it did. -/
def fnExactDriveRouteSpec : ChangeSpec := { name := "fnExactDriveRoute", fn := fun _ => fun
  | [d1, d2] => { results := [.lit (.bool true)], args := [d1, d2] }
  | _ => none }
def fnExactDriveRouteRow : OpenClaim := { program := "ytikpbmgbemcheaadoor", sum := "7aeab491b62807effcb7024f804776068cf23562998d0a4e163fefd52467f26b", func := "loop.example/g01388/laws.FnExactDriveRoute", spec := "fnExactDriveRoute", inPlace := ["internal/abi.NoEscape", "internal/bytealg.MakeNoZero", "internal/bytealg.IndexByteString", "internal/bytealg.IndexString", "internal/bytealg.CountString"], unfollowed := true, recurses := true, named := ["unicode/utf8.first", "unicode/utf8.acceptRanges", "internal/bytealg.MaxLen"], apart := false, laid := [("unicode/utf8.acceptRanges", laid_unicode_utf8_acceptRanges), ("unicode/utf8.first", laid_unicode_utf8_first)] }
def FnExactDriveRouteSaid : Prop := fnExactDriveRouteRow.holds Tryd.pinned (OpenSpec.ofChange fnExactDriveRouteSpec)

/-- ITS FALSE NEIGHBOUR: 'it returns false'. Refute it at one input. -/
def fnExactDriveRouteWrong : ChangeSpec := { name := "fnExactDriveRoute", fn := fun _ => fun
  | [d1, d2] => { results := [.lit (.bool false)], args := [d1, d2] }
  | _ => none }
def FnExactDriveRouteWrongFalsely : Prop := fnExactDriveRouteRow.holds Tryd.pinned (OpenSpec.ofChange fnExactDriveRouteWrong)

/-- 'laws.FnExactCrossedSquares': WHATEVER THE INPUT: true; the input reads as it did. -/
def fnExactCrossedSquaresSpec : ChangeSpec := { name := "fnExactCrossedSquares", fn := fun _ => fun
  | [d1, d2, d3] => { results := [.lit (.bool true)], args := [d1, d2, d3] }
  | _ => none }
def fnExactCrossedSquaresRow : OpenClaim := { program := "ytikpbmgbemcheaadoor", sum := "7aeab491b62807effcb7024f804776068cf23562998d0a4e163fefd52467f26b", func := "loop.example/g01388/laws.FnExactCrossedSquares", spec := "fnExactCrossedSquares", inPlace := ["internal/abi.NoEscape", "internal/bytealg.MakeNoZero", "internal/bytealg.IndexByteString", "internal/bytealg.IndexString", "internal/bytealg.CountString"], unfollowed := true, recurses := true, named := ["unicode/utf8.first", "unicode/utf8.acceptRanges", "internal/bytealg.MaxLen"], apart := false, laid := [("unicode/utf8.acceptRanges", laid_unicode_utf8_acceptRanges), ("unicode/utf8.first", laid_unicode_utf8_first)] }
def FnExactCrossedSquaresSaid : Prop := fnExactCrossedSquaresRow.holds Tryd.pinned (OpenSpec.ofChange fnExactCrossedSquaresSpec)

/-- ITS FALSE NEIGHBOUR: 'it returns false'. Refute it at one input. -/
def fnExactCrossedSquaresWrong : ChangeSpec := { name := "fnExactCrossedSquares", fn := fun _ => fun
  | [d1, d2, d3] => { results := [.lit (.bool false)], args := [d1, d2, d3] }
  | _ => none }
def FnExactCrossedSquaresWrongFalsely : Prop := fnExactCrossedSquaresRow.holds Tryd.pinned (OpenSpec.ofChange fnExactCrossedSquaresWrong)

/-- 'laws.FnExactOpenMoves': WHATEVER THE INPUT: true; the input reads as it did. -/
def fnExactOpenMovesSpec : ChangeSpec := { name := "fnExactOpenMoves", fn := fun _ => fun
  | [d1, d2] => { results := [.lit (.bool true)], args := [d1, d2] }
  | _ => none }
def fnExactOpenMovesRow : OpenClaim := { program := "ytikpbmgbemcheaadoor", sum := "7aeab491b62807effcb7024f804776068cf23562998d0a4e163fefd52467f26b", func := "loop.example/g01388/laws.FnExactOpenMoves", spec := "fnExactOpenMoves", inPlace := ["internal/abi.NoEscape", "internal/bytealg.MakeNoZero", "internal/bytealg.IndexByteString", "internal/bytealg.IndexString", "internal/bytealg.CountString"], unfollowed := true, recurses := true, named := ["unicode/utf8.first", "unicode/utf8.acceptRanges", "internal/bytealg.MaxLen"], apart := false, laid := [("unicode/utf8.acceptRanges", laid_unicode_utf8_acceptRanges), ("unicode/utf8.first", laid_unicode_utf8_first)] }
def FnExactOpenMovesSaid : Prop := fnExactOpenMovesRow.holds Tryd.pinned (OpenSpec.ofChange fnExactOpenMovesSpec)

/-- ITS FALSE NEIGHBOUR: 'it returns false'. Refute it at one input. -/
def fnExactOpenMovesWrong : ChangeSpec := { name := "fnExactOpenMoves", fn := fun _ => fun
  | [d1, d2] => { results := [.lit (.bool false)], args := [d1, d2] }
  | _ => none }
def FnExactOpenMovesWrongFalsely : Prop := fnExactOpenMovesRow.holds Tryd.pinned (OpenSpec.ofChange fnExactOpenMovesWrong)

/- THE SECOND FORM. 'bulk': how many values and letters a reading holds, each counted each time it is reached (what is shared counts as often as it is met; a slice's spare places count too). A statement '..UptoSaid' is the law's where the arguments, and the package variables that the reading takes, are together of bulk at most 1048576: NARROWER than '..Said'. Prove '..Said' where nothing that the law and all that it calls make is longer than what came in: it says more and counts as full. Else prove '..UptoSaid'. A law counts once. -/
mutual
def uptoBulk {H : Type} : DataW H → Nat
  | .lit (.string bytes) => bytes.length + 1
  | .lit _ => 1
  | .nil => 1
  | .ptr d => uptoBulk d + 1
  | .slice elems spare => uptoBulkAll elems + uptoBulkAll spare + 1
  | .agg parts => uptoBulkAll parts + 1
  | .iface _ d => uptoBulk d + 1
  | .map entries => uptoBulkEntries entries + 1
  | .held _ => 1
def uptoBulkAll {H : Type} : List (DataW H) → Nat
  | [] => 0
  | d :: r => uptoBulk d + uptoBulkAll r
def uptoBulkEntries {H : Type} : List (Lit × DataW H) → Nat
  | [] => 0
  | x :: r => uptoBulkEntry x + uptoBulkEntries r
def uptoBulkEntry {H : Type} : Lit × DataW H → Nat
  | (.string bytes, d) => bytes.length + uptoBulk d + 1
  | (_, d) => uptoBulk d + 1
 end
def uptoSmall : (H : Type) → List (DataW H) → Bool := fun _ ds => decide (uptoBulkAll ds ≤ 1048576)
def OpenSpec.upto (s : _root_.Go.ChangeSpec) : _root_.Go.OpenSpec := { _root_.Go.OpenSpec.ofChange s with cond := some uptoSmall }

/-- 'laws.FnExactIsTrack', WHERE WHAT IT READS IS OF BULK AT MOST 1048576: true; the input reads as it did. -/
def fnExactIsTrackUptoRow : OpenClaim := { program := "ytikpbmgbemcheaadoor", sum := "7aeab491b62807effcb7024f804776068cf23562998d0a4e163fefd52467f26b", func := "loop.example/g01388/laws.FnExactIsTrack", spec := "fnExactIsTrack", inPlace := ["internal/abi.NoEscape", "internal/bytealg.MakeNoZero", "internal/bytealg.IndexByteString", "internal/bytealg.IndexString", "internal/bytealg.CountString"], unfollowed := true, recurses := true, named := ["unicode/utf8.first", "unicode/utf8.acceptRanges", "internal/bytealg.MaxLen"], apart := false, laid := [("unicode/utf8.acceptRanges", laid_unicode_utf8_acceptRanges), ("unicode/utf8.first", laid_unicode_utf8_first)], narrowed := true }
def FnExactIsTrackUptoSaid : Prop := fnExactIsTrackUptoRow.holds Tryd.pinned (OpenSpec.upto fnExactIsTrackSpec)

/-- 'laws.FnExactFirstCar', WHERE WHAT IT READS IS OF BULK AT MOST 1048576: true; the input reads as it did. -/
def fnExactFirstCarUptoRow : OpenClaim := { program := "ytikpbmgbemcheaadoor", sum := "7aeab491b62807effcb7024f804776068cf23562998d0a4e163fefd52467f26b", func := "loop.example/g01388/laws.FnExactFirstCar", spec := "fnExactFirstCar", inPlace := ["internal/abi.NoEscape", "internal/bytealg.MakeNoZero", "internal/bytealg.IndexByteString", "internal/bytealg.IndexString", "internal/bytealg.CountString"], unfollowed := true, recurses := true, named := ["unicode/utf8.first", "unicode/utf8.acceptRanges", "internal/bytealg.MaxLen"], apart := false, laid := [("unicode/utf8.acceptRanges", laid_unicode_utf8_acceptRanges), ("unicode/utf8.first", laid_unicode_utf8_first)], narrowed := true }
def FnExactFirstCarUptoSaid : Prop := fnExactFirstCarUptoRow.holds Tryd.pinned (OpenSpec.upto fnExactFirstCarSpec)

/-- 'laws.FnExactMoveCar', WHERE WHAT IT READS IS OF BULK AT MOST 1048576: true; the input reads as it did. -/
def fnExactMoveCarUptoRow : OpenClaim := { program := "ytikpbmgbemcheaadoor", sum := "7aeab491b62807effcb7024f804776068cf23562998d0a4e163fefd52467f26b", func := "loop.example/g01388/laws.FnExactMoveCar", spec := "fnExactMoveCar", inPlace := ["internal/abi.NoEscape", "internal/bytealg.MakeNoZero", "internal/bytealg.IndexByteString", "internal/bytealg.IndexString", "internal/bytealg.CountString"], unfollowed := true, recurses := true, named := ["unicode/utf8.first", "unicode/utf8.acceptRanges", "internal/bytealg.MaxLen"], apart := false, laid := [("unicode/utf8.acceptRanges", laid_unicode_utf8_acceptRanges), ("unicode/utf8.first", laid_unicode_utf8_first)], narrowed := true }
def FnExactMoveCarUptoSaid : Prop := fnExactMoveCarUptoRow.holds Tryd.pinned (OpenSpec.upto fnExactMoveCarSpec)

/-- 'laws.FnExactDriveRoute', WHERE WHAT IT READS IS OF BULK AT MOST 1048576: true; the input reads as it did. -/
def fnExactDriveRouteUptoRow : OpenClaim := { program := "ytikpbmgbemcheaadoor", sum := "7aeab491b62807effcb7024f804776068cf23562998d0a4e163fefd52467f26b", func := "loop.example/g01388/laws.FnExactDriveRoute", spec := "fnExactDriveRoute", inPlace := ["internal/abi.NoEscape", "internal/bytealg.MakeNoZero", "internal/bytealg.IndexByteString", "internal/bytealg.IndexString", "internal/bytealg.CountString"], unfollowed := true, recurses := true, named := ["unicode/utf8.first", "unicode/utf8.acceptRanges", "internal/bytealg.MaxLen"], apart := false, laid := [("unicode/utf8.acceptRanges", laid_unicode_utf8_acceptRanges), ("unicode/utf8.first", laid_unicode_utf8_first)], narrowed := true }
def FnExactDriveRouteUptoSaid : Prop := fnExactDriveRouteUptoRow.holds Tryd.pinned (OpenSpec.upto fnExactDriveRouteSpec)

/-- 'laws.FnExactCrossedSquares', WHERE WHAT IT READS IS OF BULK AT MOST 1048576: true; the input reads as it did. -/
def fnExactCrossedSquaresUptoRow : OpenClaim := { program := "ytikpbmgbemcheaadoor", sum := "7aeab491b62807effcb7024f804776068cf23562998d0a4e163fefd52467f26b", func := "loop.example/g01388/laws.FnExactCrossedSquares", spec := "fnExactCrossedSquares", inPlace := ["internal/abi.NoEscape", "internal/bytealg.MakeNoZero", "internal/bytealg.IndexByteString", "internal/bytealg.IndexString", "internal/bytealg.CountString"], unfollowed := true, recurses := true, named := ["unicode/utf8.first", "unicode/utf8.acceptRanges", "internal/bytealg.MaxLen"], apart := false, laid := [("unicode/utf8.acceptRanges", laid_unicode_utf8_acceptRanges), ("unicode/utf8.first", laid_unicode_utf8_first)], narrowed := true }
def FnExactCrossedSquaresUptoSaid : Prop := fnExactCrossedSquaresUptoRow.holds Tryd.pinned (OpenSpec.upto fnExactCrossedSquaresSpec)

/-- 'laws.FnExactOpenMoves', WHERE WHAT IT READS IS OF BULK AT MOST 1048576: true; the input reads as it did. -/
def fnExactOpenMovesUptoRow : OpenClaim := { program := "ytikpbmgbemcheaadoor", sum := "7aeab491b62807effcb7024f804776068cf23562998d0a4e163fefd52467f26b", func := "loop.example/g01388/laws.FnExactOpenMoves", spec := "fnExactOpenMoves", inPlace := ["internal/abi.NoEscape", "internal/bytealg.MakeNoZero", "internal/bytealg.IndexByteString", "internal/bytealg.IndexString", "internal/bytealg.CountString"], unfollowed := true, recurses := true, named := ["unicode/utf8.first", "unicode/utf8.acceptRanges", "internal/bytealg.MaxLen"], apart := false, laid := [("unicode/utf8.acceptRanges", laid_unicode_utf8_acceptRanges), ("unicode/utf8.first", laid_unicode_utf8_first)], narrowed := true }
def FnExactOpenMovesUptoSaid : Prop := fnExactOpenMovesUptoRow.holds Tryd.pinned (OpenSpec.upto fnExactOpenMovesSpec)

end Rows
end Go.Proofs.YtikpbmgbemcheaaDoor
