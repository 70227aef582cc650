/-
  NARROWER THAN 'FOR EVERY INPUT', by the rows' own cells (each row's printed sentence says how): FnExactCanStop: laid · FnExactSquaresReached: laid · FnExactCountRoutes: laid · FnExactFewestToGoal: laid.
  DERIVED. THE GIVEN ROWS OF THIS SEAT. 4 by the template 'for every input the law returns true; each argument reads behind the call as it read before'; 0 by the template 'total and deterministic' (their statements: YtjblefcdihmdbaaDoorTotals.lean).
  GIVEN WITH THE SEED: the statements are not yours to turn. If you find one false, say at which input.
  Laid BY PROGRAM, IN A SANDBOX (cutbox-rows.mjs): the forced cells as the released guide's own fill.sh prints them over the translation 0600a3ca79bceb5b… (all of the seat's roots in one cut). By AI agents, Wed Nov 11 2026. No macro, syntax, notation, axiom, sorry.
-/
import Derived.Test.YtjblefcdihmdbaaDoorChecked
import GoSem.PinnedTables
import GoSem.Claim
import GoSem.ClaimJoined
import GoSem.ClaimMapViews
import Derived.JoinedTies
import Derived.KernelRfl
namespace Go.Proofs.YtjblefcdihmdbaaDoor
/- THE CELL 'sum', in the pinned program and in every row, IS THE sha256 OF THE DUMP (.gsa) THAT YtjblefcdihmdbaaDoorProg.lean LOADS. Nothing in Lean hashes anything: it is a label: what it is worth is what the hold of that sum in a sandbox is worth. -/
noncomputable def Tryd.pinned : Pinned := { name := "ytjblefcdihmdbaadoor", sum := "0600a3ca79bceb5bbb5d917535029b38cf446e1336710714c7def997d08d7b2e", checked := Tryd.checked }
namespace Rows
def none {H : Type} : Left H := { results := [], args := [] }

/- WHAT THE LISTED PACKAGE-LEVEL VARIABLES READ AS WHEN THE CALL BEGINS. Each datum BY PROGRAM (the guide's laid-datum.mjs) off the statement by which the dump's own 'gosem.cut.vars' lays the variable. In a bare row this is a premise. The card (YtjblefcdihmdbaaDoorCards.lean) ties it to the program's text. -/
def laid_unicode_utf8_acceptRanges {H : Type} : DataW H := .agg [.agg [.lit (.int .u8 128), .lit (.int .u8 191)], .agg [.lit (.int .u8 160), .lit (.int .u8 191)], .agg [.lit (.int .u8 128), .lit (.int .u8 159)], .agg [.lit (.int .u8 144), .lit (.int .u8 191)], .agg [.lit (.int .u8 128), .lit (.int .u8 143)], .agg [.lit (.int .u8 0), .lit (.int .u8 0)], .agg [.lit (.int .u8 0), .lit (.int .u8 0)], .agg [.lit (.int .u8 0), .lit (.int .u8 0)], .agg [.lit (.int .u8 0), .lit (.int .u8 0)], .agg [.lit (.int .u8 0), .lit (.int .u8 0)], .agg [.lit (.int .u8 0), .lit (.int .u8 0)], .agg [.lit (.int .u8 0), .lit (.int .u8 0)], .agg [.lit (.int .u8 0), .lit (.int .u8 0)], .agg [.lit (.int .u8 0), .lit (.int .u8 0)], .agg [.lit (.int .u8 0), .lit (.int .u8 0)], .agg [.lit (.int .u8 0), .lit (.int .u8 0)]]
/-- One of Go's own tables, pinned by name: the form's constant. -/
def laid_unicode_utf8_first : DataW Unit := Go.Pinned.utf8First

/-- 'laws.FnExactCanStop': WHATEVER THE INPUT: true; the input reads as it did. -/
def fnExactCanStopSpec : ChangeSpec := { name := "fnExactCanStop", fn := fun _ => fun
  | [d1, d2] => { results := [.lit (.bool true)], args := [d1, d2] }
  | _ => none }
def fnExactCanStopRow : OpenClaim := { program := "ytjblefcdihmdbaadoor", sum := "0600a3ca79bceb5bbb5d917535029b38cf446e1336710714c7def997d08d7b2e", func := "loop.example/g01388/laws.FnExactCanStop", spec := "fnExactCanStop", inPlace := ["internal/abi.NoEscape", "internal/bytealg.MakeNoZero", "internal/bytealg.IndexByteString", "internal/bytealg.IndexString", "internal/bytealg.CountString"], unfollowed := true, recurses := true, named := ["unicode/utf8.first", "unicode/utf8.acceptRanges", "internal/bytealg.MaxLen"], plainKeys := false, apart := false, laid := [("unicode/utf8.acceptRanges", laid_unicode_utf8_acceptRanges), ("unicode/utf8.first", laid_unicode_utf8_first)] }
def FnExactCanStopSaid : Prop := fnExactCanStopRow.holds Tryd.pinned (OpenSpec.ofChange fnExactCanStopSpec)

/-- ITS FALSE NEIGHBOUR: 'it returns false'. Refute it at one input. -/
def fnExactCanStopWrong : ChangeSpec := { name := "fnExactCanStop", fn := fun _ => fun
  | [d1, d2] => { results := [.lit (.bool false)], args := [d1, d2] }
  | _ => none }
def FnExactCanStopWrongFalsely : Prop := fnExactCanStopRow.holds Tryd.pinned (OpenSpec.ofChange fnExactCanStopWrong)

/-- 'laws.FnExactSquaresReached': WHATEVER THE INPUT: true; the input reads as it did. -/
def fnExactSquaresReachedSpec : ChangeSpec := { name := "fnExactSquaresReached", fn := fun _ => fun
  | [d1, d2] => { results := [.lit (.bool true)], args := [d1, d2] }
  | _ => none }
def fnExactSquaresReachedRow : OpenClaim := { program := "ytjblefcdihmdbaadoor", sum := "0600a3ca79bceb5bbb5d917535029b38cf446e1336710714c7def997d08d7b2e", func := "loop.example/g01388/laws.FnExactSquaresReached", spec := "fnExactSquaresReached", inPlace := ["internal/abi.NoEscape", "internal/bytealg.MakeNoZero", "internal/bytealg.IndexByteString", "internal/bytealg.IndexString", "internal/bytealg.CountString"], unfollowed := true, recurses := true, named := ["unicode/utf8.first", "unicode/utf8.acceptRanges", "internal/bytealg.MaxLen"], plainKeys := false, apart := false, laid := [("unicode/utf8.acceptRanges", laid_unicode_utf8_acceptRanges), ("unicode/utf8.first", laid_unicode_utf8_first)] }
def FnExactSquaresReachedSaid : Prop := fnExactSquaresReachedRow.holds Tryd.pinned (OpenSpec.ofChange fnExactSquaresReachedSpec)

/-- ITS FALSE NEIGHBOUR: 'it returns false'. Refute it at one input. -/
def fnExactSquaresReachedWrong : ChangeSpec := { name := "fnExactSquaresReached", fn := fun _ => fun
  | [d1, d2] => { results := [.lit (.bool false)], args := [d1, d2] }
  | _ => none }
def FnExactSquaresReachedWrongFalsely : Prop := fnExactSquaresReachedRow.holds Tryd.pinned (OpenSpec.ofChange fnExactSquaresReachedWrong)

/-- 'laws.FnExactCountRoutes': WHATEVER THE INPUT: true; the input reads as it did. -/
def fnExactCountRoutesSpec : ChangeSpec := { name := "fnExactCountRoutes", fn := fun _ => fun
  | [d1, d2] => { results := [.lit (.bool true)], args := [d1, d2] }
  | _ => none }
def fnExactCountRoutesRow : OpenClaim := { program := "ytjblefcdihmdbaadoor", sum := "0600a3ca79bceb5bbb5d917535029b38cf446e1336710714c7def997d08d7b2e", func := "loop.example/g01388/laws.FnExactCountRoutes", spec := "fnExactCountRoutes", inPlace := ["internal/abi.NoEscape", "internal/bytealg.MakeNoZero", "internal/bytealg.IndexByteString", "internal/bytealg.IndexString", "internal/bytealg.CountString"], unfollowed := true, recurses := true, named := ["unicode/utf8.first", "unicode/utf8.acceptRanges", "internal/bytealg.MaxLen"], plainKeys := false, apart := false, laid := [("unicode/utf8.acceptRanges", laid_unicode_utf8_acceptRanges), ("unicode/utf8.first", laid_unicode_utf8_first)] }
def FnExactCountRoutesSaid : Prop := fnExactCountRoutesRow.holds Tryd.pinned (OpenSpec.ofChange fnExactCountRoutesSpec)

/-- ITS FALSE NEIGHBOUR: 'it returns false'. Refute it at one input. -/
def fnExactCountRoutesWrong : ChangeSpec := { name := "fnExactCountRoutes", fn := fun _ => fun
  | [d1, d2] => { results := [.lit (.bool false)], args := [d1, d2] }
  | _ => none }
def FnExactCountRoutesWrongFalsely : Prop := fnExactCountRoutesRow.holds Tryd.pinned (OpenSpec.ofChange fnExactCountRoutesWrong)

/-- 'laws.FnExactFewestToGoal': WHATEVER THE INPUT: true; the input reads as it did. -/
def fnExactFewestToGoalSpec : ChangeSpec := { name := "fnExactFewestToGoal", fn := fun _ => fun
  | [d] => { results := [.lit (.bool true)], args := [d] }
  | _ => none }
def fnExactFewestToGoalRow : OpenClaim := { program := "ytjblefcdihmdbaadoor", sum := "0600a3ca79bceb5bbb5d917535029b38cf446e1336710714c7def997d08d7b2e", func := "loop.example/g01388/laws.FnExactFewestToGoal", spec := "fnExactFewestToGoal", inPlace := ["internal/abi.NoEscape", "internal/bytealg.MakeNoZero", "internal/bytealg.IndexByteString", "internal/bytealg.IndexString", "internal/bytealg.CountString"], unfollowed := true, recurses := true, named := ["unicode/utf8.first", "unicode/utf8.acceptRanges", "internal/bytealg.MaxLen"], plainKeys := false, apart := false, laid := [("unicode/utf8.acceptRanges", laid_unicode_utf8_acceptRanges), ("unicode/utf8.first", laid_unicode_utf8_first)] }
def FnExactFewestToGoalSaid : Prop := fnExactFewestToGoalRow.holds Tryd.pinned (OpenSpec.ofChange fnExactFewestToGoalSpec)

/-- ITS FALSE NEIGHBOUR: 'it returns false'. Refute it at one input. -/
def fnExactFewestToGoalWrong : ChangeSpec := { name := "fnExactFewestToGoal", fn := fun _ => fun
  | [d] => { results := [.lit (.bool false)], args := [d] }
  | _ => none }
def FnExactFewestToGoalWrongFalsely : Prop := fnExactFewestToGoalRow.holds Tryd.pinned (OpenSpec.ofChange fnExactFewestToGoalWrong)

/- THE SECOND FORM. 'bulk': how many values and letters a reading holds, each counted each time it is reached (what is shared counts as often as it is met; a slice's spare places count too). A statement '..UptoSaid' is the law's where the arguments, and the package variables that the reading takes, are together of bulk at most 1048576: NARROWER than '..Said'. Prove '..Said' where nothing that the law and all that it calls make is longer than what came in: it says more and counts as full. Else prove '..UptoSaid'. A law counts once. -/
mutual
def uptoBulk {H : Type} : DataW H → Nat
  | .lit (.string bytes) => bytes.length + 1
  | .lit _ => 1
  | .nil => 1
  | .ptr d => uptoBulk d + 1
  | .slice elems spare => uptoBulkAll elems + uptoBulkAll spare + 1
  | .agg parts => uptoBulkAll parts + 1
  | .iface _ d => uptoBulk d + 1
  | .map entries => uptoBulkEntries entries + 1
  | .held _ => 1
def uptoBulkAll {H : Type} : List (DataW H) → Nat
  | [] => 0
  | d :: r => uptoBulk d + uptoBulkAll r
def uptoBulkEntries {H : Type} : List (Lit × DataW H) → Nat
  | [] => 0
  | x :: r => uptoBulkEntry x + uptoBulkEntries r
def uptoBulkEntry {H : Type} : Lit × DataW H → Nat
  | (.string bytes, d) => bytes.length + uptoBulk d + 1
  | (_, d) => uptoBulk d + 1
 end
def uptoSmall : (H : Type) → List (DataW H) → Bool := fun _ ds => decide (uptoBulkAll ds ≤ 1048576)
def OpenSpec.upto (s : _root_.Go.ChangeSpec) : _root_.Go.OpenSpec := { _root_.Go.OpenSpec.ofChange s with cond := some uptoSmall }

/-- 'laws.FnExactCanStop', WHERE WHAT IT READS IS OF BULK AT MOST 1048576: true; the input reads as it did. -/
def fnExactCanStopUptoRow : OpenClaim := { program := "ytjblefcdihmdbaadoor", sum := "0600a3ca79bceb5bbb5d917535029b38cf446e1336710714c7def997d08d7b2e", func := "loop.example/g01388/laws.FnExactCanStop", spec := "fnExactCanStop", inPlace := ["internal/abi.NoEscape", "internal/bytealg.MakeNoZero", "internal/bytealg.IndexByteString", "internal/bytealg.IndexString", "internal/bytealg.CountString"], unfollowed := true, recurses := true, named := ["unicode/utf8.first", "unicode/utf8.acceptRanges", "internal/bytealg.MaxLen"], plainKeys := false, apart := false, laid := [("unicode/utf8.acceptRanges", laid_unicode_utf8_acceptRanges), ("unicode/utf8.first", laid_unicode_utf8_first)], narrowed := true }
def FnExactCanStopUptoSaid : Prop := fnExactCanStopUptoRow.holds Tryd.pinned (OpenSpec.upto fnExactCanStopSpec)

/-- 'laws.FnExactSquaresReached', WHERE WHAT IT READS IS OF BULK AT MOST 1048576: true; the input reads as it did. -/
def fnExactSquaresReachedUptoRow : OpenClaim := { program := "ytjblefcdihmdbaadoor", sum := "0600a3ca79bceb5bbb5d917535029b38cf446e1336710714c7def997d08d7b2e", func := "loop.example/g01388/laws.FnExactSquaresReached", spec := "fnExactSquaresReached", inPlace := ["internal/abi.NoEscape", "internal/bytealg.MakeNoZero", "internal/bytealg.IndexByteString", "internal/bytealg.IndexString", "internal/bytealg.CountString"], unfollowed := true, recurses := true, named := ["unicode/utf8.first", "unicode/utf8.acceptRanges", "internal/bytealg.MaxLen"], plainKeys := false, apart := false, laid := [("unicode/utf8.acceptRanges", laid_unicode_utf8_acceptRanges), ("unicode/utf8.first", laid_unicode_utf8_first)], narrowed := true }
def FnExactSquaresReachedUptoSaid : Prop := fnExactSquaresReachedUptoRow.holds Tryd.pinned (OpenSpec.upto fnExactSquaresReachedSpec)

/-- 'laws.FnExactCountRoutes', WHERE WHAT IT READS IS OF BULK AT MOST 1048576: true; the input reads as it did. -/
def fnExactCountRoutesUptoRow : OpenClaim := { program := "ytjblefcdihmdbaadoor", sum := "0600a3ca79bceb5bbb5d917535029b38cf446e1336710714c7def997d08d7b2e", func := "loop.example/g01388/laws.FnExactCountRoutes", spec := "fnExactCountRoutes", inPlace := ["internal/abi.NoEscape", "internal/bytealg.MakeNoZero", "internal/bytealg.IndexByteString", "internal/bytealg.IndexString", "internal/bytealg.CountString"], unfollowed := true, recurses := true, named := ["unicode/utf8.first", "unicode/utf8.acceptRanges", "internal/bytealg.MaxLen"], plainKeys := false, apart := false, laid := [("unicode/utf8.acceptRanges", laid_unicode_utf8_acceptRanges), ("unicode/utf8.first", laid_unicode_utf8_first)], narrowed := true }
def FnExactCountRoutesUptoSaid : Prop := fnExactCountRoutesUptoRow.holds Tryd.pinned (OpenSpec.upto fnExactCountRoutesSpec)

/-- 'laws.FnExactFewestToGoal', WHERE WHAT IT READS IS OF BULK AT MOST 1048576: true; the input reads as it did. -/
def fnExactFewestToGoalUptoRow : OpenClaim := { program := "ytjblefcdihmdbaadoor", sum := "0600a3ca79bceb5bbb5d917535029b38cf446e1336710714c7def997d08d7b2e", func := "loop.example/g01388/laws.FnExactFewestToGoal", spec := "fnExactFewestToGoal", inPlace := ["internal/abi.NoEscape", "internal/bytealg.MakeNoZero", "internal/bytealg.IndexByteString", "internal/bytealg.IndexString", "internal/bytealg.CountString"], unfollowed := true, recurses := true, named := ["unicode/utf8.first", "unicode/utf8.acceptRanges", "internal/bytealg.MaxLen"], plainKeys := false, apart := false, laid := [("unicode/utf8.acceptRanges", laid_unicode_utf8_acceptRanges), ("unicode/utf8.first", laid_unicode_utf8_first)], narrowed := true }
def FnExactFewestToGoalUptoSaid : Prop := fnExactFewestToGoalUptoRow.holds Tryd.pinned (OpenSpec.upto fnExactFewestToGoalSpec)

end Rows
end Go.Proofs.YtjblefcdihmdbaaDoor
