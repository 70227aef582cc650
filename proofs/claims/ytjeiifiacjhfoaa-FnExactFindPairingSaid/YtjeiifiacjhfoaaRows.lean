/-
  No cell of these rows narrows 'for every input' (looked for: loops, veiled, ifaces, maps, wideKeys, modest, calm, conditions, laid).
  DERIVED. THE GIVEN ROWS OF THIS SEAT. 12 by the template 'for every input the law returns true; each argument reads behind the call as it read before'; 0 by the template 'total and deterministic' (their statements: YtjeiifiacjhfoaaTotals.lean).
  GIVEN WITH THE SEED: the statements are not yours to turn. If you find one false, say at which input.
  Laid BY PROGRAM, IN A SANDBOX (cutbox-rows.mjs): the forced cells as the released guide's own fill.sh prints them over the translation 9ff7d0b4d1264ec8… (all of the seat's roots in one cut). By AI agents, Wed Nov 11 2026. No macro, syntax, notation, axiom, sorry.
-/
import Derived.Test.YtjeiifiacjhfoaaChecked
import GoSem.Claim
import GoSem.ClaimJoined
import GoSem.ClaimMapViews
import Derived.JoinedTies
import Derived.KernelRfl
namespace Go.Proofs.Ytjeiifiacjhfoaa
/- THE CELL 'sum', in the pinned program and in every row, IS THE sha256 OF THE DUMP (.gsa) THAT YtjeiifiacjhfoaaProg.lean LOADS. Nothing in Lean hashes anything: it is a label: what it is worth is what the hold of that sum in a sandbox is worth. -/
noncomputable def Try.pinned : Pinned := { name := "ytjeiifiacjhfoaa", sum := "9ff7d0b4d1264ec84cd516a85b67ef6786405b11415c73c60f92cde6c68c5101", checked := Try.checked }
namespace Rows
def none {H : Type} : Left H := { results := [], args := [] }

/-- 'laws.FnExactIsBoard': WHATEVER THE INPUT: true; the input reads as it did. -/
def fnExactIsBoardSpec : ChangeSpec := { name := "fnExactIsBoard", fn := fun _ => fun
  | [d] => { results := [.lit (.bool true)], args := [d] }
  | _ => none }
def fnExactIsBoardRow : OpenClaim := { program := "ytjeiifiacjhfoaa", sum := "9ff7d0b4d1264ec84cd516a85b67ef6786405b11415c73c60f92cde6c68c5101", func := "loop.example/g01388/laws.FnExactIsBoard", spec := "fnExactIsBoard", plainKeys := false, apart := false }
def FnExactIsBoardSaid : Prop := fnExactIsBoardRow.holds Try.pinned (OpenSpec.ofChange fnExactIsBoardSpec)

/-- ITS FALSE NEIGHBOUR: 'it returns false'. Refute it at one input. -/
def fnExactIsBoardWrong : ChangeSpec := { name := "fnExactIsBoard", fn := fun _ => fun
  | [d] => { results := [.lit (.bool false)], args := [d] }
  | _ => none }
def FnExactIsBoardWrongFalsely : Prop := fnExactIsBoardRow.holds Try.pinned (OpenSpec.ofChange fnExactIsBoardWrong)

/-- 'laws.FnExactWeightOf': WHATEVER THE INPUT: true; the input reads as it did. -/
def fnExactWeightOfSpec : ChangeSpec := { name := "fnExactWeightOf", fn := fun _ => fun
  | [d] => { results := [.lit (.bool true)], args := [d] }
  | _ => none }
def fnExactWeightOfRow : OpenClaim := { program := "ytjeiifiacjhfoaa", sum := "9ff7d0b4d1264ec84cd516a85b67ef6786405b11415c73c60f92cde6c68c5101", func := "loop.example/g01388/laws.FnExactWeightOf", spec := "fnExactWeightOf", plainKeys := false, apart := false }
def FnExactWeightOfSaid : Prop := fnExactWeightOfRow.holds Try.pinned (OpenSpec.ofChange fnExactWeightOfSpec)

/-- ITS FALSE NEIGHBOUR: 'it returns false'. Refute it at one input. -/
def fnExactWeightOfWrong : ChangeSpec := { name := "fnExactWeightOf", fn := fun _ => fun
  | [d] => { results := [.lit (.bool false)], args := [d] }
  | _ => none }
def FnExactWeightOfWrongFalsely : Prop := fnExactWeightOfRow.holds Try.pinned (OpenSpec.ofChange fnExactWeightOfWrong)

/-- 'laws.FnExactIsState': WHATEVER THE INPUT: true; the input reads as it did. -/
def fnExactIsStateSpec : ChangeSpec := { name := "fnExactIsState", fn := fun _ => fun
  | [d1, d2, d3] => { results := [.lit (.bool true)], args := [d1, d2, d3] }
  | _ => none }
def fnExactIsStateRow : OpenClaim := { program := "ytjeiifiacjhfoaa", sum := "9ff7d0b4d1264ec84cd516a85b67ef6786405b11415c73c60f92cde6c68c5101", func := "loop.example/g01388/laws.FnExactIsState", spec := "fnExactIsState", plainKeys := false, apart := false }
def FnExactIsStateSaid : Prop := fnExactIsStateRow.holds Try.pinned (OpenSpec.ofChange fnExactIsStateSpec)

/-- ITS FALSE NEIGHBOUR: 'it returns false'. Refute it at one input. -/
def fnExactIsStateWrong : ChangeSpec := { name := "fnExactIsState", fn := fun _ => fun
  | [d1, d2, d3] => { results := [.lit (.bool false)], args := [d1, d2, d3] }
  | _ => none }
def FnExactIsStateWrongFalsely : Prop := fnExactIsStateRow.holds Try.pinned (OpenSpec.ofChange fnExactIsStateWrong)

/-- 'laws.FnExactLeastMeeting': WHATEVER THE INPUT: true; the input reads as it did. -/
def fnExactLeastMeetingSpec : ChangeSpec := { name := "fnExactLeastMeeting", fn := fun _ => fun
  | [d] => { results := [.lit (.bool true)], args := [d] }
  | _ => none }
def fnExactLeastMeetingRow : OpenClaim := { program := "ytjeiifiacjhfoaa", sum := "9ff7d0b4d1264ec84cd516a85b67ef6786405b11415c73c60f92cde6c68c5101", func := "loop.example/g01388/laws.FnExactLeastMeeting", spec := "fnExactLeastMeeting", unfollowed := true, recurses := true, plainKeys := false, apart := false }
def FnExactLeastMeetingSaid : Prop := fnExactLeastMeetingRow.holds Try.pinned (OpenSpec.ofChange fnExactLeastMeetingSpec)

/-- ITS FALSE NEIGHBOUR: 'it returns false'. Refute it at one input. -/
def fnExactLeastMeetingWrong : ChangeSpec := { name := "fnExactLeastMeeting", fn := fun _ => fun
  | [d] => { results := [.lit (.bool false)], args := [d] }
  | _ => none }
def FnExactLeastMeetingWrongFalsely : Prop := fnExactLeastMeetingRow.holds Try.pinned (OpenSpec.ofChange fnExactLeastMeetingWrong)

/-- 'laws.FnExactLinesThrough': WHATEVER THE INPUT: true; the input reads as it did. -/
def fnExactLinesThroughSpec : ChangeSpec := { name := "fnExactLinesThrough", fn := fun _ => fun
  | [d1, d2] => { results := [.lit (.bool true)], args := [d1, d2] }
  | _ => none }
def fnExactLinesThroughRow : OpenClaim := { program := "ytjeiifiacjhfoaa", sum := "9ff7d0b4d1264ec84cd516a85b67ef6786405b11415c73c60f92cde6c68c5101", func := "loop.example/g01388/laws.FnExactLinesThrough", spec := "fnExactLinesThrough", unfollowed := true, recurses := true, plainKeys := false, apart := false }
def FnExactLinesThroughSaid : Prop := fnExactLinesThroughRow.holds Try.pinned (OpenSpec.ofChange fnExactLinesThroughSpec)

/-- ITS FALSE NEIGHBOUR: 'it returns false'. Refute it at one input. -/
def fnExactLinesThroughWrong : ChangeSpec := { name := "fnExactLinesThrough", fn := fun _ => fun
  | [d1, d2] => { results := [.lit (.bool false)], args := [d1, d2] }
  | _ => none }
def FnExactLinesThroughWrongFalsely : Prop := fnExactLinesThroughRow.holds Try.pinned (OpenSpec.ofChange fnExactLinesThroughWrong)

/-- 'laws.FnExactFilledLine': WHATEVER THE INPUT: true; the input reads as it did. -/
def fnExactFilledLineSpec : ChangeSpec := { name := "fnExactFilledLine", fn := fun _ => fun
  | [d1, d2, d3] => { results := [.lit (.bool true)], args := [d1, d2, d3] }
  | _ => none }
def fnExactFilledLineRow : OpenClaim := { program := "ytjeiifiacjhfoaa", sum := "9ff7d0b4d1264ec84cd516a85b67ef6786405b11415c73c60f92cde6c68c5101", func := "loop.example/g01388/laws.FnExactFilledLine", spec := "fnExactFilledLine", plainKeys := false, apart := false }
def FnExactFilledLineSaid : Prop := fnExactFilledLineRow.holds Try.pinned (OpenSpec.ofChange fnExactFilledLineSpec)

/-- ITS FALSE NEIGHBOUR: 'it returns false'. Refute it at one input. -/
def fnExactFilledLineWrong : ChangeSpec := { name := "fnExactFilledLine", fn := fun _ => fun
  | [d1, d2, d3] => { results := [.lit (.bool false)], args := [d1, d2, d3] }
  | _ => none }
def FnExactFilledLineWrongFalsely : Prop := fnExactFilledLineRow.holds Try.pinned (OpenSpec.ofChange fnExactFilledLineWrong)

/-- 'laws.FnExactFindPairing': WHATEVER THE INPUT: true; the input reads as it did. -/
def fnExactFindPairingSpec : ChangeSpec := { name := "fnExactFindPairing", fn := fun _ => fun
  | [d] => { results := [.lit (.bool true)], args := [d] }
  | _ => none }
def fnExactFindPairingRow : OpenClaim := { program := "ytjeiifiacjhfoaa", sum := "9ff7d0b4d1264ec84cd516a85b67ef6786405b11415c73c60f92cde6c68c5101", func := "loop.example/g01388/laws.FnExactFindPairing", spec := "fnExactFindPairing", unfollowed := true, recurses := true, plainKeys := false, apart := false }
def FnExactFindPairingSaid : Prop := fnExactFindPairingRow.holds Try.pinned (OpenSpec.ofChange fnExactFindPairingSpec)

/-- ITS FALSE NEIGHBOUR: 'it returns false'. Refute it at one input. -/
def fnExactFindPairingWrong : ChangeSpec := { name := "fnExactFindPairing", fn := fun _ => fun
  | [d] => { results := [.lit (.bool false)], args := [d] }
  | _ => none }
def FnExactFindPairingWrongFalsely : Prop := fnExactFindPairingRow.holds Try.pinned (OpenSpec.ofChange fnExactFindPairingWrong)

/-- 'laws.FnExactMakerWins': WHATEVER THE INPUT: true; the input reads as it did. -/
def fnExactMakerWinsSpec : ChangeSpec := { name := "fnExactMakerWins", fn := fun _ => fun
  | [d] => { results := [.lit (.bool true)], args := [d] }
  | _ => none }
def fnExactMakerWinsRow : OpenClaim := { program := "ytjeiifiacjhfoaa", sum := "9ff7d0b4d1264ec84cd516a85b67ef6786405b11415c73c60f92cde6c68c5101", func := "loop.example/g01388/laws.FnExactMakerWins", spec := "fnExactMakerWins", unfollowed := true, recurses := true, plainKeys := false, apart := false }
def FnExactMakerWinsSaid : Prop := fnExactMakerWinsRow.holds Try.pinned (OpenSpec.ofChange fnExactMakerWinsSpec)

/-- ITS FALSE NEIGHBOUR: 'it returns false'. Refute it at one input. -/
def fnExactMakerWinsWrong : ChangeSpec := { name := "fnExactMakerWins", fn := fun _ => fun
  | [d] => { results := [.lit (.bool false)], args := [d] }
  | _ => none }
def FnExactMakerWinsWrongFalsely : Prop := fnExactMakerWinsRow.holds Try.pinned (OpenSpec.ofChange fnExactMakerWinsWrong)

/-- 'laws.FnExactRaceResult': WHATEVER THE INPUT: true; the input reads as it did. -/
def fnExactRaceResultSpec : ChangeSpec := { name := "fnExactRaceResult", fn := fun _ => fun
  | [d1, d2, d3] => { results := [.lit (.bool true)], args := [d1, d2, d3] }
  | _ => none }
def fnExactRaceResultRow : OpenClaim := { program := "ytjeiifiacjhfoaa", sum := "9ff7d0b4d1264ec84cd516a85b67ef6786405b11415c73c60f92cde6c68c5101", func := "loop.example/g01388/laws.FnExactRaceResult", spec := "fnExactRaceResult", unfollowed := true, recurses := true, plainKeys := false, apart := false }
def FnExactRaceResultSaid : Prop := fnExactRaceResultRow.holds Try.pinned (OpenSpec.ofChange fnExactRaceResultSpec)

/-- ITS FALSE NEIGHBOUR: 'it returns false'. Refute it at one input. -/
def fnExactRaceResultWrong : ChangeSpec := { name := "fnExactRaceResult", fn := fun _ => fun
  | [d1, d2, d3] => { results := [.lit (.bool false)], args := [d1, d2, d3] }
  | _ => none }
def FnExactRaceResultWrongFalsely : Prop := fnExactRaceResultRow.holds Try.pinned (OpenSpec.ofChange fnExactRaceResultWrong)

/-- 'laws.FnExactPlayRace': WHATEVER THE INPUT: true; the input reads as it did. -/
def fnExactPlayRaceSpec : ChangeSpec := { name := "fnExactPlayRace", fn := fun _ => fun
  | [d] => { results := [.lit (.bool true)], args := [d] }
  | _ => none }
def fnExactPlayRaceRow : OpenClaim := { program := "ytjeiifiacjhfoaa", sum := "9ff7d0b4d1264ec84cd516a85b67ef6786405b11415c73c60f92cde6c68c5101", func := "loop.example/g01388/laws.FnExactPlayRace", spec := "fnExactPlayRace", unfollowed := true, recurses := true, plainKeys := false, apart := false }
def FnExactPlayRaceSaid : Prop := fnExactPlayRaceRow.holds Try.pinned (OpenSpec.ofChange fnExactPlayRaceSpec)

/-- ITS FALSE NEIGHBOUR: 'it returns false'. Refute it at one input. -/
def fnExactPlayRaceWrong : ChangeSpec := { name := "fnExactPlayRace", fn := fun _ => fun
  | [d] => { results := [.lit (.bool false)], args := [d] }
  | _ => none }
def FnExactPlayRaceWrongFalsely : Prop := fnExactPlayRaceRow.holds Try.pinned (OpenSpec.ofChange fnExactPlayRaceWrong)

/-- 'laws.FnExactBestNodes': WHATEVER THE INPUT: true; the input reads as it did. -/
def fnExactBestNodesSpec : ChangeSpec := { name := "fnExactBestNodes", fn := fun _ => fun
  | [d1, d2, d3] => { results := [.lit (.bool true)], args := [d1, d2, d3] }
  | _ => none }
def fnExactBestNodesRow : OpenClaim := { program := "ytjeiifiacjhfoaa", sum := "9ff7d0b4d1264ec84cd516a85b67ef6786405b11415c73c60f92cde6c68c5101", func := "loop.example/g01388/laws.FnExactBestNodes", spec := "fnExactBestNodes", unfollowed := true, recurses := true, plainKeys := false, apart := false }
def FnExactBestNodesSaid : Prop := fnExactBestNodesRow.holds Try.pinned (OpenSpec.ofChange fnExactBestNodesSpec)

/-- ITS FALSE NEIGHBOUR: 'it returns false'. Refute it at one input. -/
def fnExactBestNodesWrong : ChangeSpec := { name := "fnExactBestNodes", fn := fun _ => fun
  | [d1, d2, d3] => { results := [.lit (.bool false)], args := [d1, d2, d3] }
  | _ => none }
def FnExactBestNodesWrongFalsely : Prop := fnExactBestNodesRow.holds Try.pinned (OpenSpec.ofChange fnExactBestNodesWrong)

/-- 'laws.FnExactGridBoard': WHATEVER THE INPUT: true; the input reads as it did. -/
def fnExactGridBoardSpec : ChangeSpec := { name := "fnExactGridBoard", fn := fun _ => fun
  | [d1, d2, d3] => { results := [.lit (.bool true)], args := [d1, d2, d3] }
  | _ => none }
def fnExactGridBoardRow : OpenClaim := { program := "ytjeiifiacjhfoaa", sum := "9ff7d0b4d1264ec84cd516a85b67ef6786405b11415c73c60f92cde6c68c5101", func := "loop.example/g01388/laws.FnExactGridBoard", spec := "fnExactGridBoard", recurses := true, plainKeys := false, apart := false }
def FnExactGridBoardSaid : Prop := fnExactGridBoardRow.holds Try.pinned (OpenSpec.ofChange fnExactGridBoardSpec)

/-- ITS FALSE NEIGHBOUR: 'it returns false'. Refute it at one input. -/
def fnExactGridBoardWrong : ChangeSpec := { name := "fnExactGridBoard", fn := fun _ => fun
  | [d1, d2, d3] => { results := [.lit (.bool false)], args := [d1, d2, d3] }
  | _ => none }
def FnExactGridBoardWrongFalsely : Prop := fnExactGridBoardRow.holds Try.pinned (OpenSpec.ofChange fnExactGridBoardWrong)

/- THE SECOND FORM. 'bulk': how many values and letters a reading holds, each counted each time it is reached (what is shared counts as often as it is met; a slice's spare places count too). A statement '..UptoSaid' is the law's where the arguments, and the package variables that the reading takes, are together of bulk at most 1048576: NARROWER than '..Said'. Prove '..Said' where nothing that the law and all that it calls make is longer than what came in: it says more and counts as full. Else prove '..UptoSaid'. A law counts once. -/
mutual
def uptoBulk {H : Type} : DataW H → Nat
  | .lit (.string bytes) => bytes.length + 1
  | .lit _ => 1
  | .nil => 1
  | .ptr d => uptoBulk d + 1
  | .slice elems spare => uptoBulkAll elems + uptoBulkAll spare + 1
  | .agg parts => uptoBulkAll parts + 1
  | .iface _ d => uptoBulk d + 1
  | .map entries => uptoBulkEntries entries + 1
  | .held _ => 1
def uptoBulkAll {H : Type} : List (DataW H) → Nat
  | [] => 0
  | d :: r => uptoBulk d + uptoBulkAll r
def uptoBulkEntries {H : Type} : List (Lit × DataW H) → Nat
  | [] => 0
  | x :: r => uptoBulkEntry x + uptoBulkEntries r
def uptoBulkEntry {H : Type} : Lit × DataW H → Nat
  | (.string bytes, d) => bytes.length + uptoBulk d + 1
  | (_, d) => uptoBulk d + 1
 end
def uptoSmall : (H : Type) → List (DataW H) → Bool := fun _ ds => decide (uptoBulkAll ds ≤ 1048576)
def OpenSpec.upto (s : _root_.Go.ChangeSpec) : _root_.Go.OpenSpec := { _root_.Go.OpenSpec.ofChange s with cond := some uptoSmall }

/-- 'laws.FnExactIsBoard', WHERE WHAT IT READS IS OF BULK AT MOST 1048576: true; the input reads as it did. -/
def fnExactIsBoardUptoRow : OpenClaim := { program := "ytjeiifiacjhfoaa", sum := "9ff7d0b4d1264ec84cd516a85b67ef6786405b11415c73c60f92cde6c68c5101", func := "loop.example/g01388/laws.FnExactIsBoard", spec := "fnExactIsBoard", plainKeys := false, apart := false, narrowed := true }
def FnExactIsBoardUptoSaid : Prop := fnExactIsBoardUptoRow.holds Try.pinned (OpenSpec.upto fnExactIsBoardSpec)

/-- 'laws.FnExactWeightOf', WHERE WHAT IT READS IS OF BULK AT MOST 1048576: true; the input reads as it did. -/
def fnExactWeightOfUptoRow : OpenClaim := { program := "ytjeiifiacjhfoaa", sum := "9ff7d0b4d1264ec84cd516a85b67ef6786405b11415c73c60f92cde6c68c5101", func := "loop.example/g01388/laws.FnExactWeightOf", spec := "fnExactWeightOf", plainKeys := false, apart := false, narrowed := true }
def FnExactWeightOfUptoSaid : Prop := fnExactWeightOfUptoRow.holds Try.pinned (OpenSpec.upto fnExactWeightOfSpec)

/-- 'laws.FnExactIsState', WHERE WHAT IT READS IS OF BULK AT MOST 1048576: true; the input reads as it did. -/
def fnExactIsStateUptoRow : OpenClaim := { program := "ytjeiifiacjhfoaa", sum := "9ff7d0b4d1264ec84cd516a85b67ef6786405b11415c73c60f92cde6c68c5101", func := "loop.example/g01388/laws.FnExactIsState", spec := "fnExactIsState", plainKeys := false, apart := false, narrowed := true }
def FnExactIsStateUptoSaid : Prop := fnExactIsStateUptoRow.holds Try.pinned (OpenSpec.upto fnExactIsStateSpec)

/-- 'laws.FnExactLeastMeeting', WHERE WHAT IT READS IS OF BULK AT MOST 1048576: true; the input reads as it did. -/
def fnExactLeastMeetingUptoRow : OpenClaim := { program := "ytjeiifiacjhfoaa", sum := "9ff7d0b4d1264ec84cd516a85b67ef6786405b11415c73c60f92cde6c68c5101", func := "loop.example/g01388/laws.FnExactLeastMeeting", spec := "fnExactLeastMeeting", unfollowed := true, recurses := true, plainKeys := false, apart := false, narrowed := true }
def FnExactLeastMeetingUptoSaid : Prop := fnExactLeastMeetingUptoRow.holds Try.pinned (OpenSpec.upto fnExactLeastMeetingSpec)

/-- 'laws.FnExactLinesThrough', WHERE WHAT IT READS IS OF BULK AT MOST 1048576: true; the input reads as it did. -/
def fnExactLinesThroughUptoRow : OpenClaim := { program := "ytjeiifiacjhfoaa", sum := "9ff7d0b4d1264ec84cd516a85b67ef6786405b11415c73c60f92cde6c68c5101", func := "loop.example/g01388/laws.FnExactLinesThrough", spec := "fnExactLinesThrough", unfollowed := true, recurses := true, plainKeys := false, apart := false, narrowed := true }
def FnExactLinesThroughUptoSaid : Prop := fnExactLinesThroughUptoRow.holds Try.pinned (OpenSpec.upto fnExactLinesThroughSpec)

/-- 'laws.FnExactFilledLine', WHERE WHAT IT READS IS OF BULK AT MOST 1048576: true; the input reads as it did. -/
def fnExactFilledLineUptoRow : OpenClaim := { program := "ytjeiifiacjhfoaa", sum := "9ff7d0b4d1264ec84cd516a85b67ef6786405b11415c73c60f92cde6c68c5101", func := "loop.example/g01388/laws.FnExactFilledLine", spec := "fnExactFilledLine", plainKeys := false, apart := false, narrowed := true }
def FnExactFilledLineUptoSaid : Prop := fnExactFilledLineUptoRow.holds Try.pinned (OpenSpec.upto fnExactFilledLineSpec)

/-- 'laws.FnExactFindPairing', WHERE WHAT IT READS IS OF BULK AT MOST 1048576: true; the input reads as it did. -/
def fnExactFindPairingUptoRow : OpenClaim := { program := "ytjeiifiacjhfoaa", sum := "9ff7d0b4d1264ec84cd516a85b67ef6786405b11415c73c60f92cde6c68c5101", func := "loop.example/g01388/laws.FnExactFindPairing", spec := "fnExactFindPairing", unfollowed := true, recurses := true, plainKeys := false, apart := false, narrowed := true }
def FnExactFindPairingUptoSaid : Prop := fnExactFindPairingUptoRow.holds Try.pinned (OpenSpec.upto fnExactFindPairingSpec)

/-- 'laws.FnExactMakerWins', WHERE WHAT IT READS IS OF BULK AT MOST 1048576: true; the input reads as it did. -/
def fnExactMakerWinsUptoRow : OpenClaim := { program := "ytjeiifiacjhfoaa", sum := "9ff7d0b4d1264ec84cd516a85b67ef6786405b11415c73c60f92cde6c68c5101", func := "loop.example/g01388/laws.FnExactMakerWins", spec := "fnExactMakerWins", unfollowed := true, recurses := true, plainKeys := false, apart := false, narrowed := true }
def FnExactMakerWinsUptoSaid : Prop := fnExactMakerWinsUptoRow.holds Try.pinned (OpenSpec.upto fnExactMakerWinsSpec)

/-- 'laws.FnExactRaceResult', WHERE WHAT IT READS IS OF BULK AT MOST 1048576: true; the input reads as it did. -/
def fnExactRaceResultUptoRow : OpenClaim := { program := "ytjeiifiacjhfoaa", sum := "9ff7d0b4d1264ec84cd516a85b67ef6786405b11415c73c60f92cde6c68c5101", func := "loop.example/g01388/laws.FnExactRaceResult", spec := "fnExactRaceResult", unfollowed := true, recurses := true, plainKeys := false, apart := false, narrowed := true }
def FnExactRaceResultUptoSaid : Prop := fnExactRaceResultUptoRow.holds Try.pinned (OpenSpec.upto fnExactRaceResultSpec)

/-- 'laws.FnExactPlayRace', WHERE WHAT IT READS IS OF BULK AT MOST 1048576: true; the input reads as it did. -/
def fnExactPlayRaceUptoRow : OpenClaim := { program := "ytjeiifiacjhfoaa", sum := "9ff7d0b4d1264ec84cd516a85b67ef6786405b11415c73c60f92cde6c68c5101", func := "loop.example/g01388/laws.FnExactPlayRace", spec := "fnExactPlayRace", unfollowed := true, recurses := true, plainKeys := false, apart := false, narrowed := true }
def FnExactPlayRaceUptoSaid : Prop := fnExactPlayRaceUptoRow.holds Try.pinned (OpenSpec.upto fnExactPlayRaceSpec)

/-- 'laws.FnExactBestNodes', WHERE WHAT IT READS IS OF BULK AT MOST 1048576: true; the input reads as it did. -/
def fnExactBestNodesUptoRow : OpenClaim := { program := "ytjeiifiacjhfoaa", sum := "9ff7d0b4d1264ec84cd516a85b67ef6786405b11415c73c60f92cde6c68c5101", func := "loop.example/g01388/laws.FnExactBestNodes", spec := "fnExactBestNodes", unfollowed := true, recurses := true, plainKeys := false, apart := false, narrowed := true }
def FnExactBestNodesUptoSaid : Prop := fnExactBestNodesUptoRow.holds Try.pinned (OpenSpec.upto fnExactBestNodesSpec)

/-- 'laws.FnExactGridBoard', WHERE WHAT IT READS IS OF BULK AT MOST 1048576: true; the input reads as it did. -/
def fnExactGridBoardUptoRow : OpenClaim := { program := "ytjeiifiacjhfoaa", sum := "9ff7d0b4d1264ec84cd516a85b67ef6786405b11415c73c60f92cde6c68c5101", func := "loop.example/g01388/laws.FnExactGridBoard", spec := "fnExactGridBoard", recurses := true, plainKeys := false, apart := false, narrowed := true }
def FnExactGridBoardUptoSaid : Prop := fnExactGridBoardUptoRow.holds Try.pinned (OpenSpec.upto fnExactGridBoardSpec)

end Rows
end Go.Proofs.Ytjeiifiacjhfoaa
