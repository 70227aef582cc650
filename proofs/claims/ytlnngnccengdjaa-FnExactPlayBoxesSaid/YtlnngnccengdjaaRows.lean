/-
  No cell of these rows narrows 'for every input' (looked for: loops, veiled, ifaces, maps, wideKeys, modest, calm, conditions, laid).
  DERIVED. THE GIVEN ROWS OF THIS SEAT. 8 by the template 'for every input the law returns true; each argument reads behind the call as it read before'; 0 by the template 'total and deterministic' (their statements: YtlnngnccengdjaaTotals.lean).
  GIVEN WITH THE SEED: the statements are not yours to turn. If you find one false, say at which input.
  Laid BY PROGRAM, IN A SANDBOX (cutbox-rows.mjs): the forced cells as the released guide's own fill.sh prints them over the translation d616b83f97f71f9c… (all of the seat's roots in one cut). By AI agents, Wed Nov 11 2026. No macro, syntax, notation, axiom, sorry.
-/
import Derived.Test.YtlnngnccengdjaaChecked
import GoSem.Claim
import GoSem.ClaimJoined
import GoSem.ClaimMapViews
import Derived.JoinedTies
import Derived.KernelRfl
namespace Go.Proofs.Ytlnngnccengdjaa
/- THE CELL 'sum', in the pinned program and in every row, IS THE sha256 OF THE DUMP (.gsa) THAT YtlnngnccengdjaaProg.lean LOADS. Nothing in Lean hashes anything: it is a label: what it is worth is what the hold of that sum in a sandbox is worth. -/
noncomputable def Try.pinned : Pinned := { name := "ytlnngnccengdjaa", sum := "d616b83f97f71f9cf24fae3d260076e8ea9de2de2a33328596bdacadf7e2bae1", checked := Try.checked }
namespace Rows
def none {H : Type} : Left H := { results := [], args := [] }

/-- 'laws.FnExactFreeEdges': WHATEVER THE INPUT: true; the input reads as it did. -/
def fnExactFreeEdgesSpec : ChangeSpec := { name := "fnExactFreeEdges", fn := fun _ => fun
  | [d] => { results := [.lit (.bool true)], args := [d] }
  | _ => none }
def fnExactFreeEdgesRow : OpenClaim := { program := "ytlnngnccengdjaa", sum := "d616b83f97f71f9cf24fae3d260076e8ea9de2de2a33328596bdacadf7e2bae1", func := "loop.example/g01388/laws.FnExactFreeEdges", spec := "fnExactFreeEdges", unfollowed := true, recurses := true, apart := false }
def FnExactFreeEdgesSaid : Prop := fnExactFreeEdgesRow.holds Try.pinned (OpenSpec.ofChange fnExactFreeEdgesSpec)

/-- ITS FALSE NEIGHBOUR: 'it returns false'. Refute it at one input. -/
def fnExactFreeEdgesWrong : ChangeSpec := { name := "fnExactFreeEdges", fn := fun _ => fun
  | [d] => { results := [.lit (.bool false)], args := [d] }
  | _ => none }
def FnExactFreeEdgesWrongFalsely : Prop := fnExactFreeEdgesRow.holds Try.pinned (OpenSpec.ofChange fnExactFreeEdgesWrong)

/-- 'laws.FnExactTakenBoxes': WHATEVER THE INPUT: true; the input reads as it did. -/
def fnExactTakenBoxesSpec : ChangeSpec := { name := "fnExactTakenBoxes", fn := fun _ => fun
  | [d] => { results := [.lit (.bool true)], args := [d] }
  | _ => none }
def fnExactTakenBoxesRow : OpenClaim := { program := "ytlnngnccengdjaa", sum := "d616b83f97f71f9cf24fae3d260076e8ea9de2de2a33328596bdacadf7e2bae1", func := "loop.example/g01388/laws.FnExactTakenBoxes", spec := "fnExactTakenBoxes", unfollowed := true, recurses := true, apart := false }
def FnExactTakenBoxesSaid : Prop := fnExactTakenBoxesRow.holds Try.pinned (OpenSpec.ofChange fnExactTakenBoxesSpec)

/-- ITS FALSE NEIGHBOUR: 'it returns false'. Refute it at one input. -/
def fnExactTakenBoxesWrong : ChangeSpec := { name := "fnExactTakenBoxes", fn := fun _ => fun
  | [d] => { results := [.lit (.bool false)], args := [d] }
  | _ => none }
def FnExactTakenBoxesWrongFalsely : Prop := fnExactTakenBoxesRow.holds Try.pinned (OpenSpec.ofChange fnExactTakenBoxesWrong)

/-- 'laws.FnExactBoxesWith': WHATEVER THE INPUT: true; the input reads as it did. -/
def fnExactBoxesWithSpec : ChangeSpec := { name := "fnExactBoxesWith", fn := fun _ => fun
  | [d1, d2] => { results := [.lit (.bool true)], args := [d1, d2] }
  | _ => none }
def fnExactBoxesWithRow : OpenClaim := { program := "ytlnngnccengdjaa", sum := "d616b83f97f71f9cf24fae3d260076e8ea9de2de2a33328596bdacadf7e2bae1", func := "loop.example/g01388/laws.FnExactBoxesWith", spec := "fnExactBoxesWith", unfollowed := true, recurses := true, apart := false }
def FnExactBoxesWithSaid : Prop := fnExactBoxesWithRow.holds Try.pinned (OpenSpec.ofChange fnExactBoxesWithSpec)

/-- ITS FALSE NEIGHBOUR: 'it returns false'. Refute it at one input. -/
def fnExactBoxesWithWrong : ChangeSpec := { name := "fnExactBoxesWith", fn := fun _ => fun
  | [d1, d2] => { results := [.lit (.bool false)], args := [d1, d2] }
  | _ => none }
def FnExactBoxesWithWrongFalsely : Prop := fnExactBoxesWithRow.holds Try.pinned (OpenSpec.ofChange fnExactBoxesWithWrong)

/-- 'laws.FnExactAddEdge': WHATEVER THE INPUT: true; the input reads as it did. -/
def fnExactAddEdgeSpec : ChangeSpec := { name := "fnExactAddEdge", fn := fun _ => fun
  | [d1, d2] => { results := [.lit (.bool true)], args := [d1, d2] }
  | _ => none }
def fnExactAddEdgeRow : OpenClaim := { program := "ytlnngnccengdjaa", sum := "d616b83f97f71f9cf24fae3d260076e8ea9de2de2a33328596bdacadf7e2bae1", func := "loop.example/g01388/laws.FnExactAddEdge", spec := "fnExactAddEdge", unfollowed := true, recurses := true, apart := false }
def FnExactAddEdgeSaid : Prop := fnExactAddEdgeRow.holds Try.pinned (OpenSpec.ofChange fnExactAddEdgeSpec)

/-- ITS FALSE NEIGHBOUR: 'it returns false'. Refute it at one input. -/
def fnExactAddEdgeWrong : ChangeSpec := { name := "fnExactAddEdge", fn := fun _ => fun
  | [d1, d2] => { results := [.lit (.bool false)], args := [d1, d2] }
  | _ => none }
def FnExactAddEdgeWrongFalsely : Prop := fnExactAddEdgeRow.holds Try.pinned (OpenSpec.ofChange fnExactAddEdgeWrong)

/-- 'laws.FnExactSafeEdges': WHATEVER THE INPUT: true; the input reads as it did. -/
def fnExactSafeEdgesSpec : ChangeSpec := { name := "fnExactSafeEdges", fn := fun _ => fun
  | [d] => { results := [.lit (.bool true)], args := [d] }
  | _ => none }
def fnExactSafeEdgesRow : OpenClaim := { program := "ytlnngnccengdjaa", sum := "d616b83f97f71f9cf24fae3d260076e8ea9de2de2a33328596bdacadf7e2bae1", func := "loop.example/g01388/laws.FnExactSafeEdges", spec := "fnExactSafeEdges", unfollowed := true, recurses := true, apart := false }
def FnExactSafeEdgesSaid : Prop := fnExactSafeEdgesRow.holds Try.pinned (OpenSpec.ofChange fnExactSafeEdgesSpec)

/-- ITS FALSE NEIGHBOUR: 'it returns false'. Refute it at one input. -/
def fnExactSafeEdgesWrong : ChangeSpec := { name := "fnExactSafeEdges", fn := fun _ => fun
  | [d] => { results := [.lit (.bool false)], args := [d] }
  | _ => none }
def FnExactSafeEdgesWrongFalsely : Prop := fnExactSafeEdgesRow.holds Try.pinned (OpenSpec.ofChange fnExactSafeEdgesWrong)

/-- 'laws.FnExactNetScore': WHATEVER THE INPUT: true; the input reads as it did. -/
def fnExactNetScoreSpec : ChangeSpec := { name := "fnExactNetScore", fn := fun _ => fun
  | [d] => { results := [.lit (.bool true)], args := [d] }
  | _ => none }
def fnExactNetScoreRow : OpenClaim := { program := "ytlnngnccengdjaa", sum := "d616b83f97f71f9cf24fae3d260076e8ea9de2de2a33328596bdacadf7e2bae1", func := "loop.example/g01388/laws.FnExactNetScore", spec := "fnExactNetScore", unfollowed := true, recurses := true, apart := false }
def FnExactNetScoreSaid : Prop := fnExactNetScoreRow.holds Try.pinned (OpenSpec.ofChange fnExactNetScoreSpec)

/-- ITS FALSE NEIGHBOUR: 'it returns false'. Refute it at one input. -/
def fnExactNetScoreWrong : ChangeSpec := { name := "fnExactNetScore", fn := fun _ => fun
  | [d] => { results := [.lit (.bool false)], args := [d] }
  | _ => none }
def FnExactNetScoreWrongFalsely : Prop := fnExactNetScoreRow.holds Try.pinned (OpenSpec.ofChange fnExactNetScoreWrong)

/-- 'laws.FnExactBestEdges': WHATEVER THE INPUT: true; the input reads as it did. -/
def fnExactBestEdgesSpec : ChangeSpec := { name := "fnExactBestEdges", fn := fun _ => fun
  | [d] => { results := [.lit (.bool true)], args := [d] }
  | _ => none }
def fnExactBestEdgesRow : OpenClaim := { program := "ytlnngnccengdjaa", sum := "d616b83f97f71f9cf24fae3d260076e8ea9de2de2a33328596bdacadf7e2bae1", func := "loop.example/g01388/laws.FnExactBestEdges", spec := "fnExactBestEdges", unfollowed := true, recurses := true, apart := false }
def FnExactBestEdgesSaid : Prop := fnExactBestEdgesRow.holds Try.pinned (OpenSpec.ofChange fnExactBestEdgesSpec)

/-- ITS FALSE NEIGHBOUR: 'it returns false'. Refute it at one input. -/
def fnExactBestEdgesWrong : ChangeSpec := { name := "fnExactBestEdges", fn := fun _ => fun
  | [d] => { results := [.lit (.bool false)], args := [d] }
  | _ => none }
def FnExactBestEdgesWrongFalsely : Prop := fnExactBestEdgesRow.holds Try.pinned (OpenSpec.ofChange fnExactBestEdgesWrong)

/-- 'laws.FnExactPlayBoxes': WHATEVER THE INPUT: true; the input reads as it did. -/
def fnExactPlayBoxesSpec : ChangeSpec := { name := "fnExactPlayBoxes", fn := fun _ => fun
  | [d] => { results := [.lit (.bool true)], args := [d] }
  | _ => none }
def fnExactPlayBoxesRow : OpenClaim := { program := "ytlnngnccengdjaa", sum := "d616b83f97f71f9cf24fae3d260076e8ea9de2de2a33328596bdacadf7e2bae1", func := "loop.example/g01388/laws.FnExactPlayBoxes", spec := "fnExactPlayBoxes", unfollowed := true, recurses := true, apart := false }
def FnExactPlayBoxesSaid : Prop := fnExactPlayBoxesRow.holds Try.pinned (OpenSpec.ofChange fnExactPlayBoxesSpec)

/-- ITS FALSE NEIGHBOUR: 'it returns false'. Refute it at one input. -/
def fnExactPlayBoxesWrong : ChangeSpec := { name := "fnExactPlayBoxes", fn := fun _ => fun
  | [d] => { results := [.lit (.bool false)], args := [d] }
  | _ => none }
def FnExactPlayBoxesWrongFalsely : Prop := fnExactPlayBoxesRow.holds Try.pinned (OpenSpec.ofChange fnExactPlayBoxesWrong)

/- THE SECOND FORM. 'bulk': how many values and letters a reading holds, each counted each time it is reached (what is shared counts as often as it is met; a slice's spare places count too). A statement '..UptoSaid' is the law's where the arguments, and the package variables that the reading takes, are together of bulk at most 1048576: NARROWER than '..Said'. Prove '..Said' where nothing that the law and all that it calls make is longer than what came in: it says more and counts as full. Else prove '..UptoSaid'. A law counts once. -/
mutual
def uptoBulk {H : Type} : DataW H → Nat
  | .lit (.string bytes) => bytes.length + 1
  | .lit _ => 1
  | .nil => 1
  | .ptr d => uptoBulk d + 1
  | .slice elems spare => uptoBulkAll elems + uptoBulkAll spare + 1
  | .agg parts => uptoBulkAll parts + 1
  | .iface _ d => uptoBulk d + 1
  | .map entries => uptoBulkEntries entries + 1
  | .held _ => 1
def uptoBulkAll {H : Type} : List (DataW H) → Nat
  | [] => 0
  | d :: r => uptoBulk d + uptoBulkAll r
def uptoBulkEntries {H : Type} : List (Lit × DataW H) → Nat
  | [] => 0
  | x :: r => uptoBulkEntry x + uptoBulkEntries r
def uptoBulkEntry {H : Type} : Lit × DataW H → Nat
  | (.string bytes, d) => bytes.length + uptoBulk d + 1
  | (_, d) => uptoBulk d + 1
 end
def uptoSmall : (H : Type) → List (DataW H) → Bool := fun _ ds => decide (uptoBulkAll ds ≤ 1048576)
def OpenSpec.upto (s : _root_.Go.ChangeSpec) : _root_.Go.OpenSpec := { _root_.Go.OpenSpec.ofChange s with cond := some uptoSmall }

/-- 'laws.FnExactFreeEdges', WHERE WHAT IT READS IS OF BULK AT MOST 1048576: true; the input reads as it did. -/
def fnExactFreeEdgesUptoRow : OpenClaim := { program := "ytlnngnccengdjaa", sum := "d616b83f97f71f9cf24fae3d260076e8ea9de2de2a33328596bdacadf7e2bae1", func := "loop.example/g01388/laws.FnExactFreeEdges", spec := "fnExactFreeEdges", unfollowed := true, recurses := true, apart := false, narrowed := true }
def FnExactFreeEdgesUptoSaid : Prop := fnExactFreeEdgesUptoRow.holds Try.pinned (OpenSpec.upto fnExactFreeEdgesSpec)

/-- 'laws.FnExactTakenBoxes', WHERE WHAT IT READS IS OF BULK AT MOST 1048576: true; the input reads as it did. -/
def fnExactTakenBoxesUptoRow : OpenClaim := { program := "ytlnngnccengdjaa", sum := "d616b83f97f71f9cf24fae3d260076e8ea9de2de2a33328596bdacadf7e2bae1", func := "loop.example/g01388/laws.FnExactTakenBoxes", spec := "fnExactTakenBoxes", unfollowed := true, recurses := true, apart := false, narrowed := true }
def FnExactTakenBoxesUptoSaid : Prop := fnExactTakenBoxesUptoRow.holds Try.pinned (OpenSpec.upto fnExactTakenBoxesSpec)

/-- 'laws.FnExactBoxesWith', WHERE WHAT IT READS IS OF BULK AT MOST 1048576: true; the input reads as it did. -/
def fnExactBoxesWithUptoRow : OpenClaim := { program := "ytlnngnccengdjaa", sum := "d616b83f97f71f9cf24fae3d260076e8ea9de2de2a33328596bdacadf7e2bae1", func := "loop.example/g01388/laws.FnExactBoxesWith", spec := "fnExactBoxesWith", unfollowed := true, recurses := true, apart := false, narrowed := true }
def FnExactBoxesWithUptoSaid : Prop := fnExactBoxesWithUptoRow.holds Try.pinned (OpenSpec.upto fnExactBoxesWithSpec)

/-- 'laws.FnExactAddEdge', WHERE WHAT IT READS IS OF BULK AT MOST 1048576: true; the input reads as it did. -/
def fnExactAddEdgeUptoRow : OpenClaim := { program := "ytlnngnccengdjaa", sum := "d616b83f97f71f9cf24fae3d260076e8ea9de2de2a33328596bdacadf7e2bae1", func := "loop.example/g01388/laws.FnExactAddEdge", spec := "fnExactAddEdge", unfollowed := true, recurses := true, apart := false, narrowed := true }
def FnExactAddEdgeUptoSaid : Prop := fnExactAddEdgeUptoRow.holds Try.pinned (OpenSpec.upto fnExactAddEdgeSpec)

/-- 'laws.FnExactSafeEdges', WHERE WHAT IT READS IS OF BULK AT MOST 1048576: true; the input reads as it did. -/
def fnExactSafeEdgesUptoRow : OpenClaim := { program := "ytlnngnccengdjaa", sum := "d616b83f97f71f9cf24fae3d260076e8ea9de2de2a33328596bdacadf7e2bae1", func := "loop.example/g01388/laws.FnExactSafeEdges", spec := "fnExactSafeEdges", unfollowed := true, recurses := true, apart := false, narrowed := true }
def FnExactSafeEdgesUptoSaid : Prop := fnExactSafeEdgesUptoRow.holds Try.pinned (OpenSpec.upto fnExactSafeEdgesSpec)

/-- 'laws.FnExactNetScore', WHERE WHAT IT READS IS OF BULK AT MOST 1048576: true; the input reads as it did. -/
def fnExactNetScoreUptoRow : OpenClaim := { program := "ytlnngnccengdjaa", sum := "d616b83f97f71f9cf24fae3d260076e8ea9de2de2a33328596bdacadf7e2bae1", func := "loop.example/g01388/laws.FnExactNetScore", spec := "fnExactNetScore", unfollowed := true, recurses := true, apart := false, narrowed := true }
def FnExactNetScoreUptoSaid : Prop := fnExactNetScoreUptoRow.holds Try.pinned (OpenSpec.upto fnExactNetScoreSpec)

/-- 'laws.FnExactBestEdges', WHERE WHAT IT READS IS OF BULK AT MOST 1048576: true; the input reads as it did. -/
def fnExactBestEdgesUptoRow : OpenClaim := { program := "ytlnngnccengdjaa", sum := "d616b83f97f71f9cf24fae3d260076e8ea9de2de2a33328596bdacadf7e2bae1", func := "loop.example/g01388/laws.FnExactBestEdges", spec := "fnExactBestEdges", unfollowed := true, recurses := true, apart := false, narrowed := true }
def FnExactBestEdgesUptoSaid : Prop := fnExactBestEdgesUptoRow.holds Try.pinned (OpenSpec.upto fnExactBestEdgesSpec)

/-- 'laws.FnExactPlayBoxes', WHERE WHAT IT READS IS OF BULK AT MOST 1048576: true; the input reads as it did. -/
def fnExactPlayBoxesUptoRow : OpenClaim := { program := "ytlnngnccengdjaa", sum := "d616b83f97f71f9cf24fae3d260076e8ea9de2de2a33328596bdacadf7e2bae1", func := "loop.example/g01388/laws.FnExactPlayBoxes", spec := "fnExactPlayBoxes", unfollowed := true, recurses := true, apart := false, narrowed := true }
def FnExactPlayBoxesUptoSaid : Prop := fnExactPlayBoxesUptoRow.holds Try.pinned (OpenSpec.upto fnExactPlayBoxesSpec)

end Rows
end Go.Proofs.Ytlnngnccengdjaa
