/-
  No cell of these rows narrows 'for every input' (looked for: loops, veiled, ifaces, maps, wideKeys, modest, calm, conditions, laid).
  DERIVED. THE GIVEN ROWS OF THIS SEAT. 7 by the template 'for every input the law returns true; each argument reads behind the call as it read before'; 0 by the template 'total and deterministic' (their statements: YtnecgdlhkbbpgaaTotals.lean).
  GIVEN WITH THE SEED: the statements are not yours to turn. If you find one false, say at which input.
  Laid BY PROGRAM, IN A SANDBOX (cutbox-rows.mjs): the forced cells as the released guide's own fill.sh prints them over the translation ba6e0db39bc93756… (all of the seat's roots in one cut). By AI agents, Wed Nov 11 2026. No macro, syntax, notation, axiom, sorry.
-/
import Derived.Test.YtnecgdlhkbbpgaaChecked
import GoSem.Claim
import GoSem.ClaimJoined
import GoSem.ClaimMapViews
import Derived.JoinedTies
import Derived.KernelRfl
namespace Go.Proofs.Ytnecgdlhkbbpgaa
/- THE CELL 'sum', in the pinned program and in every row, IS THE sha256 OF THE DUMP (.gsa) THAT YtnecgdlhkbbpgaaProg.lean LOADS. Nothing in Lean hashes anything: it is a label: what it is worth is what the hold of that sum in a sandbox is worth. -/
noncomputable def Try.pinned : Pinned := { name := "ytnecgdlhkbbpgaa", sum := "ba6e0db39bc9375609cf3b9e6849dad57b946153810e4d4af55ec6bc83b5e359", checked := Try.checked }
namespace Rows
def none {H : Type} : Left H := { results := [], args := [] }

/-- 'laws.FnExactHexNeighbours': WHATEVER THE INPUT: true; the input reads as it did. -/
def fnExactHexNeighboursSpec : ChangeSpec := { name := "fnExactHexNeighbours", fn := fun _ => fun
  | [d1, d2] => { results := [.lit (.bool true)], args := [d1, d2] }
  | _ => none }
def fnExactHexNeighboursRow : OpenClaim := { program := "ytnecgdlhkbbpgaa", sum := "ba6e0db39bc9375609cf3b9e6849dad57b946153810e4d4af55ec6bc83b5e359", func := "loop.example/g01388/laws.FnExactHexNeighbours", spec := "fnExactHexNeighbours", apart := false }
def FnExactHexNeighboursSaid : Prop := fnExactHexNeighboursRow.holds Try.pinned (OpenSpec.ofChange fnExactHexNeighboursSpec)

/-- ITS FALSE NEIGHBOUR: 'it returns false'. Refute it at one input. -/
def fnExactHexNeighboursWrong : ChangeSpec := { name := "fnExactHexNeighbours", fn := fun _ => fun
  | [d1, d2] => { results := [.lit (.bool false)], args := [d1, d2] }
  | _ => none }
def FnExactHexNeighboursWrongFalsely : Prop := fnExactHexNeighboursRow.holds Try.pinned (OpenSpec.ofChange fnExactHexNeighboursWrong)

/-- 'laws.FnExactIsHex': WHATEVER THE INPUT: true; the input reads as it did. -/
def fnExactIsHexSpec : ChangeSpec := { name := "fnExactIsHex", fn := fun _ => fun
  | [d] => { results := [.lit (.bool true)], args := [d] }
  | _ => none }
def fnExactIsHexRow : OpenClaim := { program := "ytnecgdlhkbbpgaa", sum := "ba6e0db39bc9375609cf3b9e6849dad57b946153810e4d4af55ec6bc83b5e359", func := "loop.example/g01388/laws.FnExactIsHex", spec := "fnExactIsHex", unfollowed := true, recurses := true, apart := false }
def FnExactIsHexSaid : Prop := fnExactIsHexRow.holds Try.pinned (OpenSpec.ofChange fnExactIsHexSpec)

/-- ITS FALSE NEIGHBOUR: 'it returns false'. Refute it at one input. -/
def fnExactIsHexWrong : ChangeSpec := { name := "fnExactIsHex", fn := fun _ => fun
  | [d] => { results := [.lit (.bool false)], args := [d] }
  | _ => none }
def FnExactIsHexWrongFalsely : Prop := fnExactIsHexRow.holds Try.pinned (OpenSpec.ofChange fnExactIsHexWrong)

/-- 'laws.FnExactTriangleOwner': WHATEVER THE INPUT: true; the input reads as it did. -/
def fnExactTriangleOwnerSpec : ChangeSpec := { name := "fnExactTriangleOwner", fn := fun _ => fun
  | [d1, d2] => { results := [.lit (.bool true)], args := [d1, d2] }
  | _ => none }
def fnExactTriangleOwnerRow : OpenClaim := { program := "ytnecgdlhkbbpgaa", sum := "ba6e0db39bc9375609cf3b9e6849dad57b946153810e4d4af55ec6bc83b5e359", func := "loop.example/g01388/laws.FnExactTriangleOwner", spec := "fnExactTriangleOwner", unfollowed := true, recurses := true, apart := false }
def FnExactTriangleOwnerSaid : Prop := fnExactTriangleOwnerRow.holds Try.pinned (OpenSpec.ofChange fnExactTriangleOwnerSpec)

/-- ITS FALSE NEIGHBOUR: 'it returns false'. Refute it at one input. -/
def fnExactTriangleOwnerWrong : ChangeSpec := { name := "fnExactTriangleOwner", fn := fun _ => fun
  | [d1, d2] => { results := [.lit (.bool false)], args := [d1, d2] }
  | _ => none }
def FnExactTriangleOwnerWrongFalsely : Prop := fnExactTriangleOwnerRow.holds Try.pinned (OpenSpec.ofChange fnExactTriangleOwnerWrong)

/-- 'laws.FnExactReduceTriangle': WHATEVER THE INPUT: true; the input reads as it did. -/
def fnExactReduceTriangleSpec : ChangeSpec := { name := "fnExactReduceTriangle", fn := fun _ => fun
  | [d1, d2] => { results := [.lit (.bool true)], args := [d1, d2] }
  | _ => none }
def fnExactReduceTriangleRow : OpenClaim := { program := "ytnecgdlhkbbpgaa", sum := "ba6e0db39bc9375609cf3b9e6849dad57b946153810e4d4af55ec6bc83b5e359", func := "loop.example/g01388/laws.FnExactReduceTriangle", spec := "fnExactReduceTriangle", unfollowed := true, recurses := true, apart := false }
def FnExactReduceTriangleSaid : Prop := fnExactReduceTriangleRow.holds Try.pinned (OpenSpec.ofChange fnExactReduceTriangleSpec)

/-- ITS FALSE NEIGHBOUR: 'it returns false'. Refute it at one input. -/
def fnExactReduceTriangleWrong : ChangeSpec := { name := "fnExactReduceTriangle", fn := fun _ => fun
  | [d1, d2] => { results := [.lit (.bool false)], args := [d1, d2] }
  | _ => none }
def FnExactReduceTriangleWrongFalsely : Prop := fnExactReduceTriangleRow.holds Try.pinned (OpenSpec.ofChange fnExactReduceTriangleWrong)

/-- 'laws.FnExactMirrorHex': WHATEVER THE INPUT: true; the input reads as it did. -/
def fnExactMirrorHexSpec : ChangeSpec := { name := "fnExactMirrorHex", fn := fun _ => fun
  | [d] => { results := [.lit (.bool true)], args := [d] }
  | _ => none }
def fnExactMirrorHexRow : OpenClaim := { program := "ytnecgdlhkbbpgaa", sum := "ba6e0db39bc9375609cf3b9e6849dad57b946153810e4d4af55ec6bc83b5e359", func := "loop.example/g01388/laws.FnExactMirrorHex", spec := "fnExactMirrorHex", unfollowed := true, recurses := true, apart := false }
def FnExactMirrorHexSaid : Prop := fnExactMirrorHexRow.holds Try.pinned (OpenSpec.ofChange fnExactMirrorHexSpec)

/-- ITS FALSE NEIGHBOUR: 'it returns false'. Refute it at one input. -/
def fnExactMirrorHexWrong : ChangeSpec := { name := "fnExactMirrorHex", fn := fun _ => fun
  | [d] => { results := [.lit (.bool false)], args := [d] }
  | _ => none }
def FnExactMirrorHexWrongFalsely : Prop := fnExactMirrorHexRow.holds Try.pinned (OpenSpec.ofChange fnExactMirrorHexWrong)

/-- 'laws.FnExactJoinerOf': WHATEVER THE INPUT: true; the input reads as it did. -/
def fnExactJoinerOfSpec : ChangeSpec := { name := "fnExactJoinerOf", fn := fun _ => fun
  | [d] => { results := [.lit (.bool true)], args := [d] }
  | _ => none }
def fnExactJoinerOfRow : OpenClaim := { program := "ytnecgdlhkbbpgaa", sum := "ba6e0db39bc9375609cf3b9e6849dad57b946153810e4d4af55ec6bc83b5e359", func := "loop.example/g01388/laws.FnExactJoinerOf", spec := "fnExactJoinerOf", unfollowed := true, recurses := true, apart := false }
def FnExactJoinerOfSaid : Prop := fnExactJoinerOfRow.holds Try.pinned (OpenSpec.ofChange fnExactJoinerOfSpec)

/-- ITS FALSE NEIGHBOUR: 'it returns false'. Refute it at one input. -/
def fnExactJoinerOfWrong : ChangeSpec := { name := "fnExactJoinerOf", fn := fun _ => fun
  | [d] => { results := [.lit (.bool false)], args := [d] }
  | _ => none }
def FnExactJoinerOfWrongFalsely : Prop := fnExactJoinerOfRow.holds Try.pinned (OpenSpec.ofChange fnExactJoinerOfWrong)

/-- 'laws.FnExactNeedOf': WHATEVER THE INPUT: true; the input reads as it did. -/
def fnExactNeedOfSpec : ChangeSpec := { name := "fnExactNeedOf", fn := fun _ => fun
  | [d1, d2] => { results := [.lit (.bool true)], args := [d1, d2] }
  | _ => none }
def fnExactNeedOfRow : OpenClaim := { program := "ytnecgdlhkbbpgaa", sum := "ba6e0db39bc9375609cf3b9e6849dad57b946153810e4d4af55ec6bc83b5e359", func := "loop.example/g01388/laws.FnExactNeedOf", spec := "fnExactNeedOf", unfollowed := true, recurses := true, apart := false }
def FnExactNeedOfSaid : Prop := fnExactNeedOfRow.holds Try.pinned (OpenSpec.ofChange fnExactNeedOfSpec)

/-- ITS FALSE NEIGHBOUR: 'it returns false'. Refute it at one input. -/
def fnExactNeedOfWrong : ChangeSpec := { name := "fnExactNeedOf", fn := fun _ => fun
  | [d1, d2] => { results := [.lit (.bool false)], args := [d1, d2] }
  | _ => none }
def FnExactNeedOfWrongFalsely : Prop := fnExactNeedOfRow.holds Try.pinned (OpenSpec.ofChange fnExactNeedOfWrong)

/- THE SECOND FORM. 'bulk': how many values and letters a reading holds, each counted each time it is reached (what is shared counts as often as it is met; a slice's spare places count too). A statement '..UptoSaid' is the law's where the arguments, and the package variables that the reading takes, are together of bulk at most 1048576: NARROWER than '..Said'. Prove '..Said' where nothing that the law and all that it calls make is longer than what came in: it says more and counts as full. Else prove '..UptoSaid'. A law counts once. -/
mutual
def uptoBulk {H : Type} : DataW H → Nat
  | .lit (.string bytes) => bytes.length + 1
  | .lit _ => 1
  | .nil => 1
  | .ptr d => uptoBulk d + 1
  | .slice elems spare => uptoBulkAll elems + uptoBulkAll spare + 1
  | .agg parts => uptoBulkAll parts + 1
  | .iface _ d => uptoBulk d + 1
  | .map entries => uptoBulkEntries entries + 1
  | .held _ => 1
def uptoBulkAll {H : Type} : List (DataW H) → Nat
  | [] => 0
  | d :: r => uptoBulk d + uptoBulkAll r
def uptoBulkEntries {H : Type} : List (Lit × DataW H) → Nat
  | [] => 0
  | x :: r => uptoBulkEntry x + uptoBulkEntries r
def uptoBulkEntry {H : Type} : Lit × DataW H → Nat
  | (.string bytes, d) => bytes.length + uptoBulk d + 1
  | (_, d) => uptoBulk d + 1
 end
def uptoSmall : (H : Type) → List (DataW H) → Bool := fun _ ds => decide (uptoBulkAll ds ≤ 1048576)
def OpenSpec.upto (s : _root_.Go.ChangeSpec) : _root_.Go.OpenSpec := { _root_.Go.OpenSpec.ofChange s with cond := some uptoSmall }

/-- 'laws.FnExactHexNeighbours', WHERE WHAT IT READS IS OF BULK AT MOST 1048576: true; the input reads as it did. -/
def fnExactHexNeighboursUptoRow : OpenClaim := { program := "ytnecgdlhkbbpgaa", sum := "ba6e0db39bc9375609cf3b9e6849dad57b946153810e4d4af55ec6bc83b5e359", func := "loop.example/g01388/laws.FnExactHexNeighbours", spec := "fnExactHexNeighbours", apart := false, narrowed := true }
def FnExactHexNeighboursUptoSaid : Prop := fnExactHexNeighboursUptoRow.holds Try.pinned (OpenSpec.upto fnExactHexNeighboursSpec)

/-- 'laws.FnExactIsHex', WHERE WHAT IT READS IS OF BULK AT MOST 1048576: true; the input reads as it did. -/
def fnExactIsHexUptoRow : OpenClaim := { program := "ytnecgdlhkbbpgaa", sum := "ba6e0db39bc9375609cf3b9e6849dad57b946153810e4d4af55ec6bc83b5e359", func := "loop.example/g01388/laws.FnExactIsHex", spec := "fnExactIsHex", unfollowed := true, recurses := true, apart := false, narrowed := true }
def FnExactIsHexUptoSaid : Prop := fnExactIsHexUptoRow.holds Try.pinned (OpenSpec.upto fnExactIsHexSpec)

/-- 'laws.FnExactTriangleOwner', WHERE WHAT IT READS IS OF BULK AT MOST 1048576: true; the input reads as it did. -/
def fnExactTriangleOwnerUptoRow : OpenClaim := { program := "ytnecgdlhkbbpgaa", sum := "ba6e0db39bc9375609cf3b9e6849dad57b946153810e4d4af55ec6bc83b5e359", func := "loop.example/g01388/laws.FnExactTriangleOwner", spec := "fnExactTriangleOwner", unfollowed := true, recurses := true, apart := false, narrowed := true }
def FnExactTriangleOwnerUptoSaid : Prop := fnExactTriangleOwnerUptoRow.holds Try.pinned (OpenSpec.upto fnExactTriangleOwnerSpec)

/-- 'laws.FnExactReduceTriangle', WHERE WHAT IT READS IS OF BULK AT MOST 1048576: true; the input reads as it did. -/
def fnExactReduceTriangleUptoRow : OpenClaim := { program := "ytnecgdlhkbbpgaa", sum := "ba6e0db39bc9375609cf3b9e6849dad57b946153810e4d4af55ec6bc83b5e359", func := "loop.example/g01388/laws.FnExactReduceTriangle", spec := "fnExactReduceTriangle", unfollowed := true, recurses := true, apart := false, narrowed := true }
def FnExactReduceTriangleUptoSaid : Prop := fnExactReduceTriangleUptoRow.holds Try.pinned (OpenSpec.upto fnExactReduceTriangleSpec)

/-- 'laws.FnExactMirrorHex', WHERE WHAT IT READS IS OF BULK AT MOST 1048576: true; the input reads as it did. -/
def fnExactMirrorHexUptoRow : OpenClaim := { program := "ytnecgdlhkbbpgaa", sum := "ba6e0db39bc9375609cf3b9e6849dad57b946153810e4d4af55ec6bc83b5e359", func := "loop.example/g01388/laws.FnExactMirrorHex", spec := "fnExactMirrorHex", unfollowed := true, recurses := true, apart := false, narrowed := true }
def FnExactMirrorHexUptoSaid : Prop := fnExactMirrorHexUptoRow.holds Try.pinned (OpenSpec.upto fnExactMirrorHexSpec)

/-- 'laws.FnExactJoinerOf', WHERE WHAT IT READS IS OF BULK AT MOST 1048576: true; the input reads as it did. -/
def fnExactJoinerOfUptoRow : OpenClaim := { program := "ytnecgdlhkbbpgaa", sum := "ba6e0db39bc9375609cf3b9e6849dad57b946153810e4d4af55ec6bc83b5e359", func := "loop.example/g01388/laws.FnExactJoinerOf", spec := "fnExactJoinerOf", unfollowed := true, recurses := true, apart := false, narrowed := true }
def FnExactJoinerOfUptoSaid : Prop := fnExactJoinerOfUptoRow.holds Try.pinned (OpenSpec.upto fnExactJoinerOfSpec)

/-- 'laws.FnExactNeedOf', WHERE WHAT IT READS IS OF BULK AT MOST 1048576: true; the input reads as it did. -/
def fnExactNeedOfUptoRow : OpenClaim := { program := "ytnecgdlhkbbpgaa", sum := "ba6e0db39bc9375609cf3b9e6849dad57b946153810e4d4af55ec6bc83b5e359", func := "loop.example/g01388/laws.FnExactNeedOf", spec := "fnExactNeedOf", unfollowed := true, recurses := true, apart := false, narrowed := true }
def FnExactNeedOfUptoSaid : Prop := fnExactNeedOfUptoRow.holds Try.pinned (OpenSpec.upto fnExactNeedOfSpec)

end Rows
end Go.Proofs.Ytnecgdlhkbbpgaa
