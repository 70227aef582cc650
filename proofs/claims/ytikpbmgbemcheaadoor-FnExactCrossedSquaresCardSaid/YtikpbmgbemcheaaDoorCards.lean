/-
  DERIVED. GIVEN WITH THE SEED: THE CARDS: each row of YtikpbmgbemcheaaDoorRows.lean that lists a variable, with what it lists TIED to the program's text (the seventh form; the later family's looks); each row that meets fmt, with fmt's text TOLD by the authors' own Lean function (tested against real Go, not proved from fmt's source: count such statements apart). THE CARD IS WHAT COUNTS. Prove the row's statement (the work); the ties are given (YtikpbmgbemcheaaDoorTie.lean); close each card by the builder's one call (the guide's Derived/Test/ToyasCard.lean, 'card_holds'). Laid BY PROGRAM, IN A SANDBOX (cutbox-door.mjs). By AI agents, Wed Nov 11 2026. No macro, syntax, notation, axiom, sorry.
-/
import Derived.Test.YtikpbmgbemcheaaDoorRows
import GoSem.ClaimSeven
namespace Go.Proofs.YtikpbmgbemcheaaDoor
namespace Rows

/-- THE TIED CARD OF 'laws.FnExactIsTrack'. -/
def fnExactIsTrackCard : Claim7 := { stood := { row := fnExactIsTrackRow, standIns := [], harness := (true, "89bfea1fcec9fbeb3b64d3fbf578eaeb3bb77bedb16d64a9577668bec4f75775"), looks := false }, kinds := [], alts := [], laidByText := true, laidKinds := [.data, .pinned], laidTests := true, laidLooks := .later }
def FnExactIsTrackCardSaid : Prop := Claim7.holds Tryd.pinned (.plain (OpenSpec.ofChange fnExactIsTrackSpec)) fnExactIsTrackCard

/-- THE TIED CARD OF 'laws.FnExactFirstCar'. -/
def fnExactFirstCarCard : Claim7 := { stood := { row := fnExactFirstCarRow, standIns := [], harness := (true, "89bfea1fcec9fbeb3b64d3fbf578eaeb3bb77bedb16d64a9577668bec4f75775"), looks := false }, kinds := [], alts := [], laidByText := true, laidKinds := [.data, .pinned], laidTests := true, laidLooks := .later }
def FnExactFirstCarCardSaid : Prop := Claim7.holds Tryd.pinned (.plain (OpenSpec.ofChange fnExactFirstCarSpec)) fnExactFirstCarCard

/-- THE TIED CARD OF 'laws.FnExactMoveCar'. -/
def fnExactMoveCarCard : Claim7 := { stood := { row := fnExactMoveCarRow, standIns := [], harness := (true, "89bfea1fcec9fbeb3b64d3fbf578eaeb3bb77bedb16d64a9577668bec4f75775"), looks := false }, kinds := [], alts := [], laidByText := true, laidKinds := [.data, .pinned], laidTests := true, laidLooks := .later }
def FnExactMoveCarCardSaid : Prop := Claim7.holds Tryd.pinned (.plain (OpenSpec.ofChange fnExactMoveCarSpec)) fnExactMoveCarCard

/-- THE TIED CARD OF 'laws.FnExactDriveRoute'. -/
def fnExactDriveRouteCard : Claim7 := { stood := { row := fnExactDriveRouteRow, standIns := [], harness := (true, "89bfea1fcec9fbeb3b64d3fbf578eaeb3bb77bedb16d64a9577668bec4f75775"), looks := false }, kinds := [], alts := [], laidByText := true, laidKinds := [.data, .pinned], laidTests := true, laidLooks := .later }
def FnExactDriveRouteCardSaid : Prop := Claim7.holds Tryd.pinned (.plain (OpenSpec.ofChange fnExactDriveRouteSpec)) fnExactDriveRouteCard

/-- THE TIED CARD OF 'laws.FnExactCrossedSquares'. -/
def fnExactCrossedSquaresCard : Claim7 := { stood := { row := fnExactCrossedSquaresRow, standIns := [], harness := (true, "89bfea1fcec9fbeb3b64d3fbf578eaeb3bb77bedb16d64a9577668bec4f75775"), looks := false }, kinds := [], alts := [], laidByText := true, laidKinds := [.data, .pinned], laidTests := true, laidLooks := .later }
def FnExactCrossedSquaresCardSaid : Prop := Claim7.holds Tryd.pinned (.plain (OpenSpec.ofChange fnExactCrossedSquaresSpec)) fnExactCrossedSquaresCard

/-- THE TIED CARD OF 'laws.FnExactOpenMoves'. -/
def fnExactOpenMovesCard : Claim7 := { stood := { row := fnExactOpenMovesRow, standIns := [], harness := (true, "89bfea1fcec9fbeb3b64d3fbf578eaeb3bb77bedb16d64a9577668bec4f75775"), looks := false }, kinds := [], alts := [], laidByText := true, laidKinds := [.data, .pinned], laidTests := true, laidLooks := .later }
def FnExactOpenMovesCardSaid : Prop := Claim7.holds Tryd.pinned (.plain (OpenSpec.ofChange fnExactOpenMovesSpec)) fnExactOpenMovesCard

/-- THE SECOND FORM's CARD OF 'laws.FnExactIsTrack'. -/
def fnExactIsTrackUptoCard : Claim7 := { stood := { row := fnExactIsTrackUptoRow, standIns := [], harness := (true, "89bfea1fcec9fbeb3b64d3fbf578eaeb3bb77bedb16d64a9577668bec4f75775"), looks := false }, kinds := [], alts := [], laidByText := true, laidKinds := [.data, .pinned], laidTests := true, laidLooks := .later }
def FnExactIsTrackUptoCardSaid : Prop := Claim7.holds Tryd.pinned (.plain (OpenSpec.upto fnExactIsTrackSpec)) fnExactIsTrackUptoCard

/-- THE SECOND FORM's CARD OF 'laws.FnExactFirstCar'. -/
def fnExactFirstCarUptoCard : Claim7 := { stood := { row := fnExactFirstCarUptoRow, standIns := [], harness := (true, "89bfea1fcec9fbeb3b64d3fbf578eaeb3bb77bedb16d64a9577668bec4f75775"), looks := false }, kinds := [], alts := [], laidByText := true, laidKinds := [.data, .pinned], laidTests := true, laidLooks := .later }
def FnExactFirstCarUptoCardSaid : Prop := Claim7.holds Tryd.pinned (.plain (OpenSpec.upto fnExactFirstCarSpec)) fnExactFirstCarUptoCard

/-- THE SECOND FORM's CARD OF 'laws.FnExactMoveCar'. -/
def fnExactMoveCarUptoCard : Claim7 := { stood := { row := fnExactMoveCarUptoRow, standIns := [], harness := (true, "89bfea1fcec9fbeb3b64d3fbf578eaeb3bb77bedb16d64a9577668bec4f75775"), looks := false }, kinds := [], alts := [], laidByText := true, laidKinds := [.data, .pinned], laidTests := true, laidLooks := .later }
def FnExactMoveCarUptoCardSaid : Prop := Claim7.holds Tryd.pinned (.plain (OpenSpec.upto fnExactMoveCarSpec)) fnExactMoveCarUptoCard

/-- THE SECOND FORM's CARD OF 'laws.FnExactDriveRoute'. -/
def fnExactDriveRouteUptoCard : Claim7 := { stood := { row := fnExactDriveRouteUptoRow, standIns := [], harness := (true, "89bfea1fcec9fbeb3b64d3fbf578eaeb3bb77bedb16d64a9577668bec4f75775"), looks := false }, kinds := [], alts := [], laidByText := true, laidKinds := [.data, .pinned], laidTests := true, laidLooks := .later }
def FnExactDriveRouteUptoCardSaid : Prop := Claim7.holds Tryd.pinned (.plain (OpenSpec.upto fnExactDriveRouteSpec)) fnExactDriveRouteUptoCard

/-- THE SECOND FORM's CARD OF 'laws.FnExactCrossedSquares'. -/
def fnExactCrossedSquaresUptoCard : Claim7 := { stood := { row := fnExactCrossedSquaresUptoRow, standIns := [], harness := (true, "89bfea1fcec9fbeb3b64d3fbf578eaeb3bb77bedb16d64a9577668bec4f75775"), looks := false }, kinds := [], alts := [], laidByText := true, laidKinds := [.data, .pinned], laidTests := true, laidLooks := .later }
def FnExactCrossedSquaresUptoCardSaid : Prop := Claim7.holds Tryd.pinned (.plain (OpenSpec.upto fnExactCrossedSquaresSpec)) fnExactCrossedSquaresUptoCard

/-- THE SECOND FORM's CARD OF 'laws.FnExactOpenMoves'. -/
def fnExactOpenMovesUptoCard : Claim7 := { stood := { row := fnExactOpenMovesUptoRow, standIns := [], harness := (true, "89bfea1fcec9fbeb3b64d3fbf578eaeb3bb77bedb16d64a9577668bec4f75775"), looks := false }, kinds := [], alts := [], laidByText := true, laidKinds := [.data, .pinned], laidTests := true, laidLooks := .later }
def FnExactOpenMovesUptoCardSaid : Prop := Claim7.holds Tryd.pinned (.plain (OpenSpec.upto fnExactOpenMovesSpec)) fnExactOpenMovesUptoCard
end Rows
end Go.Proofs.YtikpbmgbemcheaaDoor
