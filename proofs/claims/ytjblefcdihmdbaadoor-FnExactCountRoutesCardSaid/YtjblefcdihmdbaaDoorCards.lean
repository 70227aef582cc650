/-
  DERIVED. GIVEN WITH THE SEED: THE CARDS: each row of YtjblefcdihmdbaaDoorRows.lean that lists a variable, with what it lists TIED to the program's text (the seventh form; the later family's looks); each row that meets fmt, with fmt's text TOLD by the authors' own Lean function (tested against real Go, not proved from fmt's source: count such statements apart). THE CARD IS WHAT COUNTS. Prove the row's statement (the work); the ties are given (YtjblefcdihmdbaaDoorTie.lean); close each card by the builder's one call (the guide's Derived/Test/ToyasCard.lean, 'card_holds'). Laid BY PROGRAM, IN A SANDBOX (cutbox-door.mjs). By AI agents, Wed Nov 11 2026. No macro, syntax, notation, axiom, sorry.
-/
import Derived.Test.YtjblefcdihmdbaaDoorRows
import GoSem.ClaimSeven
namespace Go.Proofs.YtjblefcdihmdbaaDoor
namespace Rows

/-- THE TIED CARD OF 'laws.FnExactCanStop'. -/
def fnExactCanStopCard : Claim7 := { stood := { row := fnExactCanStopRow, standIns := [], harness := (true, "0f3562906575c60211e8f2f91176ac28981ed7c98f9e43f2ded48d0ce39ceb84"), looks := false }, kinds := [], alts := [], laidByText := true, laidKinds := [.data, .pinned], laidTests := true, laidLooks := .later }
def FnExactCanStopCardSaid : Prop := Claim7.holds Tryd.pinned (.plain (OpenSpec.ofChange fnExactCanStopSpec)) fnExactCanStopCard

/-- THE TIED CARD OF 'laws.FnExactSquaresReached'. -/
def fnExactSquaresReachedCard : Claim7 := { stood := { row := fnExactSquaresReachedRow, standIns := [], harness := (true, "0f3562906575c60211e8f2f91176ac28981ed7c98f9e43f2ded48d0ce39ceb84"), looks := false }, kinds := [], alts := [], laidByText := true, laidKinds := [.data, .pinned], laidTests := true, laidLooks := .later }
def FnExactSquaresReachedCardSaid : Prop := Claim7.holds Tryd.pinned (.plain (OpenSpec.ofChange fnExactSquaresReachedSpec)) fnExactSquaresReachedCard

/-- THE TIED CARD OF 'laws.FnExactCountRoutes'. -/
def fnExactCountRoutesCard : Claim7 := { stood := { row := fnExactCountRoutesRow, standIns := [], harness := (true, "0f3562906575c60211e8f2f91176ac28981ed7c98f9e43f2ded48d0ce39ceb84"), looks := false }, kinds := [], alts := [], laidByText := true, laidKinds := [.data, .pinned], laidTests := true, laidLooks := .later }
def FnExactCountRoutesCardSaid : Prop := Claim7.holds Tryd.pinned (.plain (OpenSpec.ofChange fnExactCountRoutesSpec)) fnExactCountRoutesCard

/-- THE TIED CARD OF 'laws.FnExactFewestToGoal'. -/
def fnExactFewestToGoalCard : Claim7 := { stood := { row := fnExactFewestToGoalRow, standIns := [], harness := (true, "0f3562906575c60211e8f2f91176ac28981ed7c98f9e43f2ded48d0ce39ceb84"), looks := false }, kinds := [], alts := [], laidByText := true, laidKinds := [.data, .pinned], laidTests := true, laidLooks := .later }
def FnExactFewestToGoalCardSaid : Prop := Claim7.holds Tryd.pinned (.plain (OpenSpec.ofChange fnExactFewestToGoalSpec)) fnExactFewestToGoalCard

/-- THE SECOND FORM's CARD OF 'laws.FnExactCanStop'. -/
def fnExactCanStopUptoCard : Claim7 := { stood := { row := fnExactCanStopUptoRow, standIns := [], harness := (true, "0f3562906575c60211e8f2f91176ac28981ed7c98f9e43f2ded48d0ce39ceb84"), looks := false }, kinds := [], alts := [], laidByText := true, laidKinds := [.data, .pinned], laidTests := true, laidLooks := .later }
def FnExactCanStopUptoCardSaid : Prop := Claim7.holds Tryd.pinned (.plain (OpenSpec.upto fnExactCanStopSpec)) fnExactCanStopUptoCard

/-- THE SECOND FORM's CARD OF 'laws.FnExactSquaresReached'. -/
def fnExactSquaresReachedUptoCard : Claim7 := { stood := { row := fnExactSquaresReachedUptoRow, standIns := [], harness := (true, "0f3562906575c60211e8f2f91176ac28981ed7c98f9e43f2ded48d0ce39ceb84"), looks := false }, kinds := [], alts := [], laidByText := true, laidKinds := [.data, .pinned], laidTests := true, laidLooks := .later }
def FnExactSquaresReachedUptoCardSaid : Prop := Claim7.holds Tryd.pinned (.plain (OpenSpec.upto fnExactSquaresReachedSpec)) fnExactSquaresReachedUptoCard

/-- THE SECOND FORM's CARD OF 'laws.FnExactCountRoutes'. -/
def fnExactCountRoutesUptoCard : Claim7 := { stood := { row := fnExactCountRoutesUptoRow, standIns := [], harness := (true, "0f3562906575c60211e8f2f91176ac28981ed7c98f9e43f2ded48d0ce39ceb84"), looks := false }, kinds := [], alts := [], laidByText := true, laidKinds := [.data, .pinned], laidTests := true, laidLooks := .later }
def FnExactCountRoutesUptoCardSaid : Prop := Claim7.holds Tryd.pinned (.plain (OpenSpec.upto fnExactCountRoutesSpec)) fnExactCountRoutesUptoCard

/-- THE SECOND FORM's CARD OF 'laws.FnExactFewestToGoal'. -/
def fnExactFewestToGoalUptoCard : Claim7 := { stood := { row := fnExactFewestToGoalUptoRow, standIns := [], harness := (true, "0f3562906575c60211e8f2f91176ac28981ed7c98f9e43f2ded48d0ce39ceb84"), looks := false }, kinds := [], alts := [], laidByText := true, laidKinds := [.data, .pinned], laidTests := true, laidLooks := .later }
def FnExactFewestToGoalUptoCardSaid : Prop := Claim7.holds Tryd.pinned (.plain (OpenSpec.upto fnExactFewestToGoalSpec)) fnExactFewestToGoalUptoCard
end Rows
end Go.Proofs.YtjblefcdihmdbaaDoor
