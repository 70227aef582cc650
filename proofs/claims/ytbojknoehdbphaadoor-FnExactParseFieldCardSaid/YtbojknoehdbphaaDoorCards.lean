/-
  DERIVED. GIVEN WITH THE SEED: THE CARDS: each row of YtbojknoehdbphaaDoorRows.lean that lists a variable, with what it lists TIED to the program's text (the seventh form; the later family's looks); each row that meets fmt, with fmt's text TOLD by the authors' own Lean function (tested against real Go, not proved from fmt's source: count such statements apart). THE CARD IS WHAT COUNTS. Prove the row's statement (the work); the ties are given (YtbojknoehdbphaaDoorTie.lean); close each card by the builder's one call (the guide's Derived/Test/ToyasCard.lean, 'card_holds'). Laid BY PROGRAM, IN A SANDBOX (cutbox-door.mjs). By AI agents, Wed Nov 11 2026. No macro, syntax, notation, axiom, sorry.
-/
import Derived.Test.YtbojknoehdbphaaDoorRows
import GoSem.ClaimSeven
namespace Go.Proofs.YtbojknoehdbphaaDoor
namespace Rows

/-- THE TIED CARD OF 'laws.FnExactFieldText'. -/
def fnExactFieldTextCard : Claim7 := { stood := { row := fnExactFieldTextRow, standIns := [], harness := (true, "70237993ed5f07a70d3622cac2a1b71146582cc290f1720aca3fc658b6c4e32a"), looks := false }, kinds := [], alts := [], laidByText := true, laidKinds := [.data, .data, .data], laidTests := true, laidLooks := .later }
def FnExactFieldTextCardSaid : Prop := Claim7.holds Tryd.pinned (.plain (OpenSpec.ofChange fnExactFieldTextSpec)) fnExactFieldTextCard

/-- THE TIED CARD OF 'laws.FnExactParseField'. -/
def fnExactParseFieldCard : Claim7 := { stood := { row := fnExactParseFieldRow, standIns := [], harness := (true, "70237993ed5f07a70d3622cac2a1b71146582cc290f1720aca3fc658b6c4e32a"), looks := false }, kinds := [], alts := [], laidByText := true, laidKinds := [.data, .data, .data, .data, .pinned], laidTests := true, laidLooks := .later }
def FnExactParseFieldCardSaid : Prop := Claim7.holds Tryd.pinned (.plain (OpenSpec.ofChange fnExactParseFieldSpec)) fnExactParseFieldCard

/-- THE SECOND FORM's CARD OF 'laws.FnExactFieldText'. -/
def fnExactFieldTextUptoCard : Claim7 := { stood := { row := fnExactFieldTextUptoRow, standIns := [], harness := (true, "70237993ed5f07a70d3622cac2a1b71146582cc290f1720aca3fc658b6c4e32a"), looks := false }, kinds := [], alts := [], laidByText := true, laidKinds := [.data, .data, .data], laidTests := true, laidLooks := .later }
def FnExactFieldTextUptoCardSaid : Prop := Claim7.holds Tryd.pinned (.plain (OpenSpec.upto fnExactFieldTextSpec)) fnExactFieldTextUptoCard

/-- THE SECOND FORM's CARD OF 'laws.FnExactParseField'. -/
def fnExactParseFieldUptoCard : Claim7 := { stood := { row := fnExactParseFieldUptoRow, standIns := [], harness := (true, "70237993ed5f07a70d3622cac2a1b71146582cc290f1720aca3fc658b6c4e32a"), looks := false }, kinds := [], alts := [], laidByText := true, laidKinds := [.data, .data, .data, .data, .pinned], laidTests := true, laidLooks := .later }
def FnExactParseFieldUptoCardSaid : Prop := Claim7.holds Tryd.pinned (.plain (OpenSpec.upto fnExactParseFieldSpec)) fnExactParseFieldUptoCard
end Rows
end Go.Proofs.YtbojknoehdbphaaDoor
