/-
  DERIVED. GIVEN WITH THE SEED: THE CARDS: each row of YtbnagolaacejoaaGreatDoorRows.lean that lists a variable, with what it lists TIED to the program's text (the seventh form; the later family's looks); each row that meets fmt, with fmt's text TOLD by the authors' own Lean function (tested against real Go, not proved from fmt's source: count such statements apart). THE CARD IS WHAT COUNTS. Prove the row's statement (the work); the ties are given (YtbnagolaacejoaaGreatDoorTie.lean); close each card by the builder's one call (the guide's Derived/Test/ToyasCard.lean, 'card_holds'). Laid BY PROGRAM, IN A SANDBOX (cutbox-door.mjs). By AI agents, Wed Nov 11 2026. No macro, syntax, notation, axiom, sorry.
-/
import Derived.Test.YtbnagolaacejoaaGreatDoorRows
import GoSem.ClaimSeven
namespace Go.Proofs.YtbnagolaacejoaaGreatDoor
namespace Rows

/-- THE TIED CARD OF 'laws.FnExactInsertPlace'. -/
def fnExactInsertPlaceCard : Claim7 := { stood := { row := fnExactInsertPlaceRow, standIns := [], harness := (true, "b0c0a312b4df8e2295758e1292f1f12b0f485b78ef615b43a97c67a64a87b342"), looks := false }, kinds := [], alts := [], laidByText := true, laidKinds := [.data, .pinned], laidTests := true, laidLooks := .later }
def FnExactInsertPlaceCardSaid : Prop := Claim7.holds Tryz.pinned (.plain (OpenSpec.ofChange fnExactInsertPlaceSpec)) fnExactInsertPlaceCard

/-- THE SECOND FORM's CARD OF 'laws.FnExactInsertPlace'. -/
def fnExactInsertPlaceUptoCard : Claim7 := { stood := { row := fnExactInsertPlaceUptoRow, standIns := [], harness := (true, "b0c0a312b4df8e2295758e1292f1f12b0f485b78ef615b43a97c67a64a87b342"), looks := false }, kinds := [], alts := [], laidByText := true, laidKinds := [.data, .pinned], laidTests := true, laidLooks := .later }
def FnExactInsertPlaceUptoCardSaid : Prop := Claim7.holds Tryz.pinned (.plain (OpenSpec.upto fnExactInsertPlaceSpec)) fnExactInsertPlaceUptoCard
end Rows
end Go.Proofs.YtbnagolaacejoaaGreatDoor
