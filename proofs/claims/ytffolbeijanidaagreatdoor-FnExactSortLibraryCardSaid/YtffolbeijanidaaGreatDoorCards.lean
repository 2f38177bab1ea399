/-
  DERIVED. GIVEN WITH THE SEED: THE CARDS: each row of YtffolbeijanidaaGreatDoorRows.lean that lists a variable, with what it lists TIED to the program's text (the seventh form; the later family's looks); each row that meets fmt, with fmt's text TOLD by the authors' own Lean function (tested against real Go, not proved from fmt's source: count such statements apart). THE CARD IS WHAT COUNTS. Prove the row's statement (the work); the ties are given (YtffolbeijanidaaGreatDoorTie.lean); close each card by the builder's one call (the guide's Derived/Test/ToyasCard.lean, 'card_holds'). Laid BY PROGRAM, IN A SANDBOX (cutbox-door.mjs). By AI agents, Wed Nov 11 2026. No macro, syntax, notation, axiom, sorry.
-/
import Derived.Test.YtffolbeijanidaaGreatDoorRows
import GoSem.ClaimSeven
namespace Go.Proofs.YtffolbeijanidaaGreatDoor
namespace Rows

/-- THE TIED CARD OF 'laws.FnExactSortLibrary'. -/
def fnExactSortLibraryCard : Claim7 := { stood := { row := fnExactSortLibraryRow, standIns := [], harness := (true, "96893a3ed93342941803feee8362a3e5c41049c31776d55aea0db464541736ac"), looks := false }, kinds := [], alts := [], laidByText := true, laidKinds := [.data, .pinned], laidTests := true, laidLooks := .later }
def FnExactSortLibraryCardSaid : Prop := Claim7.holds Tryz.pinned (.plain (OpenSpec.ofChange fnExactSortLibrarySpec)) fnExactSortLibraryCard

/-- THE SECOND FORM's CARD OF 'laws.FnExactSortLibrary'. -/
def fnExactSortLibraryUptoCard : Claim7 := { stood := { row := fnExactSortLibraryUptoRow, standIns := [], harness := (true, "96893a3ed93342941803feee8362a3e5c41049c31776d55aea0db464541736ac"), looks := false }, kinds := [], alts := [], laidByText := true, laidKinds := [.data, .pinned], laidTests := true, laidLooks := .later }
def FnExactSortLibraryUptoCardSaid : Prop := Claim7.holds Tryz.pinned (.plain (OpenSpec.upto fnExactSortLibrarySpec)) fnExactSortLibraryUptoCard
end Rows
end Go.Proofs.YtffolbeijanidaaGreatDoor
