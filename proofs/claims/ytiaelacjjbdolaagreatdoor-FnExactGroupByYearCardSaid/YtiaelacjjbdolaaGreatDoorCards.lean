/-
  DERIVED. GIVEN WITH THE SEED: THE CARDS: each row of YtiaelacjjbdolaaGreatDoorRows.lean that lists a variable, with what it lists TIED to the program's text (the seventh form; the later family's looks); each row that meets fmt, with fmt's text TOLD by the authors' own Lean function (tested against real Go, not proved from fmt's source: count such statements apart). THE CARD IS WHAT COUNTS. Prove the row's statement (the work); the ties are given (YtiaelacjjbdolaaGreatDoorTie.lean); close each card by the builder's one call (the guide's Derived/Test/ToyasCard.lean, 'card_holds'). Laid BY PROGRAM, IN A SANDBOX (cutbox-door.mjs). By AI agents, Wed Nov 11 2026. No macro, syntax, notation, axiom, sorry.
-/
import Derived.Test.YtiaelacjjbdolaaGreatDoorRows
import GoSem.ClaimSeven
namespace Go.Proofs.YtiaelacjjbdolaaGreatDoor
namespace Rows

/-- THE TIED CARD OF 'laws.FnExactGroupByYear'. -/
def fnExactGroupByYearCard : Claim7 := { stood := { row := fnExactGroupByYearRow, standIns := [], harness := (true, "1f6b0486704f0beb10008054bee871ac683a3f0fe5b8a53eaac44f984f29e72b"), looks := false }, kinds := [], alts := [], laidByText := true, laidKinds := [.data, .pinned], laidTests := true, laidLooks := .later }
def FnExactGroupByYearCardSaid : Prop := Claim7.holds Tryz.pinned (.plain (OpenSpec.ofChange fnExactGroupByYearSpec)) fnExactGroupByYearCard

/-- THE SECOND FORM's CARD OF 'laws.FnExactGroupByYear'. -/
def fnExactGroupByYearUptoCard : Claim7 := { stood := { row := fnExactGroupByYearUptoRow, standIns := [], harness := (true, "1f6b0486704f0beb10008054bee871ac683a3f0fe5b8a53eaac44f984f29e72b"), looks := false }, kinds := [], alts := [], laidByText := true, laidKinds := [.data, .pinned], laidTests := true, laidLooks := .later }
def FnExactGroupByYearUptoCardSaid : Prop := Claim7.holds Tryz.pinned (.plain (OpenSpec.upto fnExactGroupByYearSpec)) fnExactGroupByYearUptoCard
end Rows
end Go.Proofs.YtiaelacjjbdolaaGreatDoor
