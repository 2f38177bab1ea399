/-
  DERIVED. GIVEN WITH THE SEED: THE CARDS: each row of YthbcfjcmkngieaaGreatDoorRows.lean that lists a variable, with what it lists TIED to the program's text (the seventh form; the later family's looks); each row that meets fmt, with fmt's text TOLD by the authors' own Lean function (tested against real Go, not proved from fmt's source: count such statements apart). THE CARD IS WHAT COUNTS. Prove the row's statement (the work); the ties are given (YthbcfjcmkngieaaGreatDoorTie.lean); close each card by the builder's one call (the guide's Derived/Test/ToyasCard.lean, 'card_holds'). Laid BY PROGRAM, IN A SANDBOX (cutbox-door.mjs). By AI agents, Wed Nov 11 2026. No macro, syntax, notation, axiom, sorry.
-/
import Derived.Test.YthbcfjcmkngieaaGreatDoorRows
import GoSem.ClaimSeven
namespace Go.Proofs.YthbcfjcmkngieaaGreatDoor
namespace Rows

/-- THE TIED CARD OF 'laws.FnExactSortKeys'. -/
def fnExactSortKeysCard : Claim7 := { stood := { row := fnExactSortKeysRow, standIns := [], harness := (true, "9a618f45cbcf7261b82f9186c45e90adc5b5e0dc1910977a7d472162cf308e02"), looks := false }, kinds := [], alts := [], laidByText := true, laidKinds := [.data, .pinned], laidTests := true, laidLooks := .later }
def FnExactSortKeysCardSaid : Prop := Claim7.holds Tryz.pinned (.plain (OpenSpec.ofChange fnExactSortKeysSpec)) fnExactSortKeysCard

/-- THE SECOND FORM's CARD OF 'laws.FnExactSortKeys'. -/
def fnExactSortKeysUptoCard : Claim7 := { stood := { row := fnExactSortKeysUptoRow, standIns := [], harness := (true, "9a618f45cbcf7261b82f9186c45e90adc5b5e0dc1910977a7d472162cf308e02"), looks := false }, kinds := [], alts := [], laidByText := true, laidKinds := [.data, .pinned], laidTests := true, laidLooks := .later }
def FnExactSortKeysUptoCardSaid : Prop := Claim7.holds Tryz.pinned (.plain (OpenSpec.upto fnExactSortKeysSpec)) fnExactSortKeysUptoCard
end Rows
end Go.Proofs.YthbcfjcmkngieaaGreatDoor
