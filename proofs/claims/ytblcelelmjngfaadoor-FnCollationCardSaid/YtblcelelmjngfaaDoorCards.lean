/-
  DERIVED. GIVEN WITH THE SEED: THE CARDS: each row of YtblcelelmjngfaaDoorRows.lean that lists a variable, with what it lists TIED to the program's text (the seventh form; the later family's looks); each row that meets fmt, with fmt's text TOLD by the authors' own Lean function (tested against real Go, not proved from fmt's source: count such statements apart). THE CARD IS WHAT COUNTS. Prove the row's statement (the work); the ties are given (YtblcelelmjngfaaDoorTie.lean); close each card by the builder's one call (the guide's Derived/Test/ToyasCard.lean, 'card_holds'). Laid BY PROGRAM, IN A SANDBOX (cutbox-door.mjs). By AI agents, Wed Nov 11 2026. No macro, syntax, notation, axiom, sorry.
-/
import Derived.Test.YtblcelelmjngfaaDoorRows
import GoSem.ClaimSeven
namespace Go.Proofs.YtblcelelmjngfaaDoor
namespace Rows

/-- THE TIED CARD OF 'laws.FnExactNaturalCompare'. -/
def fnExactNaturalCompareCard : Claim7 := { stood := { row := fnExactNaturalCompareRow, standIns := [], harness := (true, "b39b1474e2f366252cc0782c574d9f269234f90e728188a818a8071cb2175f69"), looks := false }, kinds := [], alts := [], laidByText := true, laidKinds := [.data, .pinned], laidTests := true, laidLooks := .later }
def FnExactNaturalCompareCardSaid : Prop := Claim7.holds Tryd.pinned (.plain (OpenSpec.ofChange fnExactNaturalCompareSpec)) fnExactNaturalCompareCard

/-- THE TIED CARD OF 'laws.FnCollation'. -/
def fnCollationCard : Claim7 := { stood := { row := fnCollationRow, standIns := [], harness := (true, "b39b1474e2f366252cc0782c574d9f269234f90e728188a818a8071cb2175f69"), looks := false }, kinds := [], alts := [], laidByText := true, laidKinds := [.data, .pinned], laidTests := true, laidLooks := .later }
def FnCollationCardSaid : Prop := Claim7.holds Tryd.pinned (.plain (OpenSpec.ofChange fnCollationSpec)) fnCollationCard

/-- THE SECOND FORM's CARD OF 'laws.FnExactNaturalCompare'. -/
def fnExactNaturalCompareUptoCard : Claim7 := { stood := { row := fnExactNaturalCompareUptoRow, standIns := [], harness := (true, "b39b1474e2f366252cc0782c574d9f269234f90e728188a818a8071cb2175f69"), looks := false }, kinds := [], alts := [], laidByText := true, laidKinds := [.data, .pinned], laidTests := true, laidLooks := .later }
def FnExactNaturalCompareUptoCardSaid : Prop := Claim7.holds Tryd.pinned (.plain (OpenSpec.upto fnExactNaturalCompareSpec)) fnExactNaturalCompareUptoCard

/-- THE SECOND FORM's CARD OF 'laws.FnCollation'. -/
def fnCollationUptoCard : Claim7 := { stood := { row := fnCollationUptoRow, standIns := [], harness := (true, "b39b1474e2f366252cc0782c574d9f269234f90e728188a818a8071cb2175f69"), looks := false }, kinds := [], alts := [], laidByText := true, laidKinds := [.data, .pinned], laidTests := true, laidLooks := .later }
def FnCollationUptoCardSaid : Prop := Claim7.holds Tryd.pinned (.plain (OpenSpec.upto fnCollationSpec)) fnCollationUptoCard
end Rows
end Go.Proofs.YtblcelelmjngfaaDoor
