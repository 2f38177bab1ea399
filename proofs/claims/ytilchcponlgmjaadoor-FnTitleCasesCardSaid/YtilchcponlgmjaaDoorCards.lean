/-
  DERIVED. GIVEN WITH THE SEED: THE CARDS: each row of YtilchcponlgmjaaDoorRows.lean that lists a variable, with what it lists TIED to the program's text (the seventh form; the later family's looks); each row that meets fmt, with fmt's text TOLD by the authors' own Lean function (tested against real Go, not proved from fmt's source: count such statements apart). THE CARD IS WHAT COUNTS. Prove the row's statement (the work); the ties are given (YtilchcponlgmjaaDoorTie.lean); close each card by the builder's one call (the guide's Derived/Test/ToyasCard.lean, 'card_holds'). Laid BY PROGRAM, IN A SANDBOX (cutbox-door.mjs). By AI agents, Wed Nov 11 2026. No macro, syntax, notation, axiom, sorry.
-/
import Derived.Test.YtilchcponlgmjaaDoorRows
import GoSem.ClaimSeven
namespace Go.Proofs.YtilchcponlgmjaaDoor
namespace Rows

/-- THE TIED CARD OF 'laws.FnExactShortTitle'. -/
def fnExactShortTitleCard : Claim7 := { stood := { row := fnExactShortTitleRow, standIns := [], harness := (true, "0a83eb1b161d3c857febc1bef0db88ef5467edc97c2d83e6910bb0ae21b2571a"), looks := false }, kinds := [], alts := [], laidByText := true, laidKinds := [.data, .pinned], laidTests := true, laidLooks := .later }
def FnExactShortTitleCardSaid : Prop := Claim7.holds Tryd.pinned (.plain (OpenSpec.ofChange fnExactShortTitleSpec)) fnExactShortTitleCard

/-- THE TIED CARD OF 'laws.FnExactProtectTitle'. -/
def fnExactProtectTitleCard : Claim7 := { stood := { row := fnExactProtectTitleRow, standIns := [], harness := (true, "0a83eb1b161d3c857febc1bef0db88ef5467edc97c2d83e6910bb0ae21b2571a"), looks := false }, kinds := [], alts := [], laidByText := true, laidKinds := [.data, .pinned], laidTests := true, laidLooks := .later }
def FnExactProtectTitleCardSaid : Prop := Claim7.holds Tryd.pinned (.plain (OpenSpec.ofChange fnExactProtectTitleSpec)) fnExactProtectTitleCard

/-- THE TIED CARD OF 'laws.FnExactSentenceCase'. -/
def fnExactSentenceCaseCard : Claim7 := { stood := { row := fnExactSentenceCaseRow, standIns := [], harness := (true, "0a83eb1b161d3c857febc1bef0db88ef5467edc97c2d83e6910bb0ae21b2571a"), looks := false }, kinds := [], alts := [], laidByText := true, laidKinds := [.data, .pinned], laidTests := true, laidLooks := .later }
def FnExactSentenceCaseCardSaid : Prop := Claim7.holds Tryd.pinned (.plain (OpenSpec.ofChange fnExactSentenceCaseSpec)) fnExactSentenceCaseCard

/-- THE TIED CARD OF 'laws.FnExactTitleCase'. -/
def fnExactTitleCaseCard : Claim7 := { stood := { row := fnExactTitleCaseRow, standIns := [], harness := (true, "0a83eb1b161d3c857febc1bef0db88ef5467edc97c2d83e6910bb0ae21b2571a"), looks := false }, kinds := [], alts := [], laidByText := true, laidKinds := [.data, .pinned], laidTests := true, laidLooks := .later }
def FnExactTitleCaseCardSaid : Prop := Claim7.holds Tryd.pinned (.plain (OpenSpec.ofChange fnExactTitleCaseSpec)) fnExactTitleCaseCard

/-- THE TIED CARD OF 'laws.FnExactSortTitle'. -/
def fnExactSortTitleCard : Claim7 := { stood := { row := fnExactSortTitleRow, standIns := [], harness := (true, "0a83eb1b161d3c857febc1bef0db88ef5467edc97c2d83e6910bb0ae21b2571a"), looks := false }, kinds := [], alts := [], laidByText := true, laidKinds := [.data, .pinned], laidTests := true, laidLooks := .later }
def FnExactSortTitleCardSaid : Prop := Claim7.holds Tryd.pinned (.plain (OpenSpec.ofChange fnExactSortTitleSpec)) fnExactSortTitleCard

/-- THE TIED CARD OF 'laws.FnTitleCases'. -/
def fnTitleCasesCard : Claim7 := { stood := { row := fnTitleCasesRow, standIns := [], harness := (true, "0a83eb1b161d3c857febc1bef0db88ef5467edc97c2d83e6910bb0ae21b2571a"), looks := false }, kinds := [], alts := [], laidByText := true, laidKinds := [.data, .pinned], laidTests := true, laidLooks := .later }
def FnTitleCasesCardSaid : Prop := Claim7.holds Tryd.pinned (.plain (OpenSpec.ofChange fnTitleCasesSpec)) fnTitleCasesCard

/-- THE TIED CARD OF 'laws.FnTitleParts'. -/
def fnTitlePartsCard : Claim7 := { stood := { row := fnTitlePartsRow, standIns := [], harness := (true, "0a83eb1b161d3c857febc1bef0db88ef5467edc97c2d83e6910bb0ae21b2571a"), looks := false }, kinds := [], alts := [], laidByText := true, laidKinds := [.data, .pinned], laidTests := true, laidLooks := .later }
def FnTitlePartsCardSaid : Prop := Claim7.holds Tryd.pinned (.plain (OpenSpec.ofChange fnTitlePartsSpec)) fnTitlePartsCard

/-- THE SECOND FORM's CARD OF 'laws.FnExactShortTitle'. -/
def fnExactShortTitleUptoCard : Claim7 := { stood := { row := fnExactShortTitleUptoRow, standIns := [], harness := (true, "0a83eb1b161d3c857febc1bef0db88ef5467edc97c2d83e6910bb0ae21b2571a"), looks := false }, kinds := [], alts := [], laidByText := true, laidKinds := [.data, .pinned], laidTests := true, laidLooks := .later }
def FnExactShortTitleUptoCardSaid : Prop := Claim7.holds Tryd.pinned (.plain (OpenSpec.upto fnExactShortTitleSpec)) fnExactShortTitleUptoCard

/-- THE SECOND FORM's CARD OF 'laws.FnExactProtectTitle'. -/
def fnExactProtectTitleUptoCard : Claim7 := { stood := { row := fnExactProtectTitleUptoRow, standIns := [], harness := (true, "0a83eb1b161d3c857febc1bef0db88ef5467edc97c2d83e6910bb0ae21b2571a"), looks := false }, kinds := [], alts := [], laidByText := true, laidKinds := [.data, .pinned], laidTests := true, laidLooks := .later }
def FnExactProtectTitleUptoCardSaid : Prop := Claim7.holds Tryd.pinned (.plain (OpenSpec.upto fnExactProtectTitleSpec)) fnExactProtectTitleUptoCard

/-- THE SECOND FORM's CARD OF 'laws.FnExactSentenceCase'. -/
def fnExactSentenceCaseUptoCard : Claim7 := { stood := { row := fnExactSentenceCaseUptoRow, standIns := [], harness := (true, "0a83eb1b161d3c857febc1bef0db88ef5467edc97c2d83e6910bb0ae21b2571a"), looks := false }, kinds := [], alts := [], laidByText := true, laidKinds := [.data, .pinned], laidTests := true, laidLooks := .later }
def FnExactSentenceCaseUptoCardSaid : Prop := Claim7.holds Tryd.pinned (.plain (OpenSpec.upto fnExactSentenceCaseSpec)) fnExactSentenceCaseUptoCard

/-- THE SECOND FORM's CARD OF 'laws.FnExactTitleCase'. -/
def fnExactTitleCaseUptoCard : Claim7 := { stood := { row := fnExactTitleCaseUptoRow, standIns := [], harness := (true, "0a83eb1b161d3c857febc1bef0db88ef5467edc97c2d83e6910bb0ae21b2571a"), looks := false }, kinds := [], alts := [], laidByText := true, laidKinds := [.data, .pinned], laidTests := true, laidLooks := .later }
def FnExactTitleCaseUptoCardSaid : Prop := Claim7.holds Tryd.pinned (.plain (OpenSpec.upto fnExactTitleCaseSpec)) fnExactTitleCaseUptoCard

/-- THE SECOND FORM's CARD OF 'laws.FnExactSortTitle'. -/
def fnExactSortTitleUptoCard : Claim7 := { stood := { row := fnExactSortTitleUptoRow, standIns := [], harness := (true, "0a83eb1b161d3c857febc1bef0db88ef5467edc97c2d83e6910bb0ae21b2571a"), looks := false }, kinds := [], alts := [], laidByText := true, laidKinds := [.data, .pinned], laidTests := true, laidLooks := .later }
def FnExactSortTitleUptoCardSaid : Prop := Claim7.holds Tryd.pinned (.plain (OpenSpec.upto fnExactSortTitleSpec)) fnExactSortTitleUptoCard

/-- THE SECOND FORM's CARD OF 'laws.FnTitleCases'. -/
def fnTitleCasesUptoCard : Claim7 := { stood := { row := fnTitleCasesUptoRow, standIns := [], harness := (true, "0a83eb1b161d3c857febc1bef0db88ef5467edc97c2d83e6910bb0ae21b2571a"), looks := false }, kinds := [], alts := [], laidByText := true, laidKinds := [.data, .pinned], laidTests := true, laidLooks := .later }
def FnTitleCasesUptoCardSaid : Prop := Claim7.holds Tryd.pinned (.plain (OpenSpec.upto fnTitleCasesSpec)) fnTitleCasesUptoCard

/-- THE SECOND FORM's CARD OF 'laws.FnTitleParts'. -/
def fnTitlePartsUptoCard : Claim7 := { stood := { row := fnTitlePartsUptoRow, standIns := [], harness := (true, "0a83eb1b161d3c857febc1bef0db88ef5467edc97c2d83e6910bb0ae21b2571a"), looks := false }, kinds := [], alts := [], laidByText := true, laidKinds := [.data, .pinned], laidTests := true, laidLooks := .later }
def FnTitlePartsUptoCardSaid : Prop := Claim7.holds Tryd.pinned (.plain (OpenSpec.upto fnTitlePartsSpec)) fnTitlePartsUptoCard
end Rows
end Go.Proofs.YtilchcponlgmjaaDoor
