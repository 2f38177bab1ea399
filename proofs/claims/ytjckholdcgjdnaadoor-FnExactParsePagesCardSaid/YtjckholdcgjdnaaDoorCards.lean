/-
  DERIVED. GIVEN WITH THE SEED: THE CARDS: each row of YtjckholdcgjdnaaDoorRows.lean that lists a variable, with what it lists TIED to the program's text (the seventh form; the later family's looks); each row that meets fmt, with fmt's text TOLD by the authors' own Lean function (tested against real Go, not proved from fmt's source: count such statements apart). THE CARD IS WHAT COUNTS. Prove the row's statement (the work); the ties are given (YtjckholdcgjdnaaDoorTie.lean); close each card by the builder's one call (the guide's Derived/Test/ToyasCard.lean, 'card_holds'). Laid BY PROGRAM, IN A SANDBOX (cutbox-door.mjs). By AI agents, Wed Nov 11 2026. No macro, syntax, notation, axiom, sorry.
-/
import Derived.Test.YtjckholdcgjdnaaDoorRows
import GoSem.ClaimSeven
namespace Go.Proofs.YtjckholdcgjdnaaDoor
namespace Rows

/-- THE TIED CARD OF 'laws.FnExactCollapseRange'. -/
def fnExactCollapseRangeCard : Claim7 := { stood := { row := fnExactCollapseRangeRow, standIns := [], harness := (true, "bc921892a10cbcd2f7e689a2ec31c2e116d4112b005f5b635cfbd3f66696c797"), looks := true }, kinds := [], alts := [], laidByText := true, laidKinds := [.data, .data, .data], laidTests := true, laidLooks := .later }
def FnExactCollapseRangeCardSaid : Prop := Claim7.holds Tryd.pinned (.plain (OpenSpec.ofChange fnExactCollapseRangeSpec)) fnExactCollapseRangeCard

/-- THE TIED CARD OF 'laws.FnExactFormatPages'. -/
def fnExactFormatPagesCard : Claim7 := { stood := { row := fnExactFormatPagesRow, standIns := [], harness := (true, "bc921892a10cbcd2f7e689a2ec31c2e116d4112b005f5b635cfbd3f66696c797"), looks := true }, kinds := [], alts := [], laidByText := true, laidKinds := [.data, .data, .data], laidTests := true, laidLooks := .later }
def FnExactFormatPagesCardSaid : Prop := Claim7.holds Tryd.pinned (.plain (OpenSpec.ofChange fnExactFormatPagesSpec)) fnExactFormatPagesCard

/-- THE TIED CARD OF 'laws.FnExactExpandRange'. -/
def fnExactExpandRangeCard : Claim7 := { stood := { row := fnExactExpandRangeRow, standIns := [], harness := (true, "bc921892a10cbcd2f7e689a2ec31c2e116d4112b005f5b635cfbd3f66696c797"), looks := true }, kinds := [], alts := [], laidByText := true, laidKinds := [.data, .data, .data, .sentinel, .sentinel], laidTests := true, laidLooks := .later }
def FnExactExpandRangeCardSaid : Prop := Claim7.holds Tryd.pinned (.plain (OpenSpec.ofChange fnExactExpandRangeSpec)) fnExactExpandRangeCard

/-- THE TIED CARD OF 'laws.FnPageSets'. -/
def fnPageSetsCard : Claim7 := { stood := { row := fnPageSetsRow, standIns := [], harness := (true, "bc921892a10cbcd2f7e689a2ec31c2e116d4112b005f5b635cfbd3f66696c797"), looks := true }, kinds := [], alts := [], laidByText := true, laidKinds := [.data, .data, .data], laidTests := true, laidLooks := .later }
def FnPageSetsCardSaid : Prop := Claim7.holds Tryd.pinned (.plain (OpenSpec.ofChange fnPageSetsSpec)) fnPageSetsCard

/-- THE TIED CARD OF 'laws.FnExactParsePages'. -/
def fnExactParsePagesCard : Claim7 := { stood := { row := fnExactParsePagesRow, standIns := [], harness := (true, "bc921892a10cbcd2f7e689a2ec31c2e116d4112b005f5b635cfbd3f66696c797"), looks := true }, kinds := [], alts := [], laidByText := true, laidKinds := [.data, .data, .data, .data, .sentinel, .sentinel, .pinned], laidTests := true, laidLooks := .later }
def FnExactParsePagesCardSaid : Prop := Claim7.holds Tryd.pinned (.plain (OpenSpec.ofChange fnExactParsePagesSpec)) fnExactParsePagesCard

/-- THE TIED CARD OF 'laws.FnExactLocatorText'. -/
def fnExactLocatorTextCard : Claim7 := { stood := { row := fnExactLocatorTextRow, standIns := [], harness := (true, "bc921892a10cbcd2f7e689a2ec31c2e116d4112b005f5b635cfbd3f66696c797"), looks := true }, kinds := [], alts := [], laidByText := true, laidKinds := [.data, .data, .data], laidTests := true, laidLooks := .later }
def FnExactLocatorTextCardSaid : Prop := Claim7.holds Tryd.pinned (.plain (OpenSpec.ofChange fnExactLocatorTextSpec)) fnExactLocatorTextCard

/-- THE SECOND FORM's CARD OF 'laws.FnExactCollapseRange'. -/
def fnExactCollapseRangeUptoCard : Claim7 := { stood := { row := fnExactCollapseRangeUptoRow, standIns := [], harness := (true, "bc921892a10cbcd2f7e689a2ec31c2e116d4112b005f5b635cfbd3f66696c797"), looks := true }, kinds := [], alts := [], laidByText := true, laidKinds := [.data, .data, .data], laidTests := true, laidLooks := .later }
def FnExactCollapseRangeUptoCardSaid : Prop := Claim7.holds Tryd.pinned (.plain (OpenSpec.upto fnExactCollapseRangeSpec)) fnExactCollapseRangeUptoCard

/-- THE SECOND FORM's CARD OF 'laws.FnExactFormatPages'. -/
def fnExactFormatPagesUptoCard : Claim7 := { stood := { row := fnExactFormatPagesUptoRow, standIns := [], harness := (true, "bc921892a10cbcd2f7e689a2ec31c2e116d4112b005f5b635cfbd3f66696c797"), looks := true }, kinds := [], alts := [], laidByText := true, laidKinds := [.data, .data, .data], laidTests := true, laidLooks := .later }
def FnExactFormatPagesUptoCardSaid : Prop := Claim7.holds Tryd.pinned (.plain (OpenSpec.upto fnExactFormatPagesSpec)) fnExactFormatPagesUptoCard

/-- THE SECOND FORM's CARD OF 'laws.FnExactExpandRange'. -/
def fnExactExpandRangeUptoCard : Claim7 := { stood := { row := fnExactExpandRangeUptoRow, standIns := [], harness := (true, "bc921892a10cbcd2f7e689a2ec31c2e116d4112b005f5b635cfbd3f66696c797"), looks := true }, kinds := [], alts := [], laidByText := true, laidKinds := [.data, .data, .data, .sentinel, .sentinel], laidTests := true, laidLooks := .later }
def FnExactExpandRangeUptoCardSaid : Prop := Claim7.holds Tryd.pinned (.plain (OpenSpec.upto fnExactExpandRangeSpec)) fnExactExpandRangeUptoCard

/-- THE SECOND FORM's CARD OF 'laws.FnPageSets'. -/
def fnPageSetsUptoCard : Claim7 := { stood := { row := fnPageSetsUptoRow, standIns := [], harness := (true, "bc921892a10cbcd2f7e689a2ec31c2e116d4112b005f5b635cfbd3f66696c797"), looks := true }, kinds := [], alts := [], laidByText := true, laidKinds := [.data, .data, .data], laidTests := true, laidLooks := .later }
def FnPageSetsUptoCardSaid : Prop := Claim7.holds Tryd.pinned (.plain (OpenSpec.upto fnPageSetsSpec)) fnPageSetsUptoCard

/-- THE SECOND FORM's CARD OF 'laws.FnExactParsePages'. -/
def fnExactParsePagesUptoCard : Claim7 := { stood := { row := fnExactParsePagesUptoRow, standIns := [], harness := (true, "bc921892a10cbcd2f7e689a2ec31c2e116d4112b005f5b635cfbd3f66696c797"), looks := true }, kinds := [], alts := [], laidByText := true, laidKinds := [.data, .data, .data, .data, .sentinel, .sentinel, .pinned], laidTests := true, laidLooks := .later }
def FnExactParsePagesUptoCardSaid : Prop := Claim7.holds Tryd.pinned (.plain (OpenSpec.upto fnExactParsePagesSpec)) fnExactParsePagesUptoCard

/-- THE SECOND FORM's CARD OF 'laws.FnExactLocatorText'. -/
def fnExactLocatorTextUptoCard : Claim7 := { stood := { row := fnExactLocatorTextUptoRow, standIns := [], harness := (true, "bc921892a10cbcd2f7e689a2ec31c2e116d4112b005f5b635cfbd3f66696c797"), looks := true }, kinds := [], alts := [], laidByText := true, laidKinds := [.data, .data, .data], laidTests := true, laidLooks := .later }
def FnExactLocatorTextUptoCardSaid : Prop := Claim7.holds Tryd.pinned (.plain (OpenSpec.upto fnExactLocatorTextSpec)) fnExactLocatorTextUptoCard
end Rows
end Go.Proofs.YtjckholdcgjdnaaDoor
