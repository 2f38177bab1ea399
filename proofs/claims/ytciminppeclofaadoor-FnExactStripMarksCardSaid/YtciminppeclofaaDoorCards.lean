/-
  DERIVED. GIVEN WITH THE SEED: THE CARDS: each row of YtciminppeclofaaDoorRows.lean that lists a variable, with what it lists TIED to the program's text (the seventh form; the later family's looks); each row that meets fmt, with fmt's text TOLD by the authors' own Lean function (tested against real Go, not proved from fmt's source: count such statements apart). THE CARD IS WHAT COUNTS. Prove the row's statement (the work); the ties are given (YtciminppeclofaaDoorTie.lean); close each card by the builder's one call (the guide's Derived/Test/ToyasCard.lean, 'card_holds'). Laid BY PROGRAM, IN A SANDBOX (cutbox-door.mjs). By AI agents, Wed Nov 11 2026. No macro, syntax, notation, axiom, sorry.
-/
import Derived.Test.YtciminppeclofaaDoorRows
import GoSem.ClaimSeven
namespace Go.Proofs.YtciminppeclofaaDoor
namespace Rows

/-- THE TIED CARD OF 'laws.FnExactEndWith'. -/
def fnExactEndWithCard : Claim7 := { stood := { row := fnExactEndWithRow, standIns := [], harness := (true, "4110c4e9cd9aa53ea8efce823dbdffb4707841bb52c31f9511d753750f50971e"), looks := false }, kinds := [], alts := [], laidByText := true, laidKinds := [.data, .pinned], laidTests := true, laidLooks := .later }
def FnExactEndWithCardSaid : Prop := Claim7.holds Tryd.pinned (.plain (OpenSpec.ofChange fnExactEndWithSpec)) fnExactEndWithCard

/-- THE TIED CARD OF 'laws.FnExactStripMarks'. -/
def fnExactStripMarksCard : Claim7 := { stood := { row := fnExactStripMarksRow, standIns := [], harness := (true, "4110c4e9cd9aa53ea8efce823dbdffb4707841bb52c31f9511d753750f50971e"), looks := false }, kinds := [], alts := [], laidByText := true, laidKinds := [.data, .pinned], laidTests := true, laidLooks := .later }
def FnExactStripMarksCardSaid : Prop := Claim7.holds Tryd.pinned (.plain (OpenSpec.ofChange fnExactStripMarksSpec)) fnExactStripMarksCard

/-- THE TIED CARD OF 'laws.FnExactCleanText'. -/
def fnExactCleanTextCard : Claim7 := { stood := { row := fnExactCleanTextRow, standIns := [], harness := (true, "4110c4e9cd9aa53ea8efce823dbdffb4707841bb52c31f9511d753750f50971e"), looks := false }, kinds := [], alts := [], laidByText := true, laidKinds := [.data, .pinned], laidTests := true, laidLooks := .later }
def FnExactCleanTextCardSaid : Prop := Claim7.holds Tryd.pinned (.plain (OpenSpec.ofChange fnExactCleanTextSpec)) fnExactCleanTextCard

/-- THE SECOND FORM's CARD OF 'laws.FnExactEndWith'. -/
def fnExactEndWithUptoCard : Claim7 := { stood := { row := fnExactEndWithUptoRow, standIns := [], harness := (true, "4110c4e9cd9aa53ea8efce823dbdffb4707841bb52c31f9511d753750f50971e"), looks := false }, kinds := [], alts := [], laidByText := true, laidKinds := [.data, .pinned], laidTests := true, laidLooks := .later }
def FnExactEndWithUptoCardSaid : Prop := Claim7.holds Tryd.pinned (.plain (OpenSpec.upto fnExactEndWithSpec)) fnExactEndWithUptoCard

/-- THE SECOND FORM's CARD OF 'laws.FnExactStripMarks'. -/
def fnExactStripMarksUptoCard : Claim7 := { stood := { row := fnExactStripMarksUptoRow, standIns := [], harness := (true, "4110c4e9cd9aa53ea8efce823dbdffb4707841bb52c31f9511d753750f50971e"), looks := false }, kinds := [], alts := [], laidByText := true, laidKinds := [.data, .pinned], laidTests := true, laidLooks := .later }
def FnExactStripMarksUptoCardSaid : Prop := Claim7.holds Tryd.pinned (.plain (OpenSpec.upto fnExactStripMarksSpec)) fnExactStripMarksUptoCard

/-- THE SECOND FORM's CARD OF 'laws.FnExactCleanText'. -/
def fnExactCleanTextUptoCard : Claim7 := { stood := { row := fnExactCleanTextUptoRow, standIns := [], harness := (true, "4110c4e9cd9aa53ea8efce823dbdffb4707841bb52c31f9511d753750f50971e"), looks := false }, kinds := [], alts := [], laidByText := true, laidKinds := [.data, .pinned], laidTests := true, laidLooks := .later }
def FnExactCleanTextUptoCardSaid : Prop := Claim7.holds Tryd.pinned (.plain (OpenSpec.upto fnExactCleanTextSpec)) fnExactCleanTextUptoCard
end Rows
end Go.Proofs.YtciminppeclofaaDoor
