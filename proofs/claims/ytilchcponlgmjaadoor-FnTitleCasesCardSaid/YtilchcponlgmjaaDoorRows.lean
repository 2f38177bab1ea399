/-
  NARROWER THAN 'FOR EVERY INPUT', by the rows' own cells (each row's printed sentence says how): FnExactShortTitle: laid · FnExactProtectTitle: laid · FnExactSentenceCase: laid · FnExactTitleCase: laid · FnExactSortTitle: laid · FnTitleCases: laid · FnTitleParts: laid.
  DERIVED. THE GIVEN ROWS OF THIS SEAT. 7 by the template 'for every input the law returns true; each argument reads behind the call as it read before'; 0 by the template 'total and deterministic' (their statements: YtilchcponlgmjaaDoorTotals.lean).
  GIVEN WITH THE SEED: the statements are not yours to turn. If you find one false, say at which input.
  Laid BY PROGRAM, IN A SANDBOX (cutbox-rows.mjs): the forced cells as the released guide's own fill.sh prints them over the translation fb2f43067fbf5df0… (all of the seat's roots in one cut). By AI agents, Wed Nov 11 2026. No macro, syntax, notation, axiom, sorry.
-/
import Derived.Test.YtilchcponlgmjaaDoorChecked
import GoSem.PinnedTables
import GoSem.Claim
import GoSem.ClaimJoined
import GoSem.ClaimMapViews
import Derived.JoinedTies
import Derived.KernelRfl
namespace Go.Proofs.YtilchcponlgmjaaDoor
/- THE CELL 'sum', in the pinned program and in every row, IS THE sha256 OF THE DUMP (.gsa) THAT YtilchcponlgmjaaDoorProg.lean LOADS. Nothing in Lean hashes anything: it is a label: what it is worth is what the hold of that sum in a sandbox is worth. -/
noncomputable def Tryd.pinned : Pinned := { name := "ytilchcponlgmjaadoor", sum := "fb2f43067fbf5df03a04f7b7822831e825f64c8094b0a4cb4a263e9e5a95a90d", checked := Tryd.checked }
namespace Rows
def none {H : Type} : Left H := { results := [], args := [] }

/- WHAT THE LISTED PACKAGE-LEVEL VARIABLES READ AS WHEN THE CALL BEGINS. Each datum BY PROGRAM (the guide's laid-datum.mjs) off the statement by which the dump's own 'gosem.cut.vars' lays the variable. In a bare row this is a premise. The card (YtilchcponlgmjaaDoorCards.lean) ties it to the program's text. -/
def laid_unicode_utf8_acceptRanges {H : Type} : DataW H := .agg [.agg [.lit (.int .u8 128), .lit (.int .u8 191)], .agg [.lit (.int .u8 160), .lit (.int .u8 191)], .agg [.lit (.int .u8 128), .lit (.int .u8 159)], .agg [.lit (.int .u8 144), .lit (.int .u8 191)], .agg [.lit (.int .u8 128), .lit (.int .u8 143)], .agg [.lit (.int .u8 0), .lit (.int .u8 0)], .agg [.lit (.int .u8 0), .lit (.int .u8 0)], .agg [.lit (.int .u8 0), .lit (.int .u8 0)], .agg [.lit (.int .u8 0), .lit (.int .u8 0)], .agg [.lit (.int .u8 0), .lit (.int .u8 0)], .agg [.lit (.int .u8 0), .lit (.int .u8 0)], .agg [.lit (.int .u8 0), .lit (.int .u8 0)], .agg [.lit (.int .u8 0), .lit (.int .u8 0)], .agg [.lit (.int .u8 0), .lit (.int .u8 0)], .agg [.lit (.int .u8 0), .lit (.int .u8 0)], .agg [.lit (.int .u8 0), .lit (.int .u8 0)]]
/-- One of Go's own tables, pinned by name: the form's constant. -/
def laid_unicode_utf8_first : DataW Unit := Go.Pinned.utf8First

/-- 'laws.FnExactShortTitle': WHATEVER THE INPUT: true; the input reads as it did. -/
def fnExactShortTitleSpec : ChangeSpec := { name := "fnExactShortTitle", fn := fun _ => fun
  | [d1, d2] => { results := [.lit (.bool true)], args := [d1, d2] }
  | _ => none }
def fnExactShortTitleRow : OpenClaim := { program := "ytilchcponlgmjaadoor", sum := "fb2f43067fbf5df03a04f7b7822831e825f64c8094b0a4cb4a263e9e5a95a90d", func := "loop.example/g00896/laws.FnExactShortTitle", spec := "fnExactShortTitle", inPlace := ["internal/bytealg.IndexByteString", "internal/bytealg.IndexString", "internal/abi.NoEscape", "internal/bytealg.MakeNoZero"], named := ["unicode/utf8.first", "unicode/utf8.acceptRanges", "internal/bytealg.MaxLen"], apart := false, laid := [("unicode/utf8.acceptRanges", laid_unicode_utf8_acceptRanges), ("unicode/utf8.first", laid_unicode_utf8_first)] }
def FnExactShortTitleSaid : Prop := fnExactShortTitleRow.holds Tryd.pinned (OpenSpec.ofChange fnExactShortTitleSpec)

/-- ITS FALSE NEIGHBOUR: 'it returns false'. Refute it at one input. -/
def fnExactShortTitleWrong : ChangeSpec := { name := "fnExactShortTitle", fn := fun _ => fun
  | [d1, d2] => { results := [.lit (.bool false)], args := [d1, d2] }
  | _ => none }
def FnExactShortTitleWrongFalsely : Prop := fnExactShortTitleRow.holds Tryd.pinned (OpenSpec.ofChange fnExactShortTitleWrong)

/-- 'laws.FnExactProtectTitle': WHATEVER THE INPUT: true; the input reads as it did. -/
def fnExactProtectTitleSpec : ChangeSpec := { name := "fnExactProtectTitle", fn := fun _ => fun
  | [d1, d2] => { results := [.lit (.bool true)], args := [d1, d2] }
  | _ => none }
def fnExactProtectTitleRow : OpenClaim := { program := "ytilchcponlgmjaadoor", sum := "fb2f43067fbf5df03a04f7b7822831e825f64c8094b0a4cb4a263e9e5a95a90d", func := "loop.example/g00896/laws.FnExactProtectTitle", spec := "fnExactProtectTitle", inPlace := ["internal/bytealg.IndexByteString", "internal/bytealg.IndexString", "internal/abi.NoEscape", "internal/bytealg.MakeNoZero"], named := ["unicode/utf8.first", "unicode/utf8.acceptRanges", "internal/bytealg.MaxLen"], apart := false, laid := [("unicode/utf8.acceptRanges", laid_unicode_utf8_acceptRanges), ("unicode/utf8.first", laid_unicode_utf8_first)] }
def FnExactProtectTitleSaid : Prop := fnExactProtectTitleRow.holds Tryd.pinned (OpenSpec.ofChange fnExactProtectTitleSpec)

/-- ITS FALSE NEIGHBOUR: 'it returns false'. Refute it at one input. -/
def fnExactProtectTitleWrong : ChangeSpec := { name := "fnExactProtectTitle", fn := fun _ => fun
  | [d1, d2] => { results := [.lit (.bool false)], args := [d1, d2] }
  | _ => none }
def FnExactProtectTitleWrongFalsely : Prop := fnExactProtectTitleRow.holds Tryd.pinned (OpenSpec.ofChange fnExactProtectTitleWrong)

/-- 'laws.FnExactSentenceCase': WHATEVER THE INPUT: true; the input reads as it did. -/
def fnExactSentenceCaseSpec : ChangeSpec := { name := "fnExactSentenceCase", fn := fun _ => fun
  | [d] => { results := [.lit (.bool true)], args := [d] }
  | _ => none }
def fnExactSentenceCaseRow : OpenClaim := { program := "ytilchcponlgmjaadoor", sum := "fb2f43067fbf5df03a04f7b7822831e825f64c8094b0a4cb4a263e9e5a95a90d", func := "loop.example/g00896/laws.FnExactSentenceCase", spec := "fnExactSentenceCase", inPlace := ["internal/bytealg.IndexByteString", "internal/bytealg.IndexString", "internal/abi.NoEscape", "internal/bytealg.MakeNoZero"], named := ["unicode/utf8.first", "unicode/utf8.acceptRanges", "internal/bytealg.MaxLen"], apart := false, laid := [("unicode/utf8.acceptRanges", laid_unicode_utf8_acceptRanges), ("unicode/utf8.first", laid_unicode_utf8_first)] }
def FnExactSentenceCaseSaid : Prop := fnExactSentenceCaseRow.holds Tryd.pinned (OpenSpec.ofChange fnExactSentenceCaseSpec)

/-- ITS FALSE NEIGHBOUR: 'it returns false'. Refute it at one input. -/
def fnExactSentenceCaseWrong : ChangeSpec := { name := "fnExactSentenceCase", fn := fun _ => fun
  | [d] => { results := [.lit (.bool false)], args := [d] }
  | _ => none }
def FnExactSentenceCaseWrongFalsely : Prop := fnExactSentenceCaseRow.holds Tryd.pinned (OpenSpec.ofChange fnExactSentenceCaseWrong)

/-- 'laws.FnExactTitleCase': WHATEVER THE INPUT: true; the input reads as it did. -/
def fnExactTitleCaseSpec : ChangeSpec := { name := "fnExactTitleCase", fn := fun _ => fun
  | [d] => { results := [.lit (.bool true)], args := [d] }
  | _ => none }
def fnExactTitleCaseRow : OpenClaim := { program := "ytilchcponlgmjaadoor", sum := "fb2f43067fbf5df03a04f7b7822831e825f64c8094b0a4cb4a263e9e5a95a90d", func := "loop.example/g00896/laws.FnExactTitleCase", spec := "fnExactTitleCase", inPlace := ["internal/bytealg.IndexByteString", "internal/bytealg.IndexString", "internal/abi.NoEscape", "internal/bytealg.MakeNoZero"], named := ["unicode/utf8.first", "unicode/utf8.acceptRanges", "internal/bytealg.MaxLen"], apart := false, laid := [("unicode/utf8.acceptRanges", laid_unicode_utf8_acceptRanges), ("unicode/utf8.first", laid_unicode_utf8_first)] }
def FnExactTitleCaseSaid : Prop := fnExactTitleCaseRow.holds Tryd.pinned (OpenSpec.ofChange fnExactTitleCaseSpec)

/-- ITS FALSE NEIGHBOUR: 'it returns false'. Refute it at one input. -/
def fnExactTitleCaseWrong : ChangeSpec := { name := "fnExactTitleCase", fn := fun _ => fun
  | [d] => { results := [.lit (.bool false)], args := [d] }
  | _ => none }
def FnExactTitleCaseWrongFalsely : Prop := fnExactTitleCaseRow.holds Tryd.pinned (OpenSpec.ofChange fnExactTitleCaseWrong)

/-- 'laws.FnExactSortTitle': WHATEVER THE INPUT: true; the input reads as it did. -/
def fnExactSortTitleSpec : ChangeSpec := { name := "fnExactSortTitle", fn := fun _ => fun
  | [d] => { results := [.lit (.bool true)], args := [d] }
  | _ => none }
def fnExactSortTitleRow : OpenClaim := { program := "ytilchcponlgmjaadoor", sum := "fb2f43067fbf5df03a04f7b7822831e825f64c8094b0a4cb4a263e9e5a95a90d", func := "loop.example/g00896/laws.FnExactSortTitle", spec := "fnExactSortTitle", inPlace := ["internal/bytealg.IndexByteString", "internal/bytealg.IndexString", "internal/bytealg.CountString", "internal/abi.NoEscape", "internal/bytealg.MakeNoZero"], unfollowed := true, recurses := true, named := ["unicode/utf8.first", "unicode/utf8.acceptRanges", "internal/bytealg.MaxLen"], apart := false, laid := [("unicode/utf8.acceptRanges", laid_unicode_utf8_acceptRanges), ("unicode/utf8.first", laid_unicode_utf8_first)] }
def FnExactSortTitleSaid : Prop := fnExactSortTitleRow.holds Tryd.pinned (OpenSpec.ofChange fnExactSortTitleSpec)

/-- ITS FALSE NEIGHBOUR: 'it returns false'. Refute it at one input. -/
def fnExactSortTitleWrong : ChangeSpec := { name := "fnExactSortTitle", fn := fun _ => fun
  | [d] => { results := [.lit (.bool false)], args := [d] }
  | _ => none }
def FnExactSortTitleWrongFalsely : Prop := fnExactSortTitleRow.holds Tryd.pinned (OpenSpec.ofChange fnExactSortTitleWrong)

/-- 'laws.FnTitleCases': WHATEVER THE INPUT: true; the input reads as it did. -/
def fnTitleCasesSpec : ChangeSpec := { name := "fnTitleCases", fn := fun _ => fun
  | [d] => { results := [.lit (.bool true)], args := [d] }
  | _ => none }
def fnTitleCasesRow : OpenClaim := { program := "ytilchcponlgmjaadoor", sum := "fb2f43067fbf5df03a04f7b7822831e825f64c8094b0a4cb4a263e9e5a95a90d", func := "loop.example/g00896/laws.FnTitleCases", spec := "fnTitleCases", inPlace := ["internal/bytealg.IndexByteString", "internal/bytealg.IndexString", "internal/abi.NoEscape", "internal/bytealg.MakeNoZero"], named := ["unicode/utf8.first", "unicode/utf8.acceptRanges", "internal/bytealg.MaxLen"], apart := false, laid := [("unicode/utf8.acceptRanges", laid_unicode_utf8_acceptRanges), ("unicode/utf8.first", laid_unicode_utf8_first)] }
def FnTitleCasesSaid : Prop := fnTitleCasesRow.holds Tryd.pinned (OpenSpec.ofChange fnTitleCasesSpec)

/-- ITS FALSE NEIGHBOUR: 'it returns false'. Refute it at one input. -/
def fnTitleCasesWrong : ChangeSpec := { name := "fnTitleCases", fn := fun _ => fun
  | [d] => { results := [.lit (.bool false)], args := [d] }
  | _ => none }
def FnTitleCasesWrongFalsely : Prop := fnTitleCasesRow.holds Tryd.pinned (OpenSpec.ofChange fnTitleCasesWrong)

/-- 'laws.FnTitleParts': WHATEVER THE INPUT: true; the input reads as it did. -/
def fnTitlePartsSpec : ChangeSpec := { name := "fnTitleParts", fn := fun _ => fun
  | [d] => { results := [.lit (.bool true)], args := [d] }
  | _ => none }
def fnTitlePartsRow : OpenClaim := { program := "ytilchcponlgmjaadoor", sum := "fb2f43067fbf5df03a04f7b7822831e825f64c8094b0a4cb4a263e9e5a95a90d", func := "loop.example/g00896/laws.FnTitleParts", spec := "fnTitleParts", inPlace := ["internal/bytealg.IndexByteString", "internal/bytealg.IndexString", "internal/abi.NoEscape", "internal/bytealg.MakeNoZero", "internal/bytealg.CountString"], unfollowed := true, recurses := true, named := ["unicode/utf8.first", "unicode/utf8.acceptRanges", "internal/bytealg.MaxLen"], apart := false, laid := [("unicode/utf8.acceptRanges", laid_unicode_utf8_acceptRanges), ("unicode/utf8.first", laid_unicode_utf8_first)] }
def FnTitlePartsSaid : Prop := fnTitlePartsRow.holds Tryd.pinned (OpenSpec.ofChange fnTitlePartsSpec)

/-- ITS FALSE NEIGHBOUR: 'it returns false'. Refute it at one input. -/
def fnTitlePartsWrong : ChangeSpec := { name := "fnTitleParts", fn := fun _ => fun
  | [d] => { results := [.lit (.bool false)], args := [d] }
  | _ => none }
def FnTitlePartsWrongFalsely : Prop := fnTitlePartsRow.holds Tryd.pinned (OpenSpec.ofChange fnTitlePartsWrong)

/- THE SECOND FORM. 'bulk': how many values and letters a reading holds, each counted each time it is reached (what is shared counts as often as it is met; a slice's spare places count too). A statement '..UptoSaid' is the law's where the arguments, and the package variables that the reading takes, are together of bulk at most 1048576: NARROWER than '..Said'. Prove '..Said' where nothing that the law and all that it calls make is longer than what came in: it says more and counts as full. Else prove '..UptoSaid'. A law counts once. -/
mutual
def uptoBulk {H : Type} : DataW H → Nat
  | .lit (.string bytes) => bytes.length + 1
  | .lit _ => 1
  | .nil => 1
  | .ptr d => uptoBulk d + 1
  | .slice elems spare => uptoBulkAll elems + uptoBulkAll spare + 1
  | .agg parts => uptoBulkAll parts + 1
  | .iface _ d => uptoBulk d + 1
  | .map entries => uptoBulkEntries entries + 1
  | .held _ => 1
def uptoBulkAll {H : Type} : List (DataW H) → Nat
  | [] => 0
  | d :: r => uptoBulk d + uptoBulkAll r
def uptoBulkEntries {H : Type} : List (Lit × DataW H) → Nat
  | [] => 0
  | x :: r => uptoBulkEntry x + uptoBulkEntries r
def uptoBulkEntry {H : Type} : Lit × DataW H → Nat
  | (.string bytes, d) => bytes.length + uptoBulk d + 1
  | (_, d) => uptoBulk d + 1
 end
def uptoSmall : (H : Type) → List (DataW H) → Bool := fun _ ds => decide (uptoBulkAll ds ≤ 1048576)
def OpenSpec.upto (s : _root_.Go.ChangeSpec) : _root_.Go.OpenSpec := { _root_.Go.OpenSpec.ofChange s with cond := some uptoSmall }

/-- 'laws.FnExactShortTitle', WHERE WHAT IT READS IS OF BULK AT MOST 1048576: true; the input reads as it did. -/
def fnExactShortTitleUptoRow : OpenClaim := { program := "ytilchcponlgmjaadoor", sum := "fb2f43067fbf5df03a04f7b7822831e825f64c8094b0a4cb4a263e9e5a95a90d", func := "loop.example/g00896/laws.FnExactShortTitle", spec := "fnExactShortTitle", inPlace := ["internal/bytealg.IndexByteString", "internal/bytealg.IndexString", "internal/abi.NoEscape", "internal/bytealg.MakeNoZero"], named := ["unicode/utf8.first", "unicode/utf8.acceptRanges", "internal/bytealg.MaxLen"], apart := false, laid := [("unicode/utf8.acceptRanges", laid_unicode_utf8_acceptRanges), ("unicode/utf8.first", laid_unicode_utf8_first)], narrowed := true }
def FnExactShortTitleUptoSaid : Prop := fnExactShortTitleUptoRow.holds Tryd.pinned (OpenSpec.upto fnExactShortTitleSpec)

/-- 'laws.FnExactProtectTitle', WHERE WHAT IT READS IS OF BULK AT MOST 1048576: true; the input reads as it did. -/
def fnExactProtectTitleUptoRow : OpenClaim := { program := "ytilchcponlgmjaadoor", sum := "fb2f43067fbf5df03a04f7b7822831e825f64c8094b0a4cb4a263e9e5a95a90d", func := "loop.example/g00896/laws.FnExactProtectTitle", spec := "fnExactProtectTitle", inPlace := ["internal/bytealg.IndexByteString", "internal/bytealg.IndexString", "internal/abi.NoEscape", "internal/bytealg.MakeNoZero"], named := ["unicode/utf8.first", "unicode/utf8.acceptRanges", "internal/bytealg.MaxLen"], apart := false, laid := [("unicode/utf8.acceptRanges", laid_unicode_utf8_acceptRanges), ("unicode/utf8.first", laid_unicode_utf8_first)], narrowed := true }
def FnExactProtectTitleUptoSaid : Prop := fnExactProtectTitleUptoRow.holds Tryd.pinned (OpenSpec.upto fnExactProtectTitleSpec)

/-- 'laws.FnExactSentenceCase', WHERE WHAT IT READS IS OF BULK AT MOST 1048576: true; the input reads as it did. -/
def fnExactSentenceCaseUptoRow : OpenClaim := { program := "ytilchcponlgmjaadoor", sum := "fb2f43067fbf5df03a04f7b7822831e825f64c8094b0a4cb4a263e9e5a95a90d", func := "loop.example/g00896/laws.FnExactSentenceCase", spec := "fnExactSentenceCase", inPlace := ["internal/bytealg.IndexByteString", "internal/bytealg.IndexString", "internal/abi.NoEscape", "internal/bytealg.MakeNoZero"], named := ["unicode/utf8.first", "unicode/utf8.acceptRanges", "internal/bytealg.MaxLen"], apart := false, laid := [("unicode/utf8.acceptRanges", laid_unicode_utf8_acceptRanges), ("unicode/utf8.first", laid_unicode_utf8_first)], narrowed := true }
def FnExactSentenceCaseUptoSaid : Prop := fnExactSentenceCaseUptoRow.holds Tryd.pinned (OpenSpec.upto fnExactSentenceCaseSpec)

/-- 'laws.FnExactTitleCase', WHERE WHAT IT READS IS OF BULK AT MOST 1048576: true; the input reads as it did. -/
def fnExactTitleCaseUptoRow : OpenClaim := { program := "ytilchcponlgmjaadoor", sum := "fb2f43067fbf5df03a04f7b7822831e825f64c8094b0a4cb4a263e9e5a95a90d", func := "loop.example/g00896/laws.FnExactTitleCase", spec := "fnExactTitleCase", inPlace := ["internal/bytealg.IndexByteString", "internal/bytealg.IndexString", "internal/abi.NoEscape", "internal/bytealg.MakeNoZero"], named := ["unicode/utf8.first", "unicode/utf8.acceptRanges", "internal/bytealg.MaxLen"], apart := false, laid := [("unicode/utf8.acceptRanges", laid_unicode_utf8_acceptRanges), ("unicode/utf8.first", laid_unicode_utf8_first)], narrowed := true }
def FnExactTitleCaseUptoSaid : Prop := fnExactTitleCaseUptoRow.holds Tryd.pinned (OpenSpec.upto fnExactTitleCaseSpec)

/-- 'laws.FnExactSortTitle', WHERE WHAT IT READS IS OF BULK AT MOST 1048576: true; the input reads as it did. -/
def fnExactSortTitleUptoRow : OpenClaim := { program := "ytilchcponlgmjaadoor", sum := "fb2f43067fbf5df03a04f7b7822831e825f64c8094b0a4cb4a263e9e5a95a90d", func := "loop.example/g00896/laws.FnExactSortTitle", spec := "fnExactSortTitle", inPlace := ["internal/bytealg.IndexByteString", "internal/bytealg.IndexString", "internal/bytealg.CountString", "internal/abi.NoEscape", "internal/bytealg.MakeNoZero"], unfollowed := true, recurses := true, named := ["unicode/utf8.first", "unicode/utf8.acceptRanges", "internal/bytealg.MaxLen"], apart := false, laid := [("unicode/utf8.acceptRanges", laid_unicode_utf8_acceptRanges), ("unicode/utf8.first", laid_unicode_utf8_first)], narrowed := true }
def FnExactSortTitleUptoSaid : Prop := fnExactSortTitleUptoRow.holds Tryd.pinned (OpenSpec.upto fnExactSortTitleSpec)

/-- 'laws.FnTitleCases', WHERE WHAT IT READS IS OF BULK AT MOST 1048576: true; the input reads as it did. -/
def fnTitleCasesUptoRow : OpenClaim := { program := "ytilchcponlgmjaadoor", sum := "fb2f43067fbf5df03a04f7b7822831e825f64c8094b0a4cb4a263e9e5a95a90d", func := "loop.example/g00896/laws.FnTitleCases", spec := "fnTitleCases", inPlace := ["internal/bytealg.IndexByteString", "internal/bytealg.IndexString", "internal/abi.NoEscape", "internal/bytealg.MakeNoZero"], named := ["unicode/utf8.first", "unicode/utf8.acceptRanges", "internal/bytealg.MaxLen"], apart := false, laid := [("unicode/utf8.acceptRanges", laid_unicode_utf8_acceptRanges), ("unicode/utf8.first", laid_unicode_utf8_first)], narrowed := true }
def FnTitleCasesUptoSaid : Prop := fnTitleCasesUptoRow.holds Tryd.pinned (OpenSpec.upto fnTitleCasesSpec)

/-- 'laws.FnTitleParts', WHERE WHAT IT READS IS OF BULK AT MOST 1048576: true; the input reads as it did. -/
def fnTitlePartsUptoRow : OpenClaim := { program := "ytilchcponlgmjaadoor", sum := "fb2f43067fbf5df03a04f7b7822831e825f64c8094b0a4cb4a263e9e5a95a90d", func := "loop.example/g00896/laws.FnTitleParts", spec := "fnTitleParts", inPlace := ["internal/bytealg.IndexByteString", "internal/bytealg.IndexString", "internal/abi.NoEscape", "internal/bytealg.MakeNoZero", "internal/bytealg.CountString"], unfollowed := true, recurses := true, named := ["unicode/utf8.first", "unicode/utf8.acceptRanges", "internal/bytealg.MaxLen"], apart := false, laid := [("unicode/utf8.acceptRanges", laid_unicode_utf8_acceptRanges), ("unicode/utf8.first", laid_unicode_utf8_first)], narrowed := true }
def FnTitlePartsUptoSaid : Prop := fnTitlePartsUptoRow.holds Tryd.pinned (OpenSpec.upto fnTitlePartsSpec)

end Rows
end Go.Proofs.YtilchcponlgmjaaDoor
