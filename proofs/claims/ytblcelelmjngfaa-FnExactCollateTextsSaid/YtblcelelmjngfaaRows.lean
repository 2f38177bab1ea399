/-
  No cell of these rows narrows 'for every input' (looked for: loops, veiled, ifaces, maps, wideKeys, modest, calm, conditions, laid).
  DERIVED. THE GIVEN ROWS OF THIS SEAT. 3 by the template 'for every input the law returns true; each argument reads behind the call as it read before'; 0 by the template 'total and deterministic' (their statements: YtblcelelmjngfaaTotals.lean).
  GIVEN WITH THE SEED: the statements are not yours to turn. If you find one false, say at which input.
  Laid BY PROGRAM, IN A SANDBOX (cutbox-rows.mjs): the forced cells as the released guide's own fill.sh prints them over the translation a77adcad3f00e5d2… (all of the seat's roots in one cut). By AI agents, Wed Nov 11 2026. No macro, syntax, notation, axiom, sorry.
-/
import Derived.Test.YtblcelelmjngfaaChecked
import GoSem.Claim
import GoSem.ClaimJoined
import GoSem.ClaimMapViews
import Derived.JoinedTies
import Derived.KernelRfl
namespace Go.Proofs.Ytblcelelmjngfaa
/- THE CELL 'sum', in the pinned program and in every row, IS THE sha256 OF THE DUMP (.gsa) THAT YtblcelelmjngfaaProg.lean LOADS. Nothing in Lean hashes anything: it is a label: what it is worth is what the hold of that sum in a sandbox is worth. -/
noncomputable def Try.pinned : Pinned := { name := "ytblcelelmjngfaa", sum := "a77adcad3f00e5d2c9a91cb91f9923cb03afd6d83a9789adee6da80a1ce7f9ed", checked := Try.checked }
namespace Rows
def none {H : Type} : Left H := { results := [], args := [] }

/-- 'laws.FnExactDropArticle': WHATEVER THE INPUT: true; the input reads as it did. -/
def fnExactDropArticleSpec : ChangeSpec := { name := "fnExactDropArticle", fn := fun _ => fun
  | [d] => { results := [.lit (.bool true)], args := [d] }
  | _ => none }
def fnExactDropArticleRow : OpenClaim := { program := "ytblcelelmjngfaa", sum := "a77adcad3f00e5d2c9a91cb91f9923cb03afd6d83a9789adee6da80a1ce7f9ed", func := "loop.example/g00896/laws.FnExactDropArticle", spec := "fnExactDropArticle", apart := false }
def FnExactDropArticleSaid : Prop := fnExactDropArticleRow.holds Try.pinned (OpenSpec.ofChange fnExactDropArticleSpec)

/-- ITS FALSE NEIGHBOUR: 'it returns false'. Refute it at one input. -/
def fnExactDropArticleWrong : ChangeSpec := { name := "fnExactDropArticle", fn := fun _ => fun
  | [d] => { results := [.lit (.bool false)], args := [d] }
  | _ => none }
def FnExactDropArticleWrongFalsely : Prop := fnExactDropArticleRow.holds Try.pinned (OpenSpec.ofChange fnExactDropArticleWrong)

/-- 'laws.FnExactFoldText': WHATEVER THE INPUT: true; the input reads as it did. -/
def fnExactFoldTextSpec : ChangeSpec := { name := "fnExactFoldText", fn := fun _ => fun
  | [d] => { results := [.lit (.bool true)], args := [d] }
  | _ => none }
def fnExactFoldTextRow : OpenClaim := { program := "ytblcelelmjngfaa", sum := "a77adcad3f00e5d2c9a91cb91f9923cb03afd6d83a9789adee6da80a1ce7f9ed", func := "loop.example/g00896/laws.FnExactFoldText", spec := "fnExactFoldText", apart := false }
def FnExactFoldTextSaid : Prop := fnExactFoldTextRow.holds Try.pinned (OpenSpec.ofChange fnExactFoldTextSpec)

/-- ITS FALSE NEIGHBOUR: 'it returns false'. Refute it at one input. -/
def fnExactFoldTextWrong : ChangeSpec := { name := "fnExactFoldText", fn := fun _ => fun
  | [d] => { results := [.lit (.bool false)], args := [d] }
  | _ => none }
def FnExactFoldTextWrongFalsely : Prop := fnExactFoldTextRow.holds Try.pinned (OpenSpec.ofChange fnExactFoldTextWrong)

/-- 'laws.FnExactCollateTexts': WHATEVER THE INPUT: true; the input reads as it did. -/
def fnExactCollateTextsSpec : ChangeSpec := { name := "fnExactCollateTexts", fn := fun _ => fun
  | [d1, d2] => { results := [.lit (.bool true)], args := [d1, d2] }
  | _ => none }
def fnExactCollateTextsRow : OpenClaim := { program := "ytblcelelmjngfaa", sum := "a77adcad3f00e5d2c9a91cb91f9923cb03afd6d83a9789adee6da80a1ce7f9ed", func := "loop.example/g00896/laws.FnExactCollateTexts", spec := "fnExactCollateTexts", inPlace := ["internal/bytealg.abigen_runtime_cmpstring"], apart := false }
def FnExactCollateTextsSaid : Prop := fnExactCollateTextsRow.holds Try.pinned (OpenSpec.ofChange fnExactCollateTextsSpec)

/-- ITS FALSE NEIGHBOUR: 'it returns false'. Refute it at one input. -/
def fnExactCollateTextsWrong : ChangeSpec := { name := "fnExactCollateTexts", fn := fun _ => fun
  | [d1, d2] => { results := [.lit (.bool false)], args := [d1, d2] }
  | _ => none }
def FnExactCollateTextsWrongFalsely : Prop := fnExactCollateTextsRow.holds Try.pinned (OpenSpec.ofChange fnExactCollateTextsWrong)

/- THE SECOND FORM. 'bulk': how many values and letters a reading holds, each counted each time it is reached (what is shared counts as often as it is met; a slice's spare places count too). A statement '..UptoSaid' is the law's where the arguments, and the package variables that the reading takes, are together of bulk at most 1048576: NARROWER than '..Said'. Prove '..Said' where nothing that the law and all that it calls make is longer than what came in: it says more and counts as full. Else prove '..UptoSaid'. A law counts once. -/
mutual
def uptoBulk {H : Type} : DataW H → Nat
  | .lit (.string bytes) => bytes.length + 1
  | .lit _ => 1
  | .nil => 1
  | .ptr d => uptoBulk d + 1
  | .slice elems spare => uptoBulkAll elems + uptoBulkAll spare + 1
  | .agg parts => uptoBulkAll parts + 1
  | .iface _ d => uptoBulk d + 1
  | .map entries => uptoBulkEntries entries + 1
  | .held _ => 1
def uptoBulkAll {H : Type} : List (DataW H) → Nat
  | [] => 0
  | d :: r => uptoBulk d + uptoBulkAll r
def uptoBulkEntries {H : Type} : List (Lit × DataW H) → Nat
  | [] => 0
  | x :: r => uptoBulkEntry x + uptoBulkEntries r
def uptoBulkEntry {H : Type} : Lit × DataW H → Nat
  | (.string bytes, d) => bytes.length + uptoBulk d + 1
  | (_, d) => uptoBulk d + 1
 end
def uptoSmall : (H : Type) → List (DataW H) → Bool := fun _ ds => decide (uptoBulkAll ds ≤ 1048576)
def OpenSpec.upto (s : _root_.Go.ChangeSpec) : _root_.Go.OpenSpec := { _root_.Go.OpenSpec.ofChange s with cond := some uptoSmall }

/-- 'laws.FnExactDropArticle', WHERE WHAT IT READS IS OF BULK AT MOST 1048576: true; the input reads as it did. -/
def fnExactDropArticleUptoRow : OpenClaim := { program := "ytblcelelmjngfaa", sum := "a77adcad3f00e5d2c9a91cb91f9923cb03afd6d83a9789adee6da80a1ce7f9ed", func := "loop.example/g00896/laws.FnExactDropArticle", spec := "fnExactDropArticle", apart := false, narrowed := true }
def FnExactDropArticleUptoSaid : Prop := fnExactDropArticleUptoRow.holds Try.pinned (OpenSpec.upto fnExactDropArticleSpec)

/-- 'laws.FnExactFoldText', WHERE WHAT IT READS IS OF BULK AT MOST 1048576: true; the input reads as it did. -/
def fnExactFoldTextUptoRow : OpenClaim := { program := "ytblcelelmjngfaa", sum := "a77adcad3f00e5d2c9a91cb91f9923cb03afd6d83a9789adee6da80a1ce7f9ed", func := "loop.example/g00896/laws.FnExactFoldText", spec := "fnExactFoldText", apart := false, narrowed := true }
def FnExactFoldTextUptoSaid : Prop := fnExactFoldTextUptoRow.holds Try.pinned (OpenSpec.upto fnExactFoldTextSpec)

/-- 'laws.FnExactCollateTexts', WHERE WHAT IT READS IS OF BULK AT MOST 1048576: true; the input reads as it did. -/
def fnExactCollateTextsUptoRow : OpenClaim := { program := "ytblcelelmjngfaa", sum := "a77adcad3f00e5d2c9a91cb91f9923cb03afd6d83a9789adee6da80a1ce7f9ed", func := "loop.example/g00896/laws.FnExactCollateTexts", spec := "fnExactCollateTexts", inPlace := ["internal/bytealg.abigen_runtime_cmpstring"], apart := false, narrowed := true }
def FnExactCollateTextsUptoSaid : Prop := fnExactCollateTextsUptoRow.holds Try.pinned (OpenSpec.upto fnExactCollateTextsSpec)

end Rows
end Go.Proofs.Ytblcelelmjngfaa
