/-
  NARROWER THAN 'FOR EVERY INPUT', by the rows' own cells (each row's printed sentence says how): LexerLexes: laid · LexerComments: laid · LexerLines: laid · LexerWords: laid · LexerTexts: laid · LexerTokens: laid.
  DERIVED. THE GIVEN ROWS OF THIS SEAT. 6 by the template 'for every input the law returns true; each argument reads behind the call as it read before'; 0 by the template 'total and deterministic' (their statements: YtfijmdeanechfaaDoorTotals.lean).
  GIVEN WITH THE SEED: the statements are not yours to turn. If you find one false, say at which input.
  Laid BY PROGRAM, IN A SANDBOX (cutbox-rows.mjs): the forced cells as the released guide's own fill.sh prints them over the translation 3e24c478b05c029b… (all of the seat's roots in one cut). By AI agents, Wed Nov 11 2026. No macro, syntax, notation, axiom, sorry.
-/
import Derived.Test.YtfijmdeanechfaaDoorChecked
import GoSem.Claim
import GoSem.ClaimJoined
import GoSem.ClaimMapViews
import Derived.JoinedTies
import Derived.KernelRfl
namespace Go.Proofs.YtfijmdeanechfaaDoor
/- THE CELL 'sum', in the pinned program and in every row, IS THE sha256 OF THE DUMP (.gsa) THAT YtfijmdeanechfaaDoorProg.lean LOADS. Nothing in Lean hashes anything: it is a label: what it is worth is what the hold of that sum in a sandbox is worth. -/
noncomputable def Tryd.pinned : Pinned := { name := "ytfijmdeanechfaadoor", sum := "3e24c478b05c029bea2e4bf4712ac00b72936371976951bfa9e0cafb2d75132a", checked := Tryd.checked }
namespace Rows
def none {H : Type} : Left H := { results := [], args := [] }

/- WHAT THE LISTED PACKAGE-LEVEL VARIABLES READ AS WHEN THE CALL BEGINS. Each datum BY PROGRAM (the guide's laid-datum.mjs) off the statement by which the dump's own 'gosem.cut.vars' lays the variable. In a bare row this is a premise. The card (YtfijmdeanechfaaDoorCards.lean) ties it to the program's text. -/
def laid_frustum_lexer_signs {H : Type} : DataW H := .slice [.lit (.string [40]), .lit (.string [41]), .lit (.string [123]), .lit (.string [125]), .lit (.string [44]), .lit (.string [59]), .lit (.string [58]), .lit (.string [46]), .lit (.string [91]), .lit (.string [93]), .lit (.string [61]), .lit (.string [43]), .lit (.string [45]), .lit (.string [42]), .lit (.string [47]), .lit (.string [37]), .lit (.string [38]), .lit (.string [124]), .lit (.string [94]), .lit (.string [33]), .lit (.string [60]), .lit (.string [62]), .lit (.string [61, 61]), .lit (.string [33, 61]), .lit (.string [60, 61]), .lit (.string [62, 61]), .lit (.string [60, 60]), .lit (.string [62, 62]), .lit (.string [45, 62])] []
def laid_frustum_lexer_typeWords {H : Type} : DataW H := .slice [.lit (.string [102, 105, 120, 101, 100]), .lit (.string [104, 97, 108, 102]), .lit (.string [105, 110, 116]), .lit (.string [98, 111, 111, 108]), .lit (.string [118, 101, 99, 50]), .lit (.string [118, 101, 99, 51]), .lit (.string [118, 101, 99, 52])] []
def laid_frustum_lexer_otherWords {H : Type} : DataW H := .slice [.lit (.string [115, 104, 97, 100, 101, 114]), .lit (.string [118, 101, 114, 116, 101, 120]), .lit (.string [103, 101, 111, 109, 101, 116, 114, 121]), .lit (.string [102, 114, 97, 103, 109, 101, 110, 116]), .lit (.string [115, 116, 114, 117, 99, 116]), .lit (.string [117, 110, 105, 102, 111, 114, 109]), .lit (.string [116, 101, 120, 116, 117, 114, 101]), .lit (.string [98, 117, 102, 102, 101, 114]), .lit (.string [105, 110]), .lit (.string [111, 117, 116]), .lit (.string [102, 110]), .lit (.string [114, 101, 116, 117, 114, 110]), .lit (.string [109, 97, 105, 110]), .lit (.string [108, 101, 116]), .lit (.string [105, 102]), .lit (.string [101, 108, 115, 101]), .lit (.string [108, 111, 111, 112]), .lit (.string [98, 114, 101, 97, 107]), .lit (.string [99, 111, 110, 116, 105, 110, 117, 101]), .lit (.string [100, 105, 115, 99, 97, 114, 100]), .lit (.string [101, 109, 105, 116]), .lit (.string [99, 117, 116]), .lit (.string [116, 114, 117, 101]), .lit (.string [102, 97, 108, 115, 101])] []

/-- 'frustumlaw17.LexerLexes': WHATEVER THE INPUT: true; the input reads as it did. -/
def lexerLexesSpec : ChangeSpec := { name := "lexerLexes", fn := fun _ => fun
  | [d] => { results := [.lit (.bool true)], args := [d] }
  | _ => none }
def lexerLexesRow : OpenClaim := { program := "ytfijmdeanechfaadoor", sum := "3e24c478b05c029bea2e4bf4712ac00b72936371976951bfa9e0cafb2d75132a", func := "frustum/frustumlaw17.LexerLexes", spec := "lexerLexes", inPlace := ["internal/bytealg.IndexByteString", "internal/bytealg.IndexString"], unfollowed := true, recurses := true, named := ["frustum/lexer.signs", "internal/bytealg.MaxLen"], apart := false, laid := [("frustum/lexer.signs", laid_frustum_lexer_signs)] }
def LexerLexesSaid : Prop := lexerLexesRow.holds Tryd.pinned (OpenSpec.ofChange lexerLexesSpec)

/-- ITS FALSE NEIGHBOUR: 'it returns false'. Refute it at one input. -/
def lexerLexesWrong : ChangeSpec := { name := "lexerLexes", fn := fun _ => fun
  | [d] => { results := [.lit (.bool false)], args := [d] }
  | _ => none }
def LexerLexesWrongFalsely : Prop := lexerLexesRow.holds Tryd.pinned (OpenSpec.ofChange lexerLexesWrong)

/-- 'frustumlaw17.LexerComments': WHATEVER THE INPUT: true; the input reads as it did. -/
def lexerCommentsSpec : ChangeSpec := { name := "lexerComments", fn := fun _ => fun
  | [d1, d2, d3] => { results := [.lit (.bool true)], args := [d1, d2, d3] }
  | _ => none }
def lexerCommentsRow : OpenClaim := { program := "ytfijmdeanechfaadoor", sum := "3e24c478b05c029bea2e4bf4712ac00b72936371976951bfa9e0cafb2d75132a", func := "frustum/frustumlaw17.LexerComments", spec := "lexerComments", inPlace := ["internal/bytealg.IndexByteString", "internal/bytealg.IndexString"], unfollowed := true, recurses := true, named := ["frustum/lexer.signs", "internal/bytealg.MaxLen"], apart := false, laid := [("frustum/lexer.signs", laid_frustum_lexer_signs)] }
def LexerCommentsSaid : Prop := lexerCommentsRow.holds Tryd.pinned (OpenSpec.ofChange lexerCommentsSpec)

/-- ITS FALSE NEIGHBOUR: 'it returns false'. Refute it at one input. -/
def lexerCommentsWrong : ChangeSpec := { name := "lexerComments", fn := fun _ => fun
  | [d1, d2, d3] => { results := [.lit (.bool false)], args := [d1, d2, d3] }
  | _ => none }
def LexerCommentsWrongFalsely : Prop := lexerCommentsRow.holds Tryd.pinned (OpenSpec.ofChange lexerCommentsWrong)

/-- 'frustumlaw17.LexerLines': WHATEVER THE INPUT: true; the input reads as it did. -/
def lexerLinesSpec : ChangeSpec := { name := "lexerLines", fn := fun _ => fun
  | [d] => { results := [.lit (.bool true)], args := [d] }
  | _ => none }
def lexerLinesRow : OpenClaim := { program := "ytfijmdeanechfaadoor", sum := "3e24c478b05c029bea2e4bf4712ac00b72936371976951bfa9e0cafb2d75132a", func := "frustum/frustumlaw17.LexerLines", spec := "lexerLines", inPlace := ["internal/bytealg.IndexByteString", "internal/bytealg.IndexString", "internal/bytealg.CountString"], unfollowed := true, recurses := true, named := ["frustum/lexer.signs", "internal/bytealg.MaxLen"], apart := false, laid := [("frustum/lexer.signs", laid_frustum_lexer_signs)] }
def LexerLinesSaid : Prop := lexerLinesRow.holds Tryd.pinned (OpenSpec.ofChange lexerLinesSpec)

/-- ITS FALSE NEIGHBOUR: 'it returns false'. Refute it at one input. -/
def lexerLinesWrong : ChangeSpec := { name := "lexerLines", fn := fun _ => fun
  | [d] => { results := [.lit (.bool false)], args := [d] }
  | _ => none }
def LexerLinesWrongFalsely : Prop := lexerLinesRow.holds Tryd.pinned (OpenSpec.ofChange lexerLinesWrong)

/-- 'frustumlaw17.LexerWords': WHATEVER THE INPUT: true; the input reads as it did. -/
def lexerWordsSpec : ChangeSpec := { name := "lexerWords", fn := fun _ => fun
  | [d] => { results := [.lit (.bool true)], args := [d] }
  | _ => none }
def lexerWordsRow : OpenClaim := { program := "ytfijmdeanechfaadoor", sum := "3e24c478b05c029bea2e4bf4712ac00b72936371976951bfa9e0cafb2d75132a", func := "frustum/frustumlaw17.LexerWords", spec := "lexerWords", inPlace := ["internal/bytealg.CountString", "internal/bytealg.IndexByteString", "internal/bytealg.IndexString"], unfollowed := true, recurses := true, named := ["frustum/lexer.otherWords", "frustum/lexer.typeWords", "frustum/lexer.signs", "internal/bytealg.MaxLen"], apart := false, laid := [("frustum/lexer.typeWords", laid_frustum_lexer_typeWords), ("frustum/lexer.otherWords", laid_frustum_lexer_otherWords), ("frustum/lexer.signs", laid_frustum_lexer_signs)] }
def LexerWordsSaid : Prop := lexerWordsRow.holds Tryd.pinned (OpenSpec.ofChange lexerWordsSpec)

/-- ITS FALSE NEIGHBOUR: 'it returns false'. Refute it at one input. -/
def lexerWordsWrong : ChangeSpec := { name := "lexerWords", fn := fun _ => fun
  | [d] => { results := [.lit (.bool false)], args := [d] }
  | _ => none }
def LexerWordsWrongFalsely : Prop := lexerWordsRow.holds Tryd.pinned (OpenSpec.ofChange lexerWordsWrong)

/-- 'frustumlaw17.LexerTexts': WHATEVER THE INPUT: true; the input reads as it did. -/
def lexerTextsSpec : ChangeSpec := { name := "lexerTexts", fn := fun _ => fun
  | [d] => { results := [.lit (.bool true)], args := [d] }
  | _ => none }
def lexerTextsRow : OpenClaim := { program := "ytfijmdeanechfaadoor", sum := "3e24c478b05c029bea2e4bf4712ac00b72936371976951bfa9e0cafb2d75132a", func := "frustum/frustumlaw17.LexerTexts", spec := "lexerTexts", inPlace := ["internal/abi.NoEscape", "internal/bytealg.MakeNoZero", "internal/bytealg.IndexByteString", "internal/bytealg.IndexString"], unfollowed := true, recurses := true, named := ["frustum/lexer.signs", "internal/bytealg.MaxLen"], apart := false, laid := [("frustum/lexer.signs", laid_frustum_lexer_signs)] }
def LexerTextsSaid : Prop := lexerTextsRow.holds Tryd.pinned (OpenSpec.ofChange lexerTextsSpec)

/-- ITS FALSE NEIGHBOUR: 'it returns false'. Refute it at one input. -/
def lexerTextsWrong : ChangeSpec := { name := "lexerTexts", fn := fun _ => fun
  | [d] => { results := [.lit (.bool false)], args := [d] }
  | _ => none }
def LexerTextsWrongFalsely : Prop := lexerTextsRow.holds Tryd.pinned (OpenSpec.ofChange lexerTextsWrong)

/-- 'frustumlaw17.LexerTokens': WHATEVER THE INPUT: true; the input reads as it did. -/
def lexerTokensSpec : ChangeSpec := { name := "lexerTokens", fn := fun _ => fun
  | [d] => { results := [.lit (.bool true)], args := [d] }
  | _ => none }
def lexerTokensRow : OpenClaim := { program := "ytfijmdeanechfaadoor", sum := "3e24c478b05c029bea2e4bf4712ac00b72936371976951bfa9e0cafb2d75132a", func := "frustum/frustumlaw17.LexerTokens", spec := "lexerTokens", inPlace := ["internal/bytealg.IndexByteString", "internal/bytealg.IndexString", "internal/abi.NoEscape", "internal/bytealg.MakeNoZero"], unfollowed := true, recurses := true, named := ["frustum/lexer.signs", "internal/bytealg.MaxLen"], apart := false, laid := [("frustum/lexer.signs", laid_frustum_lexer_signs)] }
def LexerTokensSaid : Prop := lexerTokensRow.holds Tryd.pinned (OpenSpec.ofChange lexerTokensSpec)

/-- ITS FALSE NEIGHBOUR: 'it returns false'. Refute it at one input. -/
def lexerTokensWrong : ChangeSpec := { name := "lexerTokens", fn := fun _ => fun
  | [d] => { results := [.lit (.bool false)], args := [d] }
  | _ => none }
def LexerTokensWrongFalsely : Prop := lexerTokensRow.holds Tryd.pinned (OpenSpec.ofChange lexerTokensWrong)

/- THE SECOND FORM. 'bulk': how many values and letters a reading holds, each counted each time it is reached (what is shared counts as often as it is met; a slice's spare places count too). A statement '..UptoSaid' is the law's where the arguments, and the package variables that the reading takes, are together of bulk at most 1048576: NARROWER than '..Said'. Prove '..Said' where nothing that the law and all that it calls make is longer than what came in: it says more and counts as full. Else prove '..UptoSaid'. A law counts once. -/
mutual
def uptoBulk {H : Type} : DataW H → Nat
  | .lit (.string bytes) => bytes.length + 1
  | .lit _ => 1
  | .nil => 1
  | .ptr d => uptoBulk d + 1
  | .slice elems spare => uptoBulkAll elems + uptoBulkAll spare + 1
  | .agg parts => uptoBulkAll parts + 1
  | .iface _ d => uptoBulk d + 1
  | .map entries => uptoBulkEntries entries + 1
  | .held _ => 1
def uptoBulkAll {H : Type} : List (DataW H) → Nat
  | [] => 0
  | d :: r => uptoBulk d + uptoBulkAll r
def uptoBulkEntries {H : Type} : List (Lit × DataW H) → Nat
  | [] => 0
  | x :: r => uptoBulkEntry x + uptoBulkEntries r
def uptoBulkEntry {H : Type} : Lit × DataW H → Nat
  | (.string bytes, d) => bytes.length + uptoBulk d + 1
  | (_, d) => uptoBulk d + 1
 end
def uptoSmall : (H : Type) → List (DataW H) → Bool := fun _ ds => decide (uptoBulkAll ds ≤ 1048576)
def OpenSpec.upto (s : _root_.Go.ChangeSpec) : _root_.Go.OpenSpec := { _root_.Go.OpenSpec.ofChange s with cond := some uptoSmall }

/-- 'frustumlaw17.LexerLexes', WHERE WHAT IT READS IS OF BULK AT MOST 1048576: true; the input reads as it did. -/
def lexerLexesUptoRow : OpenClaim := { program := "ytfijmdeanechfaadoor", sum := "3e24c478b05c029bea2e4bf4712ac00b72936371976951bfa9e0cafb2d75132a", func := "frustum/frustumlaw17.LexerLexes", spec := "lexerLexes", inPlace := ["internal/bytealg.IndexByteString", "internal/bytealg.IndexString"], unfollowed := true, recurses := true, named := ["frustum/lexer.signs", "internal/bytealg.MaxLen"], apart := false, laid := [("frustum/lexer.signs", laid_frustum_lexer_signs)], narrowed := true }
def LexerLexesUptoSaid : Prop := lexerLexesUptoRow.holds Tryd.pinned (OpenSpec.upto lexerLexesSpec)

/-- 'frustumlaw17.LexerComments', WHERE WHAT IT READS IS OF BULK AT MOST 1048576: true; the input reads as it did. -/
def lexerCommentsUptoRow : OpenClaim := { program := "ytfijmdeanechfaadoor", sum := "3e24c478b05c029bea2e4bf4712ac00b72936371976951bfa9e0cafb2d75132a", func := "frustum/frustumlaw17.LexerComments", spec := "lexerComments", inPlace := ["internal/bytealg.IndexByteString", "internal/bytealg.IndexString"], unfollowed := true, recurses := true, named := ["frustum/lexer.signs", "internal/bytealg.MaxLen"], apart := false, laid := [("frustum/lexer.signs", laid_frustum_lexer_signs)], narrowed := true }
def LexerCommentsUptoSaid : Prop := lexerCommentsUptoRow.holds Tryd.pinned (OpenSpec.upto lexerCommentsSpec)

/-- 'frustumlaw17.LexerLines', WHERE WHAT IT READS IS OF BULK AT MOST 1048576: true; the input reads as it did. -/
def lexerLinesUptoRow : OpenClaim := { program := "ytfijmdeanechfaadoor", sum := "3e24c478b05c029bea2e4bf4712ac00b72936371976951bfa9e0cafb2d75132a", func := "frustum/frustumlaw17.LexerLines", spec := "lexerLines", inPlace := ["internal/bytealg.IndexByteString", "internal/bytealg.IndexString", "internal/bytealg.CountString"], unfollowed := true, recurses := true, named := ["frustum/lexer.signs", "internal/bytealg.MaxLen"], apart := false, laid := [("frustum/lexer.signs", laid_frustum_lexer_signs)], narrowed := true }
def LexerLinesUptoSaid : Prop := lexerLinesUptoRow.holds Tryd.pinned (OpenSpec.upto lexerLinesSpec)

/-- 'frustumlaw17.LexerWords', WHERE WHAT IT READS IS OF BULK AT MOST 1048576: true; the input reads as it did. -/
def lexerWordsUptoRow : OpenClaim := { program := "ytfijmdeanechfaadoor", sum := "3e24c478b05c029bea2e4bf4712ac00b72936371976951bfa9e0cafb2d75132a", func := "frustum/frustumlaw17.LexerWords", spec := "lexerWords", inPlace := ["internal/bytealg.CountString", "internal/bytealg.IndexByteString", "internal/bytealg.IndexString"], unfollowed := true, recurses := true, named := ["frustum/lexer.otherWords", "frustum/lexer.typeWords", "frustum/lexer.signs", "internal/bytealg.MaxLen"], apart := false, laid := [("frustum/lexer.typeWords", laid_frustum_lexer_typeWords), ("frustum/lexer.otherWords", laid_frustum_lexer_otherWords), ("frustum/lexer.signs", laid_frustum_lexer_signs)], narrowed := true }
def LexerWordsUptoSaid : Prop := lexerWordsUptoRow.holds Tryd.pinned (OpenSpec.upto lexerWordsSpec)

/-- 'frustumlaw17.LexerTexts', WHERE WHAT IT READS IS OF BULK AT MOST 1048576: true; the input reads as it did. -/
def lexerTextsUptoRow : OpenClaim := { program := "ytfijmdeanechfaadoor", sum := "3e24c478b05c029bea2e4bf4712ac00b72936371976951bfa9e0cafb2d75132a", func := "frustum/frustumlaw17.LexerTexts", spec := "lexerTexts", inPlace := ["internal/abi.NoEscape", "internal/bytealg.MakeNoZero", "internal/bytealg.IndexByteString", "internal/bytealg.IndexString"], unfollowed := true, recurses := true, named := ["frustum/lexer.signs", "internal/bytealg.MaxLen"], apart := false, laid := [("frustum/lexer.signs", laid_frustum_lexer_signs)], narrowed := true }
def LexerTextsUptoSaid : Prop := lexerTextsUptoRow.holds Tryd.pinned (OpenSpec.upto lexerTextsSpec)

/-- 'frustumlaw17.LexerTokens', WHERE WHAT IT READS IS OF BULK AT MOST 1048576: true; the input reads as it did. -/
def lexerTokensUptoRow : OpenClaim := { program := "ytfijmdeanechfaadoor", sum := "3e24c478b05c029bea2e4bf4712ac00b72936371976951bfa9e0cafb2d75132a", func := "frustum/frustumlaw17.LexerTokens", spec := "lexerTokens", inPlace := ["internal/bytealg.IndexByteString", "internal/bytealg.IndexString", "internal/abi.NoEscape", "internal/bytealg.MakeNoZero"], unfollowed := true, recurses := true, named := ["frustum/lexer.signs", "internal/bytealg.MaxLen"], apart := false, laid := [("frustum/lexer.signs", laid_frustum_lexer_signs)], narrowed := true }
def LexerTokensUptoSaid : Prop := lexerTokensUptoRow.holds Tryd.pinned (OpenSpec.upto lexerTokensSpec)

end Rows
end Go.Proofs.YtfijmdeanechfaaDoor
