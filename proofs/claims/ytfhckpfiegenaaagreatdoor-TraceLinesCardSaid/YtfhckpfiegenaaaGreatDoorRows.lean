/-
  NARROWER THAN 'FOR EVERY INPUT', by the rows' own cells (each row's printed sentence says how): TraceLines: laid · TraceParses: laid · TraceFormats: laid · TraceTexts: laid.
  DERIVED. THE GIVEN ROWS OF THIS SEAT. 4 by the template 'for every input the law returns true; each argument reads behind the call as it read before'; 0 by the template 'total and deterministic' (their statements: YtfhckpfiegenaaaGreatDoorTotals.lean).
  GIVEN WITH THE SEED: the statements are not yours to turn. If you find one false, say at which input.
  Laid BY PROGRAM, IN A SANDBOX (cutbox-rows.mjs): the forced cells as the released guide's own fill.sh prints them over the translation 050994d4f16ace84… (all of the seat's roots in one cut). By AI agents, Wed Nov 11 2026. No macro, syntax, notation, axiom, sorry.
-/
import Derived.Test.YtfhckpfiegenaaaGreatDoorChecked
import GoSem.PinnedTables
import GoSem.Claim
import GoSem.ClaimJoined
import GoSem.ClaimMapViews
import Derived.JoinedTies
import Derived.KernelRfl
namespace Go.Proofs.YtfhckpfiegenaaaGreatDoor
/- THE CELL 'sum', in the pinned program and in every row, IS THE sha256 OF THE DUMP (.gsa) THAT YtfhckpfiegenaaaGreatDoorProg.lean LOADS. Nothing in Lean hashes anything: it is a label: what it is worth is what the hold of that sum in a sandbox is worth. -/
noncomputable def Tryz.pinned : Pinned := { name := "ytfhckpfiegenaaagreatdoor", sum := "050994d4f16ace84c9b6cf8724ca35c1875b0bd4e984845116a528b67eb7b773", checked := Tryz.checked }
namespace Rows
def none {H : Type} : Left H := { results := [], args := [] }

/- WHAT THE LISTED PACKAGE-LEVEL VARIABLES READ AS WHEN THE CALL BEGINS. Each datum BY PROGRAM (the guide's laid-datum.mjs) off the statement by which the dump's own 'gosem.cut.vars' lays the variable. In a bare row this is a premise. The card (YtfhckpfiegenaaaGreatDoorCards.lean) ties it to the program's text. -/
def laid_math_bits_deBruijn32tab {H : Type} : DataW H := .agg [.lit (.int .u8 0), .lit (.int .u8 1), .lit (.int .u8 28), .lit (.int .u8 2), .lit (.int .u8 29), .lit (.int .u8 14), .lit (.int .u8 24), .lit (.int .u8 3), .lit (.int .u8 30), .lit (.int .u8 22), .lit (.int .u8 20), .lit (.int .u8 15), .lit (.int .u8 25), .lit (.int .u8 17), .lit (.int .u8 4), .lit (.int .u8 8), .lit (.int .u8 31), .lit (.int .u8 27), .lit (.int .u8 13), .lit (.int .u8 23), .lit (.int .u8 21), .lit (.int .u8 19), .lit (.int .u8 16), .lit (.int .u8 7), .lit (.int .u8 26), .lit (.int .u8 12), .lit (.int .u8 18), .lit (.int .u8 6), .lit (.int .u8 11), .lit (.int .u8 5), .lit (.int .u8 10), .lit (.int .u8 9)]
def laid_math_bits_deBruijn64tab {H : Type} : DataW H := .agg [.lit (.int .u8 0), .lit (.int .u8 1), .lit (.int .u8 56), .lit (.int .u8 2), .lit (.int .u8 57), .lit (.int .u8 49), .lit (.int .u8 28), .lit (.int .u8 3), .lit (.int .u8 61), .lit (.int .u8 58), .lit (.int .u8 42), .lit (.int .u8 50), .lit (.int .u8 38), .lit (.int .u8 29), .lit (.int .u8 17), .lit (.int .u8 4), .lit (.int .u8 62), .lit (.int .u8 47), .lit (.int .u8 59), .lit (.int .u8 36), .lit (.int .u8 45), .lit (.int .u8 43), .lit (.int .u8 51), .lit (.int .u8 22), .lit (.int .u8 53), .lit (.int .u8 39), .lit (.int .u8 33), .lit (.int .u8 30), .lit (.int .u8 24), .lit (.int .u8 18), .lit (.int .u8 12), .lit (.int .u8 5), .lit (.int .u8 63), .lit (.int .u8 55), .lit (.int .u8 48), .lit (.int .u8 27), .lit (.int .u8 60), .lit (.int .u8 41), .lit (.int .u8 37), .lit (.int .u8 16), .lit (.int .u8 46), .lit (.int .u8 35), .lit (.int .u8 44), .lit (.int .u8 21), .lit (.int .u8 52), .lit (.int .u8 32), .lit (.int .u8 23), .lit (.int .u8 11), .lit (.int .u8 54), .lit (.int .u8 26), .lit (.int .u8 40), .lit (.int .u8 15), .lit (.int .u8 34), .lit (.int .u8 20), .lit (.int .u8 31), .lit (.int .u8 10), .lit (.int .u8 25), .lit (.int .u8 14), .lit (.int .u8 19), .lit (.int .u8 9), .lit (.int .u8 13), .lit (.int .u8 8), .lit (.int .u8 7), .lit (.int .u8 6)]
def laid_internal_strconv_uint64pow10 {H : Type} : DataW H := .agg [.lit (.int .u64 1), .lit (.int .u64 10), .lit (.int .u64 100), .lit (.int .u64 1000), .lit (.int .u64 10000), .lit (.int .u64 100000), .lit (.int .u64 1000000), .lit (.int .u64 10000000), .lit (.int .u64 100000000), .lit (.int .u64 1000000000), .lit (.int .u64 10000000000), .lit (.int .u64 100000000000), .lit (.int .u64 1000000000000), .lit (.int .u64 10000000000000), .lit (.int .u64 100000000000000), .lit (.int .u64 1000000000000000), .lit (.int .u64 10000000000000000), .lit (.int .u64 100000000000000000), .lit (.int .u64 1000000000000000000), .lit (.int .u64 10000000000000000000)]
def laid_unicode_utf8_acceptRanges {H : Type} : DataW H := .agg [.agg [.lit (.int .u8 128), .lit (.int .u8 191)], .agg [.lit (.int .u8 160), .lit (.int .u8 191)], .agg [.lit (.int .u8 128), .lit (.int .u8 159)], .agg [.lit (.int .u8 144), .lit (.int .u8 191)], .agg [.lit (.int .u8 128), .lit (.int .u8 143)], .agg [.lit (.int .u8 0), .lit (.int .u8 0)], .agg [.lit (.int .u8 0), .lit (.int .u8 0)], .agg [.lit (.int .u8 0), .lit (.int .u8 0)], .agg [.lit (.int .u8 0), .lit (.int .u8 0)], .agg [.lit (.int .u8 0), .lit (.int .u8 0)], .agg [.lit (.int .u8 0), .lit (.int .u8 0)], .agg [.lit (.int .u8 0), .lit (.int .u8 0)], .agg [.lit (.int .u8 0), .lit (.int .u8 0)], .agg [.lit (.int .u8 0), .lit (.int .u8 0)], .agg [.lit (.int .u8 0), .lit (.int .u8 0)], .agg [.lit (.int .u8 0), .lit (.int .u8 0)]]
def laid_frustum_command_names {H : Type} : DataW H := .slice [.lit (.string [98, 105, 110, 100, 45, 112, 105, 112, 101, 108, 105, 110, 101]), .lit (.string [98, 105, 110, 100, 45, 118, 101, 114, 116, 101, 120]), .lit (.string [98, 105, 110, 100, 45, 105, 110, 100, 101, 120]), .lit (.string [98, 105, 110, 100, 45, 116, 101, 120, 116, 117, 114, 101]), .lit (.string [98, 105, 110, 100, 45, 98, 117, 102, 102, 101, 114]), .lit (.string [115, 101, 116, 45, 117, 110, 105, 102, 111, 114, 109, 115]), .lit (.string [98, 101, 103, 105, 110, 45, 112, 97, 115, 115]), .lit (.string [101, 110, 100, 45, 112, 97, 115, 115]), .lit (.string [100, 114, 97, 119]), .lit (.string [98, 97, 114, 114, 105, 101, 114]), .lit (.string [98, 101, 103, 105, 110, 45, 113, 117, 101, 114, 121]), .lit (.string [101, 110, 100, 45, 113, 117, 101, 114, 121]), .lit (.string [99, 111, 112, 121, 45, 116, 111, 45, 105, 109, 97, 103, 101]), .lit (.string [114, 101, 115, 111, 108, 118, 101])] []
def laid_frustum_trace_indexWords {H : Type} : DataW H := .slice [.lit (.string [110, 111, 110, 101]), .lit (.string [105, 110, 100, 101, 120, 56]), .lit (.string [105, 110, 100, 101, 120, 49, 54]), .lit (.string [105, 110, 100, 101, 120, 51, 50])] []
def laid_frustum_trace_stateWords {H : Type} : DataW H := .slice [.lit (.string [117, 110, 100, 101, 102, 105, 110, 101, 100]), .lit (.string [114, 101, 97, 100]), .lit (.string [116, 97, 114, 103, 101, 116]), .lit (.string [115, 111, 117, 114, 99, 101]), .lit (.string [99, 111, 112, 121])] []
/-- One of Go's own tables, pinned by name: the form's constant. -/
def laid_unicode_utf8_first : DataW Unit := Go.Pinned.utf8First

/-- 'frustumlaw52.TraceLines': WHATEVER THE INPUT: true; the input reads as it did. -/
def traceLinesSpec : ChangeSpec := { name := "traceLines", fn := fun _ => fun
  | [d] => { results := [.lit (.bool true)], args := [d] }
  | _ => none }
def traceLinesRow : OpenClaim := { program := "ytfhckpfiegenaaagreatdoor", sum := "050994d4f16ace84c9b6cf8724ca35c1875b0bd4e984845116a528b67eb7b773", func := "frustum/frustumlaw52.TraceLines", spec := "traceLines", inPlace := ["internal/abi.NoEscape", "internal/bytealg.MakeNoZero", "internal/bytealg.CountString", "internal/bytealg.IndexByteString", "internal/bytealg.IndexString"], unfollowed := true, recurses := true, named := ["frustum/command.names", "frustum/trace.indexWords", "frustum/trace.stateWords", "internal/strconv.uint64pow10", "math/bits.deBruijn32tab", "math/bits.deBruijn64tab", "unicode/utf8.first", "unicode/utf8.acceptRanges", "internal/bytealg.MaxLen"], apart := false, laid := [("math/bits.deBruijn32tab", laid_math_bits_deBruijn32tab), ("math/bits.deBruijn64tab", laid_math_bits_deBruijn64tab), ("internal/strconv.uint64pow10", laid_internal_strconv_uint64pow10), ("unicode/utf8.acceptRanges", laid_unicode_utf8_acceptRanges), ("frustum/command.names", laid_frustum_command_names), ("frustum/trace.indexWords", laid_frustum_trace_indexWords), ("frustum/trace.stateWords", laid_frustum_trace_stateWords), ("unicode/utf8.first", laid_unicode_utf8_first)] }
def TraceLinesSaid : Prop := traceLinesRow.holds Tryz.pinned (OpenSpec.ofChange traceLinesSpec)

/-- ITS FALSE NEIGHBOUR: 'it returns false'. Refute it at one input. -/
def traceLinesWrong : ChangeSpec := { name := "traceLines", fn := fun _ => fun
  | [d] => { results := [.lit (.bool false)], args := [d] }
  | _ => none }
def TraceLinesWrongFalsely : Prop := traceLinesRow.holds Tryz.pinned (OpenSpec.ofChange traceLinesWrong)

/-- 'frustumlaw52.TraceParses': WHATEVER THE INPUT: true; the input reads as it did. -/
def traceParsesSpec : ChangeSpec := { name := "traceParses", fn := fun _ => fun
  | [d] => { results := [.lit (.bool true)], args := [d] }
  | _ => none }
def traceParsesRow : OpenClaim := { program := "ytfhckpfiegenaaagreatdoor", sum := "050994d4f16ace84c9b6cf8724ca35c1875b0bd4e984845116a528b67eb7b773", func := "frustum/frustumlaw52.TraceParses", spec := "traceParses", inPlace := ["internal/abi.NoEscape", "internal/bytealg.MakeNoZero", "internal/bytealg.CountString", "internal/bytealg.IndexByteString", "internal/bytealg.IndexString"], unfollowed := true, recurses := true, named := ["frustum/command.names", "frustum/trace.indexWords", "frustum/trace.stateWords", "internal/strconv.uint64pow10", "math/bits.deBruijn32tab", "math/bits.deBruijn64tab", "unicode/utf8.first", "unicode/utf8.acceptRanges", "internal/bytealg.MaxLen"], apart := false, laid := [("math/bits.deBruijn32tab", laid_math_bits_deBruijn32tab), ("math/bits.deBruijn64tab", laid_math_bits_deBruijn64tab), ("internal/strconv.uint64pow10", laid_internal_strconv_uint64pow10), ("unicode/utf8.acceptRanges", laid_unicode_utf8_acceptRanges), ("frustum/command.names", laid_frustum_command_names), ("frustum/trace.indexWords", laid_frustum_trace_indexWords), ("frustum/trace.stateWords", laid_frustum_trace_stateWords), ("unicode/utf8.first", laid_unicode_utf8_first)] }
def TraceParsesSaid : Prop := traceParsesRow.holds Tryz.pinned (OpenSpec.ofChange traceParsesSpec)

/-- ITS FALSE NEIGHBOUR: 'it returns false'. Refute it at one input. -/
def traceParsesWrong : ChangeSpec := { name := "traceParses", fn := fun _ => fun
  | [d] => { results := [.lit (.bool false)], args := [d] }
  | _ => none }
def TraceParsesWrongFalsely : Prop := traceParsesRow.holds Tryz.pinned (OpenSpec.ofChange traceParsesWrong)

/-- 'frustumlaw52.TraceFormats': WHATEVER THE INPUT: true; the input reads as it did. -/
def traceFormatsSpec : ChangeSpec := { name := "traceFormats", fn := fun _ => fun
  | [d] => { results := [.lit (.bool true)], args := [d] }
  | _ => none }
def traceFormatsRow : OpenClaim := { program := "ytfhckpfiegenaaagreatdoor", sum := "050994d4f16ace84c9b6cf8724ca35c1875b0bd4e984845116a528b67eb7b773", func := "frustum/frustumlaw52.TraceFormats", spec := "traceFormats", inPlace := ["internal/abi.NoEscape", "internal/bytealg.MakeNoZero", "internal/bytealg.CountString", "internal/bytealg.IndexByteString", "internal/bytealg.IndexString"], unfollowed := true, recurses := true, named := ["frustum/command.names", "frustum/trace.indexWords", "frustum/trace.stateWords", "internal/strconv.uint64pow10", "math/bits.deBruijn32tab", "math/bits.deBruijn64tab", "unicode/utf8.first", "unicode/utf8.acceptRanges", "internal/bytealg.MaxLen"], apart := false, laid := [("math/bits.deBruijn32tab", laid_math_bits_deBruijn32tab), ("math/bits.deBruijn64tab", laid_math_bits_deBruijn64tab), ("internal/strconv.uint64pow10", laid_internal_strconv_uint64pow10), ("unicode/utf8.acceptRanges", laid_unicode_utf8_acceptRanges), ("frustum/command.names", laid_frustum_command_names), ("frustum/trace.indexWords", laid_frustum_trace_indexWords), ("frustum/trace.stateWords", laid_frustum_trace_stateWords), ("unicode/utf8.first", laid_unicode_utf8_first)] }
def TraceFormatsSaid : Prop := traceFormatsRow.holds Tryz.pinned (OpenSpec.ofChange traceFormatsSpec)

/-- ITS FALSE NEIGHBOUR: 'it returns false'. Refute it at one input. -/
def traceFormatsWrong : ChangeSpec := { name := "traceFormats", fn := fun _ => fun
  | [d] => { results := [.lit (.bool false)], args := [d] }
  | _ => none }
def TraceFormatsWrongFalsely : Prop := traceFormatsRow.holds Tryz.pinned (OpenSpec.ofChange traceFormatsWrong)

/-- 'frustumlaw52.TraceTexts': WHATEVER THE INPUT: true; the input reads as it did. -/
def traceTextsSpec : ChangeSpec := { name := "traceTexts", fn := fun _ => fun
  | [d] => { results := [.lit (.bool true)], args := [d] }
  | _ => none }
def traceTextsRow : OpenClaim := { program := "ytfhckpfiegenaaagreatdoor", sum := "050994d4f16ace84c9b6cf8724ca35c1875b0bd4e984845116a528b67eb7b773", func := "frustum/frustumlaw52.TraceTexts", spec := "traceTexts", inPlace := ["internal/bytealg.CountString", "internal/bytealg.IndexByteString", "internal/bytealg.IndexString", "internal/abi.NoEscape", "internal/bytealg.MakeNoZero"], unfollowed := true, recurses := true, named := ["unicode/utf8.first", "unicode/utf8.acceptRanges", "internal/bytealg.MaxLen", "frustum/command.names", "frustum/trace.indexWords", "frustum/trace.stateWords", "internal/strconv.uint64pow10", "math/bits.deBruijn32tab", "math/bits.deBruijn64tab"], apart := false, laid := [("math/bits.deBruijn32tab", laid_math_bits_deBruijn32tab), ("math/bits.deBruijn64tab", laid_math_bits_deBruijn64tab), ("internal/strconv.uint64pow10", laid_internal_strconv_uint64pow10), ("unicode/utf8.acceptRanges", laid_unicode_utf8_acceptRanges), ("frustum/command.names", laid_frustum_command_names), ("frustum/trace.indexWords", laid_frustum_trace_indexWords), ("frustum/trace.stateWords", laid_frustum_trace_stateWords), ("unicode/utf8.first", laid_unicode_utf8_first)] }
def TraceTextsSaid : Prop := traceTextsRow.holds Tryz.pinned (OpenSpec.ofChange traceTextsSpec)

/-- ITS FALSE NEIGHBOUR: 'it returns false'. Refute it at one input. -/
def traceTextsWrong : ChangeSpec := { name := "traceTexts", fn := fun _ => fun
  | [d] => { results := [.lit (.bool false)], args := [d] }
  | _ => none }
def TraceTextsWrongFalsely : Prop := traceTextsRow.holds Tryz.pinned (OpenSpec.ofChange traceTextsWrong)

/- THE SECOND FORM. 'bulk': how many values and letters a reading holds, each counted each time it is reached (what is shared counts as often as it is met; a slice's spare places count too). A statement '..UptoSaid' is the law's where the arguments, and the package variables that the reading takes, are together of bulk at most 1048576: NARROWER than '..Said'. Prove '..Said' where nothing that the law and all that it calls make is longer than what came in: it says more and counts as full. Else prove '..UptoSaid'. A law counts once. -/
mutual
def uptoBulk {H : Type} : DataW H → Nat
  | .lit (.string bytes) => bytes.length + 1
  | .lit _ => 1
  | .nil => 1
  | .ptr d => uptoBulk d + 1
  | .slice elems spare => uptoBulkAll elems + uptoBulkAll spare + 1
  | .agg parts => uptoBulkAll parts + 1
  | .iface _ d => uptoBulk d + 1
  | .map entries => uptoBulkEntries entries + 1
  | .held _ => 1
def uptoBulkAll {H : Type} : List (DataW H) → Nat
  | [] => 0
  | d :: r => uptoBulk d + uptoBulkAll r
def uptoBulkEntries {H : Type} : List (Lit × DataW H) → Nat
  | [] => 0
  | x :: r => uptoBulkEntry x + uptoBulkEntries r
def uptoBulkEntry {H : Type} : Lit × DataW H → Nat
  | (.string bytes, d) => bytes.length + uptoBulk d + 1
  | (_, d) => uptoBulk d + 1
 end
def uptoSmall : (H : Type) → List (DataW H) → Bool := fun _ ds => decide (uptoBulkAll ds ≤ 1048576)
def OpenSpec.upto (s : _root_.Go.ChangeSpec) : _root_.Go.OpenSpec := { _root_.Go.OpenSpec.ofChange s with cond := some uptoSmall }

/-- 'frustumlaw52.TraceLines', WHERE WHAT IT READS IS OF BULK AT MOST 1048576: true; the input reads as it did. -/
def traceLinesUptoRow : OpenClaim := { program := "ytfhckpfiegenaaagreatdoor", sum := "050994d4f16ace84c9b6cf8724ca35c1875b0bd4e984845116a528b67eb7b773", func := "frustum/frustumlaw52.TraceLines", spec := "traceLines", inPlace := ["internal/abi.NoEscape", "internal/bytealg.MakeNoZero", "internal/bytealg.CountString", "internal/bytealg.IndexByteString", "internal/bytealg.IndexString"], unfollowed := true, recurses := true, named := ["frustum/command.names", "frustum/trace.indexWords", "frustum/trace.stateWords", "internal/strconv.uint64pow10", "math/bits.deBruijn32tab", "math/bits.deBruijn64tab", "unicode/utf8.first", "unicode/utf8.acceptRanges", "internal/bytealg.MaxLen"], apart := false, laid := [("math/bits.deBruijn32tab", laid_math_bits_deBruijn32tab), ("math/bits.deBruijn64tab", laid_math_bits_deBruijn64tab), ("internal/strconv.uint64pow10", laid_internal_strconv_uint64pow10), ("unicode/utf8.acceptRanges", laid_unicode_utf8_acceptRanges), ("frustum/command.names", laid_frustum_command_names), ("frustum/trace.indexWords", laid_frustum_trace_indexWords), ("frustum/trace.stateWords", laid_frustum_trace_stateWords), ("unicode/utf8.first", laid_unicode_utf8_first)], narrowed := true }
def TraceLinesUptoSaid : Prop := traceLinesUptoRow.holds Tryz.pinned (OpenSpec.upto traceLinesSpec)

/-- 'frustumlaw52.TraceParses', WHERE WHAT IT READS IS OF BULK AT MOST 1048576: true; the input reads as it did. -/
def traceParsesUptoRow : OpenClaim := { program := "ytfhckpfiegenaaagreatdoor", sum := "050994d4f16ace84c9b6cf8724ca35c1875b0bd4e984845116a528b67eb7b773", func := "frustum/frustumlaw52.TraceParses", spec := "traceParses", inPlace := ["internal/abi.NoEscape", "internal/bytealg.MakeNoZero", "internal/bytealg.CountString", "internal/bytealg.IndexByteString", "internal/bytealg.IndexString"], unfollowed := true, recurses := true, named := ["frustum/command.names", "frustum/trace.indexWords", "frustum/trace.stateWords", "internal/strconv.uint64pow10", "math/bits.deBruijn32tab", "math/bits.deBruijn64tab", "unicode/utf8.first", "unicode/utf8.acceptRanges", "internal/bytealg.MaxLen"], apart := false, laid := [("math/bits.deBruijn32tab", laid_math_bits_deBruijn32tab), ("math/bits.deBruijn64tab", laid_math_bits_deBruijn64tab), ("internal/strconv.uint64pow10", laid_internal_strconv_uint64pow10), ("unicode/utf8.acceptRanges", laid_unicode_utf8_acceptRanges), ("frustum/command.names", laid_frustum_command_names), ("frustum/trace.indexWords", laid_frustum_trace_indexWords), ("frustum/trace.stateWords", laid_frustum_trace_stateWords), ("unicode/utf8.first", laid_unicode_utf8_first)], narrowed := true }
def TraceParsesUptoSaid : Prop := traceParsesUptoRow.holds Tryz.pinned (OpenSpec.upto traceParsesSpec)

/-- 'frustumlaw52.TraceFormats', WHERE WHAT IT READS IS OF BULK AT MOST 1048576: true; the input reads as it did. -/
def traceFormatsUptoRow : OpenClaim := { program := "ytfhckpfiegenaaagreatdoor", sum := "050994d4f16ace84c9b6cf8724ca35c1875b0bd4e984845116a528b67eb7b773", func := "frustum/frustumlaw52.TraceFormats", spec := "traceFormats", inPlace := ["internal/abi.NoEscape", "internal/bytealg.MakeNoZero", "internal/bytealg.CountString", "internal/bytealg.IndexByteString", "internal/bytealg.IndexString"], unfollowed := true, recurses := true, named := ["frustum/command.names", "frustum/trace.indexWords", "frustum/trace.stateWords", "internal/strconv.uint64pow10", "math/bits.deBruijn32tab", "math/bits.deBruijn64tab", "unicode/utf8.first", "unicode/utf8.acceptRanges", "internal/bytealg.MaxLen"], apart := false, laid := [("math/bits.deBruijn32tab", laid_math_bits_deBruijn32tab), ("math/bits.deBruijn64tab", laid_math_bits_deBruijn64tab), ("internal/strconv.uint64pow10", laid_internal_strconv_uint64pow10), ("unicode/utf8.acceptRanges", laid_unicode_utf8_acceptRanges), ("frustum/command.names", laid_frustum_command_names), ("frustum/trace.indexWords", laid_frustum_trace_indexWords), ("frustum/trace.stateWords", laid_frustum_trace_stateWords), ("unicode/utf8.first", laid_unicode_utf8_first)], narrowed := true }
def TraceFormatsUptoSaid : Prop := traceFormatsUptoRow.holds Tryz.pinned (OpenSpec.upto traceFormatsSpec)

/-- 'frustumlaw52.TraceTexts', WHERE WHAT IT READS IS OF BULK AT MOST 1048576: true; the input reads as it did. -/
def traceTextsUptoRow : OpenClaim := { program := "ytfhckpfiegenaaagreatdoor", sum := "050994d4f16ace84c9b6cf8724ca35c1875b0bd4e984845116a528b67eb7b773", func := "frustum/frustumlaw52.TraceTexts", spec := "traceTexts", inPlace := ["internal/bytealg.CountString", "internal/bytealg.IndexByteString", "internal/bytealg.IndexString", "internal/abi.NoEscape", "internal/bytealg.MakeNoZero"], unfollowed := true, recurses := true, named := ["unicode/utf8.first", "unicode/utf8.acceptRanges", "internal/bytealg.MaxLen", "frustum/command.names", "frustum/trace.indexWords", "frustum/trace.stateWords", "internal/strconv.uint64pow10", "math/bits.deBruijn32tab", "math/bits.deBruijn64tab"], apart := false, laid := [("math/bits.deBruijn32tab", laid_math_bits_deBruijn32tab), ("math/bits.deBruijn64tab", laid_math_bits_deBruijn64tab), ("internal/strconv.uint64pow10", laid_internal_strconv_uint64pow10), ("unicode/utf8.acceptRanges", laid_unicode_utf8_acceptRanges), ("frustum/command.names", laid_frustum_command_names), ("frustum/trace.indexWords", laid_frustum_trace_indexWords), ("frustum/trace.stateWords", laid_frustum_trace_stateWords), ("unicode/utf8.first", laid_unicode_utf8_first)], narrowed := true }
def TraceTextsUptoSaid : Prop := traceTextsUptoRow.holds Tryz.pinned (OpenSpec.upto traceTextsSpec)

end Rows
end Go.Proofs.YtfhckpfiegenaaaGreatDoor
