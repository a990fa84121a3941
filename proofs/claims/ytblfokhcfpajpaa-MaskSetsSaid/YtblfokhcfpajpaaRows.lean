/-
  No cell of these rows narrows 'for every input' (looked for: loops, veiled, ifaces, maps, wideKeys, modest, calm, conditions, laid).
  DERIVED. THE GIVEN ROWS OF THIS SEAT. 11 by the template 'for every input the law returns true; each argument reads behind the call as it read before'; 0 by the template 'total and deterministic' (their statements: YtblfokhcfpajpaaTotals.lean).
  GIVEN WITH THE SEED: the statements are not yours to turn. If you find one false, say at which input.
  Laid BY PROGRAM, IN A SANDBOX (cutbox-rows.mjs): the forced cells as the released guide's own fill.sh prints them over the translation 2778eb5e6c5d079b… (all of the seat's roots in one cut). By AI agents, Wed Nov 11 2026. No macro, syntax, notation, axiom, sorry.
-/
import Derived.Test.YtblfokhcfpajpaaChecked
import GoSem.Claim
import GoSem.ClaimJoined
import GoSem.ClaimMapViews
import Derived.JoinedTies
import Derived.KernelRfl
namespace Go.Proofs.Ytblfokhcfpajpaa
/- THE CELL 'sum', in the pinned program and in every row, IS THE sha256 OF THE DUMP (.gsa) THAT YtblfokhcfpajpaaProg.lean LOADS. Nothing in Lean hashes anything: it is a label: what it is worth is what the hold of that sum in a sandbox is worth. -/
noncomputable def Try.pinned : Pinned := { name := "ytblfokhcfpajpaa", sum := "2778eb5e6c5d079b051628a91a65311a56fbfecd299ac8ddd101569e1ba228f8", checked := Try.checked }
namespace Rows
def none {H : Type} : Left H := { results := [], args := [] }

/-- 'frustumlaw11.AddressIndex': WHATEVER THE INPUT: true; the input reads as it did. -/
def addressIndexSpec : ChangeSpec := { name := "addressIndex", fn := fun _ => fun
  | [d1, d2, d3] => { results := [.lit (.bool true)], args := [d1, d2, d3] }
  | _ => none }
def addressIndexRow : OpenClaim := { program := "ytblfokhcfpajpaa", sum := "2778eb5e6c5d079b051628a91a65311a56fbfecd299ac8ddd101569e1ba228f8", func := "frustum/frustumlaw11.AddressIndex", spec := "addressIndex", apart := false }
def AddressIndexSaid : Prop := addressIndexRow.holds Try.pinned (OpenSpec.ofChange addressIndexSpec)

/-- ITS FALSE NEIGHBOUR: 'it returns false'. Refute it at one input. -/
def addressIndexWrong : ChangeSpec := { name := "addressIndex", fn := fun _ => fun
  | [d1, d2, d3] => { results := [.lit (.bool false)], args := [d1, d2, d3] }
  | _ => none }
def AddressIndexWrongFalsely : Prop := addressIndexRow.holds Try.pinned (OpenSpec.ofChange addressIndexWrong)

/-- 'frustumlaw11.AddressMirror': WHATEVER THE INPUT: true; the input reads as it did. -/
def addressMirrorSpec : ChangeSpec := { name := "addressMirror", fn := fun _ => fun
  | [d1, d2] => { results := [.lit (.bool true)], args := [d1, d2] }
  | _ => none }
def addressMirrorRow : OpenClaim := { program := "ytblfokhcfpajpaa", sum := "2778eb5e6c5d079b051628a91a65311a56fbfecd299ac8ddd101569e1ba228f8", func := "frustum/frustumlaw11.AddressMirror", spec := "addressMirror", apart := false }
def AddressMirrorSaid : Prop := addressMirrorRow.holds Try.pinned (OpenSpec.ofChange addressMirrorSpec)

/-- ITS FALSE NEIGHBOUR: 'it returns false'. Refute it at one input. -/
def addressMirrorWrong : ChangeSpec := { name := "addressMirror", fn := fun _ => fun
  | [d1, d2] => { results := [.lit (.bool false)], args := [d1, d2] }
  | _ => none }
def AddressMirrorWrongFalsely : Prop := addressMirrorRow.holds Try.pinned (OpenSpec.ofChange addressMirrorWrong)

/-- 'frustumlaw11.AddressInside': WHATEVER THE INPUT: true; the input reads as it did. -/
def addressInsideSpec : ChangeSpec := { name := "addressInside", fn := fun _ => fun
  | [d1, d2, d3] => { results := [.lit (.bool true)], args := [d1, d2, d3] }
  | _ => none }
def addressInsideRow : OpenClaim := { program := "ytblfokhcfpajpaa", sum := "2778eb5e6c5d079b051628a91a65311a56fbfecd299ac8ddd101569e1ba228f8", func := "frustum/frustumlaw11.AddressInside", spec := "addressInside", apart := false }
def AddressInsideSaid : Prop := addressInsideRow.holds Try.pinned (OpenSpec.ofChange addressInsideSpec)

/-- ITS FALSE NEIGHBOUR: 'it returns false'. Refute it at one input. -/
def addressInsideWrong : ChangeSpec := { name := "addressInside", fn := fun _ => fun
  | [d1, d2, d3] => { results := [.lit (.bool false)], args := [d1, d2, d3] }
  | _ => none }
def AddressInsideWrongFalsely : Prop := addressInsideRow.holds Try.pinned (OpenSpec.ofChange addressInsideWrong)

/-- 'frustumlaw11.AddressPairs': WHATEVER THE INPUT: true; the input reads as it did. -/
def addressPairsSpec : ChangeSpec := { name := "addressPairs", fn := fun _ => fun
  | [d1, d2, d3] => { results := [.lit (.bool true)], args := [d1, d2, d3] }
  | _ => none }
def addressPairsRow : OpenClaim := { program := "ytblfokhcfpajpaa", sum := "2778eb5e6c5d079b051628a91a65311a56fbfecd299ac8ddd101569e1ba228f8", func := "frustum/frustumlaw11.AddressPairs", spec := "addressPairs", apart := false }
def AddressPairsSaid : Prop := addressPairsRow.holds Try.pinned (OpenSpec.ofChange addressPairsSpec)

/-- ITS FALSE NEIGHBOUR: 'it returns false'. Refute it at one input. -/
def addressPairsWrong : ChangeSpec := { name := "addressPairs", fn := fun _ => fun
  | [d1, d2, d3] => { results := [.lit (.bool false)], args := [d1, d2, d3] }
  | _ => none }
def AddressPairsWrongFalsely : Prop := addressPairsRow.holds Try.pinned (OpenSpec.ofChange addressPairsWrong)

/-- 'frustumlaw08.MaskTexts': WHATEVER THE INPUT: true; the input reads as it did. -/
def maskTextsSpec : ChangeSpec := { name := "maskTexts", fn := fun _ => fun
  | [d1, d2] => { results := [.lit (.bool true)], args := [d1, d2] }
  | _ => none }
def maskTextsRow : OpenClaim := { program := "ytblfokhcfpajpaa", sum := "2778eb5e6c5d079b051628a91a65311a56fbfecd299ac8ddd101569e1ba228f8", func := "frustum/frustumlaw08.MaskTexts", spec := "maskTexts", inPlace := ["internal/abi.NoEscape"], apart := false }
def MaskTextsSaid : Prop := maskTextsRow.holds Try.pinned (OpenSpec.ofChange maskTextsSpec)

/-- ITS FALSE NEIGHBOUR: 'it returns false'. Refute it at one input. -/
def maskTextsWrong : ChangeSpec := { name := "maskTexts", fn := fun _ => fun
  | [d1, d2] => { results := [.lit (.bool false)], args := [d1, d2] }
  | _ => none }
def MaskTextsWrongFalsely : Prop := maskTextsRow.holds Try.pinned (OpenSpec.ofChange maskTextsWrong)

/-- 'frustumlaw11.AddressPeriod': WHATEVER THE INPUT: true; the input reads as it did. -/
def addressPeriodSpec : ChangeSpec := { name := "addressPeriod", fn := fun _ => fun
  | [d1, d2, d3] => { results := [.lit (.bool true)], args := [d1, d2, d3] }
  | _ => none }
def addressPeriodRow : OpenClaim := { program := "ytblfokhcfpajpaa", sum := "2778eb5e6c5d079b051628a91a65311a56fbfecd299ac8ddd101569e1ba228f8", func := "frustum/frustumlaw11.AddressPeriod", spec := "addressPeriod", apart := false }
def AddressPeriodSaid : Prop := addressPeriodRow.holds Try.pinned (OpenSpec.ofChange addressPeriodSpec)

/-- ITS FALSE NEIGHBOUR: 'it returns false'. Refute it at one input. -/
def addressPeriodWrong : ChangeSpec := { name := "addressPeriod", fn := fun _ => fun
  | [d1, d2, d3] => { results := [.lit (.bool false)], args := [d1, d2, d3] }
  | _ => none }
def AddressPeriodWrongFalsely : Prop := addressPeriodRow.holds Try.pinned (OpenSpec.ofChange addressPeriodWrong)

/-- 'frustumlaw08.MaskLanes': WHATEVER THE INPUT: true; the input reads as it did. -/
def maskLanesSpec : ChangeSpec := { name := "maskLanes", fn := fun _ => fun
  | [d1, d2] => { results := [.lit (.bool true)], args := [d1, d2] }
  | _ => none }
def maskLanesRow : OpenClaim := { program := "ytblfokhcfpajpaa", sum := "2778eb5e6c5d079b051628a91a65311a56fbfecd299ac8ddd101569e1ba228f8", func := "frustum/frustumlaw08.MaskLanes", spec := "maskLanes", inPlace := ["internal/abi.NoEscape"], apart := false }
def MaskLanesSaid : Prop := maskLanesRow.holds Try.pinned (OpenSpec.ofChange maskLanesSpec)

/-- ITS FALSE NEIGHBOUR: 'it returns false'. Refute it at one input. -/
def maskLanesWrong : ChangeSpec := { name := "maskLanes", fn := fun _ => fun
  | [d1, d2] => { results := [.lit (.bool false)], args := [d1, d2] }
  | _ => none }
def MaskLanesWrongFalsely : Prop := maskLanesRow.holds Try.pinned (OpenSpec.ofChange maskLanesWrong)

/-- 'frustumlaw08.MaskOperations': WHATEVER THE INPUT: true; the input reads as it did. -/
def maskOperationsSpec : ChangeSpec := { name := "maskOperations", fn := fun _ => fun
  | [d1, d2] => { results := [.lit (.bool true)], args := [d1, d2] }
  | _ => none }
def maskOperationsRow : OpenClaim := { program := "ytblfokhcfpajpaa", sum := "2778eb5e6c5d079b051628a91a65311a56fbfecd299ac8ddd101569e1ba228f8", func := "frustum/frustumlaw08.MaskOperations", spec := "maskOperations", inPlace := ["internal/abi.NoEscape"], apart := false }
def MaskOperationsSaid : Prop := maskOperationsRow.holds Try.pinned (OpenSpec.ofChange maskOperationsSpec)

/-- ITS FALSE NEIGHBOUR: 'it returns false'. Refute it at one input. -/
def maskOperationsWrong : ChangeSpec := { name := "maskOperations", fn := fun _ => fun
  | [d1, d2] => { results := [.lit (.bool false)], args := [d1, d2] }
  | _ => none }
def MaskOperationsWrongFalsely : Prop := maskOperationsRow.holds Try.pinned (OpenSpec.ofChange maskOperationsWrong)

/-- 'frustumlaw08.MaskCounts': WHATEVER THE INPUT: true; the input reads as it did. -/
def maskCountsSpec : ChangeSpec := { name := "maskCounts", fn := fun _ => fun
  | [d1, d2, d3] => { results := [.lit (.bool true)], args := [d1, d2, d3] }
  | _ => none }
def maskCountsRow : OpenClaim := { program := "ytblfokhcfpajpaa", sum := "2778eb5e6c5d079b051628a91a65311a56fbfecd299ac8ddd101569e1ba228f8", func := "frustum/frustumlaw08.MaskCounts", spec := "maskCounts", inPlace := ["internal/abi.NoEscape"], apart := false }
def MaskCountsSaid : Prop := maskCountsRow.holds Try.pinned (OpenSpec.ofChange maskCountsSpec)

/-- ITS FALSE NEIGHBOUR: 'it returns false'. Refute it at one input. -/
def maskCountsWrong : ChangeSpec := { name := "maskCounts", fn := fun _ => fun
  | [d1, d2, d3] => { results := [.lit (.bool false)], args := [d1, d2, d3] }
  | _ => none }
def MaskCountsWrongFalsely : Prop := maskCountsRow.holds Try.pinned (OpenSpec.ofChange maskCountsWrong)

/-- 'frustumlaw11.AddressModes': WHATEVER THE INPUT: true; the input reads as it did. -/
def addressModesSpec : ChangeSpec := { name := "addressModes", fn := fun _ => fun
  | [d1, d2, d3] => { results := [.lit (.bool true)], args := [d1, d2, d3] }
  | _ => none }
def addressModesRow : OpenClaim := { program := "ytblfokhcfpajpaa", sum := "2778eb5e6c5d079b051628a91a65311a56fbfecd299ac8ddd101569e1ba228f8", func := "frustum/frustumlaw11.AddressModes", spec := "addressModes", apart := false }
def AddressModesSaid : Prop := addressModesRow.holds Try.pinned (OpenSpec.ofChange addressModesSpec)

/-- ITS FALSE NEIGHBOUR: 'it returns false'. Refute it at one input. -/
def addressModesWrong : ChangeSpec := { name := "addressModes", fn := fun _ => fun
  | [d1, d2, d3] => { results := [.lit (.bool false)], args := [d1, d2, d3] }
  | _ => none }
def AddressModesWrongFalsely : Prop := addressModesRow.holds Try.pinned (OpenSpec.ofChange addressModesWrong)

/-- 'frustumlaw08.MaskSets': WHATEVER THE INPUT: true; the input reads as it did. -/
def maskSetsSpec : ChangeSpec := { name := "maskSets", fn := fun _ => fun
  | [d1, d2, d3] => { results := [.lit (.bool true)], args := [d1, d2, d3] }
  | _ => none }
def maskSetsRow : OpenClaim := { program := "ytblfokhcfpajpaa", sum := "2778eb5e6c5d079b051628a91a65311a56fbfecd299ac8ddd101569e1ba228f8", func := "frustum/frustumlaw08.MaskSets", spec := "maskSets", inPlace := ["internal/abi.NoEscape"], apart := false }
def MaskSetsSaid : Prop := maskSetsRow.holds Try.pinned (OpenSpec.ofChange maskSetsSpec)

/-- ITS FALSE NEIGHBOUR: 'it returns false'. Refute it at one input. -/
def maskSetsWrong : ChangeSpec := { name := "maskSets", fn := fun _ => fun
  | [d1, d2, d3] => { results := [.lit (.bool false)], args := [d1, d2, d3] }
  | _ => none }
def MaskSetsWrongFalsely : Prop := maskSetsRow.holds Try.pinned (OpenSpec.ofChange maskSetsWrong)

/- THE SECOND FORM. 'bulk': how many values and letters a reading holds, each counted each time it is reached (what is shared counts as often as it is met; a slice's spare places count too). A statement '..UptoSaid' is the law's where the arguments, and the package variables that the reading takes, are together of bulk at most 1048576: NARROWER than '..Said'. Prove '..Said' where nothing that the law and all that it calls make is longer than what came in: it says more and counts as full. Else prove '..UptoSaid'. A law counts once. -/
mutual
def uptoBulk {H : Type} : DataW H → Nat
  | .lit (.string bytes) => bytes.length + 1
  | .lit _ => 1
  | .nil => 1
  | .ptr d => uptoBulk d + 1
  | .slice elems spare => uptoBulkAll elems + uptoBulkAll spare + 1
  | .agg parts => uptoBulkAll parts + 1
  | .iface _ d => uptoBulk d + 1
  | .map entries => uptoBulkEntries entries + 1
  | .held _ => 1
def uptoBulkAll {H : Type} : List (DataW H) → Nat
  | [] => 0
  | d :: r => uptoBulk d + uptoBulkAll r
def uptoBulkEntries {H : Type} : List (Lit × DataW H) → Nat
  | [] => 0
  | x :: r => uptoBulkEntry x + uptoBulkEntries r
def uptoBulkEntry {H : Type} : Lit × DataW H → Nat
  | (.string bytes, d) => bytes.length + uptoBulk d + 1
  | (_, d) => uptoBulk d + 1
 end
def uptoSmall : (H : Type) → List (DataW H) → Bool := fun _ ds => decide (uptoBulkAll ds ≤ 1048576)
def OpenSpec.upto (s : _root_.Go.ChangeSpec) : _root_.Go.OpenSpec := { _root_.Go.OpenSpec.ofChange s with cond := some uptoSmall }

/-- 'frustumlaw11.AddressIndex', WHERE WHAT IT READS IS OF BULK AT MOST 1048576: true; the input reads as it did. -/
def addressIndexUptoRow : OpenClaim := { program := "ytblfokhcfpajpaa", sum := "2778eb5e6c5d079b051628a91a65311a56fbfecd299ac8ddd101569e1ba228f8", func := "frustum/frustumlaw11.AddressIndex", spec := "addressIndex", apart := false, narrowed := true }
def AddressIndexUptoSaid : Prop := addressIndexUptoRow.holds Try.pinned (OpenSpec.upto addressIndexSpec)

/-- 'frustumlaw11.AddressMirror', WHERE WHAT IT READS IS OF BULK AT MOST 1048576: true; the input reads as it did. -/
def addressMirrorUptoRow : OpenClaim := { program := "ytblfokhcfpajpaa", sum := "2778eb5e6c5d079b051628a91a65311a56fbfecd299ac8ddd101569e1ba228f8", func := "frustum/frustumlaw11.AddressMirror", spec := "addressMirror", apart := false, narrowed := true }
def AddressMirrorUptoSaid : Prop := addressMirrorUptoRow.holds Try.pinned (OpenSpec.upto addressMirrorSpec)

/-- 'frustumlaw11.AddressInside', WHERE WHAT IT READS IS OF BULK AT MOST 1048576: true; the input reads as it did. -/
def addressInsideUptoRow : OpenClaim := { program := "ytblfokhcfpajpaa", sum := "2778eb5e6c5d079b051628a91a65311a56fbfecd299ac8ddd101569e1ba228f8", func := "frustum/frustumlaw11.AddressInside", spec := "addressInside", apart := false, narrowed := true }
def AddressInsideUptoSaid : Prop := addressInsideUptoRow.holds Try.pinned (OpenSpec.upto addressInsideSpec)

/-- 'frustumlaw11.AddressPairs', WHERE WHAT IT READS IS OF BULK AT MOST 1048576: true; the input reads as it did. -/
def addressPairsUptoRow : OpenClaim := { program := "ytblfokhcfpajpaa", sum := "2778eb5e6c5d079b051628a91a65311a56fbfecd299ac8ddd101569e1ba228f8", func := "frustum/frustumlaw11.AddressPairs", spec := "addressPairs", apart := false, narrowed := true }
def AddressPairsUptoSaid : Prop := addressPairsUptoRow.holds Try.pinned (OpenSpec.upto addressPairsSpec)

/-- 'frustumlaw08.MaskTexts', WHERE WHAT IT READS IS OF BULK AT MOST 1048576: true; the input reads as it did. -/
def maskTextsUptoRow : OpenClaim := { program := "ytblfokhcfpajpaa", sum := "2778eb5e6c5d079b051628a91a65311a56fbfecd299ac8ddd101569e1ba228f8", func := "frustum/frustumlaw08.MaskTexts", spec := "maskTexts", inPlace := ["internal/abi.NoEscape"], apart := false, narrowed := true }
def MaskTextsUptoSaid : Prop := maskTextsUptoRow.holds Try.pinned (OpenSpec.upto maskTextsSpec)

/-- 'frustumlaw11.AddressPeriod', WHERE WHAT IT READS IS OF BULK AT MOST 1048576: true; the input reads as it did. -/
def addressPeriodUptoRow : OpenClaim := { program := "ytblfokhcfpajpaa", sum := "2778eb5e6c5d079b051628a91a65311a56fbfecd299ac8ddd101569e1ba228f8", func := "frustum/frustumlaw11.AddressPeriod", spec := "addressPeriod", apart := false, narrowed := true }
def AddressPeriodUptoSaid : Prop := addressPeriodUptoRow.holds Try.pinned (OpenSpec.upto addressPeriodSpec)

/-- 'frustumlaw08.MaskLanes', WHERE WHAT IT READS IS OF BULK AT MOST 1048576: true; the input reads as it did. -/
def maskLanesUptoRow : OpenClaim := { program := "ytblfokhcfpajpaa", sum := "2778eb5e6c5d079b051628a91a65311a56fbfecd299ac8ddd101569e1ba228f8", func := "frustum/frustumlaw08.MaskLanes", spec := "maskLanes", inPlace := ["internal/abi.NoEscape"], apart := false, narrowed := true }
def MaskLanesUptoSaid : Prop := maskLanesUptoRow.holds Try.pinned (OpenSpec.upto maskLanesSpec)

/-- 'frustumlaw08.MaskOperations', WHERE WHAT IT READS IS OF BULK AT MOST 1048576: true; the input reads as it did. -/
def maskOperationsUptoRow : OpenClaim := { program := "ytblfokhcfpajpaa", sum := "2778eb5e6c5d079b051628a91a65311a56fbfecd299ac8ddd101569e1ba228f8", func := "frustum/frustumlaw08.MaskOperations", spec := "maskOperations", inPlace := ["internal/abi.NoEscape"], apart := false, narrowed := true }
def MaskOperationsUptoSaid : Prop := maskOperationsUptoRow.holds Try.pinned (OpenSpec.upto maskOperationsSpec)

/-- 'frustumlaw08.MaskCounts', WHERE WHAT IT READS IS OF BULK AT MOST 1048576: true; the input reads as it did. -/
def maskCountsUptoRow : OpenClaim := { program := "ytblfokhcfpajpaa", sum := "2778eb5e6c5d079b051628a91a65311a56fbfecd299ac8ddd101569e1ba228f8", func := "frustum/frustumlaw08.MaskCounts", spec := "maskCounts", inPlace := ["internal/abi.NoEscape"], apart := false, narrowed := true }
def MaskCountsUptoSaid : Prop := maskCountsUptoRow.holds Try.pinned (OpenSpec.upto maskCountsSpec)

/-- 'frustumlaw11.AddressModes', WHERE WHAT IT READS IS OF BULK AT MOST 1048576: true; the input reads as it did. -/
def addressModesUptoRow : OpenClaim := { program := "ytblfokhcfpajpaa", sum := "2778eb5e6c5d079b051628a91a65311a56fbfecd299ac8ddd101569e1ba228f8", func := "frustum/frustumlaw11.AddressModes", spec := "addressModes", apart := false, narrowed := true }
def AddressModesUptoSaid : Prop := addressModesUptoRow.holds Try.pinned (OpenSpec.upto addressModesSpec)

/-- 'frustumlaw08.MaskSets', WHERE WHAT IT READS IS OF BULK AT MOST 1048576: true; the input reads as it did. -/
def maskSetsUptoRow : OpenClaim := { program := "ytblfokhcfpajpaa", sum := "2778eb5e6c5d079b051628a91a65311a56fbfecd299ac8ddd101569e1ba228f8", func := "frustum/frustumlaw08.MaskSets", spec := "maskSets", inPlace := ["internal/abi.NoEscape"], apart := false, narrowed := true }
def MaskSetsUptoSaid : Prop := maskSetsUptoRow.holds Try.pinned (OpenSpec.upto maskSetsSpec)

end Rows
end Go.Proofs.Ytblfokhcfpajpaa
