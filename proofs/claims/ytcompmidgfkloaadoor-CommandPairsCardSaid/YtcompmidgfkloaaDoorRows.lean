/-
  NARROWER THAN 'FOR EVERY INPUT', by the rows' own cells (each row's printed sentence says how): CommandChecks: laid · CommandValidates: laid · CommandSequence: laid · CommandFirst: laid · CommandEquals: laid · CommandPasses: laid · CommandPairs: laid.
  DERIVED. THE GIVEN ROWS OF THIS SEAT. 7 by the template 'for every input the law returns true; each argument reads behind the call as it read before'; 0 by the template 'total and deterministic' (their statements: YtcompmidgfkloaaDoorTotals.lean).
  GIVEN WITH THE SEED: the statements are not yours to turn. If you find one false, say at which input.
  Laid BY PROGRAM, IN A SANDBOX (cutbox-rows.mjs): the forced cells as the released guide's own fill.sh prints them over the translation f023d18312f1b6fd… (all of the seat's roots in one cut). By AI agents, Wed Nov 11 2026. No macro, syntax, notation, axiom, sorry.
-/
import Derived.Test.YtcompmidgfkloaaDoorChecked
import GoSem.Claim
import GoSem.ClaimJoined
import GoSem.ClaimMapViews
import Derived.JoinedTies
import Derived.KernelRfl
namespace Go.Proofs.YtcompmidgfkloaaDoor
/- THE CELL 'sum', in the pinned program and in every row, IS THE sha256 OF THE DUMP (.gsa) THAT YtcompmidgfkloaaDoorProg.lean LOADS. Nothing in Lean hashes anything: it is a label: what it is worth is what the hold of that sum in a sandbox is worth. -/
noncomputable def Tryd.pinned : Pinned := { name := "ytcompmidgfkloaadoor", sum := "f023d18312f1b6fdf686a5cf0552664baf0ce5f0b510812b260eba58e5158494", checked := Tryd.checked }
namespace Rows
def none {H : Type} : Left H := { results := [], args := [] }

/- WHAT THE LISTED PACKAGE-LEVEL VARIABLES READ AS WHEN THE CALL BEGINS. Each datum BY PROGRAM (the guide's laid-datum.mjs) off the statement by which the dump's own 'gosem.cut.vars' lays the variable. In a bare row this is a premise. The card (YtcompmidgfkloaaDoorCards.lean) ties it to the program's text. -/
def laid_frustum_command_names {H : Type} : DataW H := .slice [.lit (.string [98, 105, 110, 100, 45, 112, 105, 112, 101, 108, 105, 110, 101]), .lit (.string [98, 105, 110, 100, 45, 118, 101, 114, 116, 101, 120]), .lit (.string [98, 105, 110, 100, 45, 105, 110, 100, 101, 120]), .lit (.string [98, 105, 110, 100, 45, 116, 101, 120, 116, 117, 114, 101]), .lit (.string [98, 105, 110, 100, 45, 98, 117, 102, 102, 101, 114]), .lit (.string [115, 101, 116, 45, 117, 110, 105, 102, 111, 114, 109, 115]), .lit (.string [98, 101, 103, 105, 110, 45, 112, 97, 115, 115]), .lit (.string [101, 110, 100, 45, 112, 97, 115, 115]), .lit (.string [100, 114, 97, 119]), .lit (.string [98, 97, 114, 114, 105, 101, 114]), .lit (.string [98, 101, 103, 105, 110, 45, 113, 117, 101, 114, 121]), .lit (.string [101, 110, 100, 45, 113, 117, 101, 114, 121]), .lit (.string [99, 111, 112, 121, 45, 116, 111, 45, 105, 109, 97, 103, 101]), .lit (.string [114, 101, 115, 111, 108, 118, 101])] []

/-- 'frustumlaw48.CommandChecks': WHATEVER THE INPUT: true; the input reads as it did. -/
def commandChecksSpec : ChangeSpec := { name := "commandChecks", fn := fun _ => fun
  | [d] => { results := [.lit (.bool true)], args := [d] }
  | _ => none }
def commandChecksRow : OpenClaim := { program := "ytcompmidgfkloaadoor", sum := "f023d18312f1b6fdf686a5cf0552664baf0ce5f0b510812b260eba58e5158494", func := "frustum/frustumlaw48.CommandChecks", spec := "commandChecks", unfollowed := true, recurses := true, named := ["frustum/command.names"], apart := false, laid := [("frustum/command.names", laid_frustum_command_names)] }
def CommandChecksSaid : Prop := commandChecksRow.holds Tryd.pinned (OpenSpec.ofChange commandChecksSpec)

/-- ITS FALSE NEIGHBOUR: 'it returns false'. Refute it at one input. -/
def commandChecksWrong : ChangeSpec := { name := "commandChecks", fn := fun _ => fun
  | [d] => { results := [.lit (.bool false)], args := [d] }
  | _ => none }
def CommandChecksWrongFalsely : Prop := commandChecksRow.holds Tryd.pinned (OpenSpec.ofChange commandChecksWrong)

/-- 'frustumlaw48.CommandValidates': WHATEVER THE INPUT: true; the input reads as it did. -/
def commandValidatesSpec : ChangeSpec := { name := "commandValidates", fn := fun _ => fun
  | [d] => { results := [.lit (.bool true)], args := [d] }
  | _ => none }
def commandValidatesRow : OpenClaim := { program := "ytcompmidgfkloaadoor", sum := "f023d18312f1b6fdf686a5cf0552664baf0ce5f0b510812b260eba58e5158494", func := "frustum/frustumlaw48.CommandValidates", spec := "commandValidates", unfollowed := true, recurses := true, named := ["frustum/command.names"], apart := false, laid := [("frustum/command.names", laid_frustum_command_names)] }
def CommandValidatesSaid : Prop := commandValidatesRow.holds Tryd.pinned (OpenSpec.ofChange commandValidatesSpec)

/-- ITS FALSE NEIGHBOUR: 'it returns false'. Refute it at one input. -/
def commandValidatesWrong : ChangeSpec := { name := "commandValidates", fn := fun _ => fun
  | [d] => { results := [.lit (.bool false)], args := [d] }
  | _ => none }
def CommandValidatesWrongFalsely : Prop := commandValidatesRow.holds Tryd.pinned (OpenSpec.ofChange commandValidatesWrong)

/-- 'frustumlaw48.CommandSequence': WHATEVER THE INPUT: true; the input reads as it did. -/
def commandSequenceSpec : ChangeSpec := { name := "commandSequence", fn := fun _ => fun
  | [d1, d2] => { results := [.lit (.bool true)], args := [d1, d2] }
  | _ => none }
def commandSequenceRow : OpenClaim := { program := "ytcompmidgfkloaadoor", sum := "f023d18312f1b6fdf686a5cf0552664baf0ce5f0b510812b260eba58e5158494", func := "frustum/frustumlaw48.CommandSequence", spec := "commandSequence", unfollowed := true, recurses := true, named := ["frustum/command.names"], apart := false, laid := [("frustum/command.names", laid_frustum_command_names)] }
def CommandSequenceSaid : Prop := commandSequenceRow.holds Tryd.pinned (OpenSpec.ofChange commandSequenceSpec)

/-- ITS FALSE NEIGHBOUR: 'it returns false'. Refute it at one input. -/
def commandSequenceWrong : ChangeSpec := { name := "commandSequence", fn := fun _ => fun
  | [d1, d2] => { results := [.lit (.bool false)], args := [d1, d2] }
  | _ => none }
def CommandSequenceWrongFalsely : Prop := commandSequenceRow.holds Tryd.pinned (OpenSpec.ofChange commandSequenceWrong)

/-- 'frustumlaw48.CommandFirst': WHATEVER THE INPUT: true; the input reads as it did. -/
def commandFirstSpec : ChangeSpec := { name := "commandFirst", fn := fun _ => fun
  | [d] => { results := [.lit (.bool true)], args := [d] }
  | _ => none }
def commandFirstRow : OpenClaim := { program := "ytcompmidgfkloaadoor", sum := "f023d18312f1b6fdf686a5cf0552664baf0ce5f0b510812b260eba58e5158494", func := "frustum/frustumlaw48.CommandFirst", spec := "commandFirst", unfollowed := true, recurses := true, named := ["frustum/command.names"], apart := false, laid := [("frustum/command.names", laid_frustum_command_names)] }
def CommandFirstSaid : Prop := commandFirstRow.holds Tryd.pinned (OpenSpec.ofChange commandFirstSpec)

/-- ITS FALSE NEIGHBOUR: 'it returns false'. Refute it at one input. -/
def commandFirstWrong : ChangeSpec := { name := "commandFirst", fn := fun _ => fun
  | [d] => { results := [.lit (.bool false)], args := [d] }
  | _ => none }
def CommandFirstWrongFalsely : Prop := commandFirstRow.holds Tryd.pinned (OpenSpec.ofChange commandFirstWrong)

/-- 'frustumlaw48.CommandEquals': WHATEVER THE INPUT: true; the input reads as it did. -/
def commandEqualsSpec : ChangeSpec := { name := "commandEquals", fn := fun _ => fun
  | [d1, d2] => { results := [.lit (.bool true)], args := [d1, d2] }
  | _ => none }
def commandEqualsRow : OpenClaim := { program := "ytcompmidgfkloaadoor", sum := "f023d18312f1b6fdf686a5cf0552664baf0ce5f0b510812b260eba58e5158494", func := "frustum/frustumlaw48.CommandEquals", spec := "commandEquals", unfollowed := true, recurses := true, named := ["frustum/command.names"], apart := false, laid := [("frustum/command.names", laid_frustum_command_names)] }
def CommandEqualsSaid : Prop := commandEqualsRow.holds Tryd.pinned (OpenSpec.ofChange commandEqualsSpec)

/-- ITS FALSE NEIGHBOUR: 'it returns false'. Refute it at one input. -/
def commandEqualsWrong : ChangeSpec := { name := "commandEquals", fn := fun _ => fun
  | [d1, d2] => { results := [.lit (.bool false)], args := [d1, d2] }
  | _ => none }
def CommandEqualsWrongFalsely : Prop := commandEqualsRow.holds Tryd.pinned (OpenSpec.ofChange commandEqualsWrong)

/-- 'frustumlaw48.CommandPasses': WHATEVER THE INPUT: true; the input reads as it did. -/
def commandPassesSpec : ChangeSpec := { name := "commandPasses", fn := fun _ => fun
  | [d] => { results := [.lit (.bool true)], args := [d] }
  | _ => none }
def commandPassesRow : OpenClaim := { program := "ytcompmidgfkloaadoor", sum := "f023d18312f1b6fdf686a5cf0552664baf0ce5f0b510812b260eba58e5158494", func := "frustum/frustumlaw48.CommandPasses", spec := "commandPasses", unfollowed := true, recurses := true, named := ["frustum/command.names"], apart := false, laid := [("frustum/command.names", laid_frustum_command_names)] }
def CommandPassesSaid : Prop := commandPassesRow.holds Tryd.pinned (OpenSpec.ofChange commandPassesSpec)

/-- ITS FALSE NEIGHBOUR: 'it returns false'. Refute it at one input. -/
def commandPassesWrong : ChangeSpec := { name := "commandPasses", fn := fun _ => fun
  | [d] => { results := [.lit (.bool false)], args := [d] }
  | _ => none }
def CommandPassesWrongFalsely : Prop := commandPassesRow.holds Tryd.pinned (OpenSpec.ofChange commandPassesWrong)

/-- 'frustumlaw48.CommandPairs': WHATEVER THE INPUT: true; the input reads as it did. -/
def commandPairsSpec : ChangeSpec := { name := "commandPairs", fn := fun _ => fun
  | [d] => { results := [.lit (.bool true)], args := [d] }
  | _ => none }
def commandPairsRow : OpenClaim := { program := "ytcompmidgfkloaadoor", sum := "f023d18312f1b6fdf686a5cf0552664baf0ce5f0b510812b260eba58e5158494", func := "frustum/frustumlaw48.CommandPairs", spec := "commandPairs", unfollowed := true, recurses := true, named := ["frustum/command.names"], apart := false, laid := [("frustum/command.names", laid_frustum_command_names)] }
def CommandPairsSaid : Prop := commandPairsRow.holds Tryd.pinned (OpenSpec.ofChange commandPairsSpec)

/-- ITS FALSE NEIGHBOUR: 'it returns false'. Refute it at one input. -/
def commandPairsWrong : ChangeSpec := { name := "commandPairs", fn := fun _ => fun
  | [d] => { results := [.lit (.bool false)], args := [d] }
  | _ => none }
def CommandPairsWrongFalsely : Prop := commandPairsRow.holds Tryd.pinned (OpenSpec.ofChange commandPairsWrong)

/- THE SECOND FORM. 'bulk': how many values and letters a reading holds, each counted each time it is reached (what is shared counts as often as it is met; a slice's spare places count too). A statement '..UptoSaid' is the law's where the arguments, and the package variables that the reading takes, are together of bulk at most 1048576: NARROWER than '..Said'. Prove '..Said' where nothing that the law and all that it calls make is longer than what came in: it says more and counts as full. Else prove '..UptoSaid'. A law counts once. -/
mutual
def uptoBulk {H : Type} : DataW H → Nat
  | .lit (.string bytes) => bytes.length + 1
  | .lit _ => 1
  | .nil => 1
  | .ptr d => uptoBulk d + 1
  | .slice elems spare => uptoBulkAll elems + uptoBulkAll spare + 1
  | .agg parts => uptoBulkAll parts + 1
  | .iface _ d => uptoBulk d + 1
  | .map entries => uptoBulkEntries entries + 1
  | .held _ => 1
def uptoBulkAll {H : Type} : List (DataW H) → Nat
  | [] => 0
  | d :: r => uptoBulk d + uptoBulkAll r
def uptoBulkEntries {H : Type} : List (Lit × DataW H) → Nat
  | [] => 0
  | x :: r => uptoBulkEntry x + uptoBulkEntries r
def uptoBulkEntry {H : Type} : Lit × DataW H → Nat
  | (.string bytes, d) => bytes.length + uptoBulk d + 1
  | (_, d) => uptoBulk d + 1
 end
def uptoSmall : (H : Type) → List (DataW H) → Bool := fun _ ds => decide (uptoBulkAll ds ≤ 1048576)
def OpenSpec.upto (s : _root_.Go.ChangeSpec) : _root_.Go.OpenSpec := { _root_.Go.OpenSpec.ofChange s with cond := some uptoSmall }

/-- 'frustumlaw48.CommandChecks', WHERE WHAT IT READS IS OF BULK AT MOST 1048576: true; the input reads as it did. -/
def commandChecksUptoRow : OpenClaim := { program := "ytcompmidgfkloaadoor", sum := "f023d18312f1b6fdf686a5cf0552664baf0ce5f0b510812b260eba58e5158494", func := "frustum/frustumlaw48.CommandChecks", spec := "commandChecks", unfollowed := true, recurses := true, named := ["frustum/command.names"], apart := false, laid := [("frustum/command.names", laid_frustum_command_names)], narrowed := true }
def CommandChecksUptoSaid : Prop := commandChecksUptoRow.holds Tryd.pinned (OpenSpec.upto commandChecksSpec)

/-- 'frustumlaw48.CommandValidates', WHERE WHAT IT READS IS OF BULK AT MOST 1048576: true; the input reads as it did. -/
def commandValidatesUptoRow : OpenClaim := { program := "ytcompmidgfkloaadoor", sum := "f023d18312f1b6fdf686a5cf0552664baf0ce5f0b510812b260eba58e5158494", func := "frustum/frustumlaw48.CommandValidates", spec := "commandValidates", unfollowed := true, recurses := true, named := ["frustum/command.names"], apart := false, laid := [("frustum/command.names", laid_frustum_command_names)], narrowed := true }
def CommandValidatesUptoSaid : Prop := commandValidatesUptoRow.holds Tryd.pinned (OpenSpec.upto commandValidatesSpec)

/-- 'frustumlaw48.CommandSequence', WHERE WHAT IT READS IS OF BULK AT MOST 1048576: true; the input reads as it did. -/
def commandSequenceUptoRow : OpenClaim := { program := "ytcompmidgfkloaadoor", sum := "f023d18312f1b6fdf686a5cf0552664baf0ce5f0b510812b260eba58e5158494", func := "frustum/frustumlaw48.CommandSequence", spec := "commandSequence", unfollowed := true, recurses := true, named := ["frustum/command.names"], apart := false, laid := [("frustum/command.names", laid_frustum_command_names)], narrowed := true }
def CommandSequenceUptoSaid : Prop := commandSequenceUptoRow.holds Tryd.pinned (OpenSpec.upto commandSequenceSpec)

/-- 'frustumlaw48.CommandFirst', WHERE WHAT IT READS IS OF BULK AT MOST 1048576: true; the input reads as it did. -/
def commandFirstUptoRow : OpenClaim := { program := "ytcompmidgfkloaadoor", sum := "f023d18312f1b6fdf686a5cf0552664baf0ce5f0b510812b260eba58e5158494", func := "frustum/frustumlaw48.CommandFirst", spec := "commandFirst", unfollowed := true, recurses := true, named := ["frustum/command.names"], apart := false, laid := [("frustum/command.names", laid_frustum_command_names)], narrowed := true }
def CommandFirstUptoSaid : Prop := commandFirstUptoRow.holds Tryd.pinned (OpenSpec.upto commandFirstSpec)

/-- 'frustumlaw48.CommandEquals', WHERE WHAT IT READS IS OF BULK AT MOST 1048576: true; the input reads as it did. -/
def commandEqualsUptoRow : OpenClaim := { program := "ytcompmidgfkloaadoor", sum := "f023d18312f1b6fdf686a5cf0552664baf0ce5f0b510812b260eba58e5158494", func := "frustum/frustumlaw48.CommandEquals", spec := "commandEquals", unfollowed := true, recurses := true, named := ["frustum/command.names"], apart := false, laid := [("frustum/command.names", laid_frustum_command_names)], narrowed := true }
def CommandEqualsUptoSaid : Prop := commandEqualsUptoRow.holds Tryd.pinned (OpenSpec.upto commandEqualsSpec)

/-- 'frustumlaw48.CommandPasses', WHERE WHAT IT READS IS OF BULK AT MOST 1048576: true; the input reads as it did. -/
def commandPassesUptoRow : OpenClaim := { program := "ytcompmidgfkloaadoor", sum := "f023d18312f1b6fdf686a5cf0552664baf0ce5f0b510812b260eba58e5158494", func := "frustum/frustumlaw48.CommandPasses", spec := "commandPasses", unfollowed := true, recurses := true, named := ["frustum/command.names"], apart := false, laid := [("frustum/command.names", laid_frustum_command_names)], narrowed := true }
def CommandPassesUptoSaid : Prop := commandPassesUptoRow.holds Tryd.pinned (OpenSpec.upto commandPassesSpec)

/-- 'frustumlaw48.CommandPairs', WHERE WHAT IT READS IS OF BULK AT MOST 1048576: true; the input reads as it did. -/
def commandPairsUptoRow : OpenClaim := { program := "ytcompmidgfkloaadoor", sum := "f023d18312f1b6fdf686a5cf0552664baf0ce5f0b510812b260eba58e5158494", func := "frustum/frustumlaw48.CommandPairs", spec := "commandPairs", unfollowed := true, recurses := true, named := ["frustum/command.names"], apart := false, laid := [("frustum/command.names", laid_frustum_command_names)], narrowed := true }
def CommandPairsUptoSaid : Prop := commandPairsUptoRow.holds Tryd.pinned (OpenSpec.upto commandPairsSpec)

end Rows
end Go.Proofs.YtcompmidgfkloaaDoor
