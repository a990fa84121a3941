/-
  NARROWER THAN 'FOR EVERY INPUT', by the rows' own cells (each row's printed sentence says how): BarrierApply: laid · BarrierRequires: laid · BarrierMissing: laid · BarrierStates: laid · BarrierStep: laid · BarrierSound: laid.
  DERIVED. THE GIVEN ROWS OF THIS SEAT. 6 by the template 'for every input the law returns true; each argument reads behind the call as it read before'; 0 by the template 'total and deterministic' (their statements: YtomnecadhiflnaaDoorTotals.lean).
  GIVEN WITH THE SEED: the statements are not yours to turn. If you find one false, say at which input.
  Laid BY PROGRAM, IN A SANDBOX (cutbox-rows.mjs): the forced cells as the released guide's own fill.sh prints them over the translation cf06ac186ccefe3d… (all of the seat's roots in one cut). By AI agents, Wed Nov 11 2026. No macro, syntax, notation, axiom, sorry.
-/
import Derived.Test.YtomnecadhiflnaaDoorChecked
import GoSem.Claim
import GoSem.ClaimJoined
import GoSem.ClaimMapViews
import Derived.JoinedTies
import Derived.KernelRfl
namespace Go.Proofs.YtomnecadhiflnaaDoor
/- THE CELL 'sum', in the pinned program and in every row, IS THE sha256 OF THE DUMP (.gsa) THAT YtomnecadhiflnaaDoorProg.lean LOADS. Nothing in Lean hashes anything: it is a label: what it is worth is what the hold of that sum in a sandbox is worth. -/
noncomputable def Tryd.pinned : Pinned := { name := "ytomnecadhiflnaadoor", sum := "cf06ac186ccefe3d57303053bdfab3d7b42c114841f88e904d3971d1dfb13dd2", checked := Tryd.checked }
namespace Rows
def none {H : Type} : Left H := { results := [], args := [] }

/- WHAT THE LISTED PACKAGE-LEVEL VARIABLES READ AS WHEN THE CALL BEGINS. Each datum BY PROGRAM (the guide's laid-datum.mjs) off the statement by which the dump's own 'gosem.cut.vars' lays the variable. In a bare row this is a premise. The card (YtomnecadhiflnaaDoorCards.lean) ties it to the program's text. -/
def laid_frustum_command_names {H : Type} : DataW H := .slice [.lit (.string [98, 105, 110, 100, 45, 112, 105, 112, 101, 108, 105, 110, 101]), .lit (.string [98, 105, 110, 100, 45, 118, 101, 114, 116, 101, 120]), .lit (.string [98, 105, 110, 100, 45, 105, 110, 100, 101, 120]), .lit (.string [98, 105, 110, 100, 45, 116, 101, 120, 116, 117, 114, 101]), .lit (.string [98, 105, 110, 100, 45, 98, 117, 102, 102, 101, 114]), .lit (.string [115, 101, 116, 45, 117, 110, 105, 102, 111, 114, 109, 115]), .lit (.string [98, 101, 103, 105, 110, 45, 112, 97, 115, 115]), .lit (.string [101, 110, 100, 45, 112, 97, 115, 115]), .lit (.string [100, 114, 97, 119]), .lit (.string [98, 97, 114, 114, 105, 101, 114]), .lit (.string [98, 101, 103, 105, 110, 45, 113, 117, 101, 114, 121]), .lit (.string [101, 110, 100, 45, 113, 117, 101, 114, 121]), .lit (.string [99, 111, 112, 121, 45, 116, 111, 45, 105, 109, 97, 103, 101]), .lit (.string [114, 101, 115, 111, 108, 118, 101])] []

/-- 'frustumlaw49.BarrierApply': WHATEVER THE INPUT: true; the input reads as it did. -/
def barrierApplySpec : ChangeSpec := { name := "barrierApply", fn := fun _ => fun
  | [d1, d2] => { results := [.lit (.bool true)], args := [d1, d2] }
  | _ => none }
def barrierApplyRow : OpenClaim := { program := "ytomnecadhiflnaadoor", sum := "cf06ac186ccefe3d57303053bdfab3d7b42c114841f88e904d3971d1dfb13dd2", func := "frustum/frustumlaw49.BarrierApply", spec := "barrierApply", unfollowed := true, recurses := true, named := ["frustum/command.names"], apart := false, laid := [("frustum/command.names", laid_frustum_command_names)] }
def BarrierApplySaid : Prop := barrierApplyRow.holds Tryd.pinned (OpenSpec.ofChange barrierApplySpec)

/-- ITS FALSE NEIGHBOUR: 'it returns false'. Refute it at one input. -/
def barrierApplyWrong : ChangeSpec := { name := "barrierApply", fn := fun _ => fun
  | [d1, d2] => { results := [.lit (.bool false)], args := [d1, d2] }
  | _ => none }
def BarrierApplyWrongFalsely : Prop := barrierApplyRow.holds Tryd.pinned (OpenSpec.ofChange barrierApplyWrong)

/-- 'frustumlaw49.BarrierRequires': WHATEVER THE INPUT: true; the input reads as it did. -/
def barrierRequiresSpec : ChangeSpec := { name := "barrierRequires", fn := fun _ => fun
  | [d1, d2, d3] => { results := [.lit (.bool true)], args := [d1, d2, d3] }
  | _ => none }
def barrierRequiresRow : OpenClaim := { program := "ytomnecadhiflnaadoor", sum := "cf06ac186ccefe3d57303053bdfab3d7b42c114841f88e904d3971d1dfb13dd2", func := "frustum/frustumlaw49.BarrierRequires", spec := "barrierRequires", unfollowed := true, recurses := true, named := ["frustum/command.names"], apart := false, laid := [("frustum/command.names", laid_frustum_command_names)] }
def BarrierRequiresSaid : Prop := barrierRequiresRow.holds Tryd.pinned (OpenSpec.ofChange barrierRequiresSpec)

/-- ITS FALSE NEIGHBOUR: 'it returns false'. Refute it at one input. -/
def barrierRequiresWrong : ChangeSpec := { name := "barrierRequires", fn := fun _ => fun
  | [d1, d2, d3] => { results := [.lit (.bool false)], args := [d1, d2, d3] }
  | _ => none }
def BarrierRequiresWrongFalsely : Prop := barrierRequiresRow.holds Tryd.pinned (OpenSpec.ofChange barrierRequiresWrong)

/-- 'frustumlaw49.BarrierMissing': WHATEVER THE INPUT: true; the input reads as it did. -/
def barrierMissingSpec : ChangeSpec := { name := "barrierMissing", fn := fun _ => fun
  | [d1, d2] => { results := [.lit (.bool true)], args := [d1, d2] }
  | _ => none }
def barrierMissingRow : OpenClaim := { program := "ytomnecadhiflnaadoor", sum := "cf06ac186ccefe3d57303053bdfab3d7b42c114841f88e904d3971d1dfb13dd2", func := "frustum/frustumlaw49.BarrierMissing", spec := "barrierMissing", unfollowed := true, recurses := true, named := ["frustum/command.names"], apart := false, laid := [("frustum/command.names", laid_frustum_command_names)] }
def BarrierMissingSaid : Prop := barrierMissingRow.holds Tryd.pinned (OpenSpec.ofChange barrierMissingSpec)

/-- ITS FALSE NEIGHBOUR: 'it returns false'. Refute it at one input. -/
def barrierMissingWrong : ChangeSpec := { name := "barrierMissing", fn := fun _ => fun
  | [d1, d2] => { results := [.lit (.bool false)], args := [d1, d2] }
  | _ => none }
def BarrierMissingWrongFalsely : Prop := barrierMissingRow.holds Tryd.pinned (OpenSpec.ofChange barrierMissingWrong)

/-- 'frustumlaw49.BarrierStates': WHATEVER THE INPUT: true; the input reads as it did. -/
def barrierStatesSpec : ChangeSpec := { name := "barrierStates", fn := fun _ => fun
  | [d1, d2] => { results := [.lit (.bool true)], args := [d1, d2] }
  | _ => none }
def barrierStatesRow : OpenClaim := { program := "ytomnecadhiflnaadoor", sum := "cf06ac186ccefe3d57303053bdfab3d7b42c114841f88e904d3971d1dfb13dd2", func := "frustum/frustumlaw49.BarrierStates", spec := "barrierStates", unfollowed := true, recurses := true, named := ["frustum/command.names"], apart := false, laid := [("frustum/command.names", laid_frustum_command_names)] }
def BarrierStatesSaid : Prop := barrierStatesRow.holds Tryd.pinned (OpenSpec.ofChange barrierStatesSpec)

/-- ITS FALSE NEIGHBOUR: 'it returns false'. Refute it at one input. -/
def barrierStatesWrong : ChangeSpec := { name := "barrierStates", fn := fun _ => fun
  | [d1, d2] => { results := [.lit (.bool false)], args := [d1, d2] }
  | _ => none }
def BarrierStatesWrongFalsely : Prop := barrierStatesRow.holds Tryd.pinned (OpenSpec.ofChange barrierStatesWrong)

/-- 'frustumlaw49.BarrierStep': WHATEVER THE INPUT: true; the input reads as it did. -/
def barrierStepSpec : ChangeSpec := { name := "barrierStep", fn := fun _ => fun
  | [d1, d2] => { results := [.lit (.bool true)], args := [d1, d2] }
  | _ => none }
def barrierStepRow : OpenClaim := { program := "ytomnecadhiflnaadoor", sum := "cf06ac186ccefe3d57303053bdfab3d7b42c114841f88e904d3971d1dfb13dd2", func := "frustum/frustumlaw49.BarrierStep", spec := "barrierStep", unfollowed := true, recurses := true, named := ["frustum/command.names"], apart := false, laid := [("frustum/command.names", laid_frustum_command_names)] }
def BarrierStepSaid : Prop := barrierStepRow.holds Tryd.pinned (OpenSpec.ofChange barrierStepSpec)

/-- ITS FALSE NEIGHBOUR: 'it returns false'. Refute it at one input. -/
def barrierStepWrong : ChangeSpec := { name := "barrierStep", fn := fun _ => fun
  | [d1, d2] => { results := [.lit (.bool false)], args := [d1, d2] }
  | _ => none }
def BarrierStepWrongFalsely : Prop := barrierStepRow.holds Tryd.pinned (OpenSpec.ofChange barrierStepWrong)

/-- 'frustumlaw49.BarrierSound': WHATEVER THE INPUT: true; the input reads as it did. -/
def barrierSoundSpec : ChangeSpec := { name := "barrierSound", fn := fun _ => fun
  | [d1, d2] => { results := [.lit (.bool true)], args := [d1, d2] }
  | _ => none }
def barrierSoundRow : OpenClaim := { program := "ytomnecadhiflnaadoor", sum := "cf06ac186ccefe3d57303053bdfab3d7b42c114841f88e904d3971d1dfb13dd2", func := "frustum/frustumlaw49.BarrierSound", spec := "barrierSound", unfollowed := true, recurses := true, named := ["frustum/command.names"], apart := false, laid := [("frustum/command.names", laid_frustum_command_names)] }
def BarrierSoundSaid : Prop := barrierSoundRow.holds Tryd.pinned (OpenSpec.ofChange barrierSoundSpec)

/-- ITS FALSE NEIGHBOUR: 'it returns false'. Refute it at one input. -/
def barrierSoundWrong : ChangeSpec := { name := "barrierSound", fn := fun _ => fun
  | [d1, d2] => { results := [.lit (.bool false)], args := [d1, d2] }
  | _ => none }
def BarrierSoundWrongFalsely : Prop := barrierSoundRow.holds Tryd.pinned (OpenSpec.ofChange barrierSoundWrong)

/- THE SECOND FORM. 'bulk': how many values and letters a reading holds, each counted each time it is reached (what is shared counts as often as it is met; a slice's spare places count too). A statement '..UptoSaid' is the law's where the arguments, and the package variables that the reading takes, are together of bulk at most 1048576: NARROWER than '..Said'. Prove '..Said' where nothing that the law and all that it calls make is longer than what came in: it says more and counts as full. Else prove '..UptoSaid'. A law counts once. -/
mutual
def uptoBulk {H : Type} : DataW H → Nat
  | .lit (.string bytes) => bytes.length + 1
  | .lit _ => 1
  | .nil => 1
  | .ptr d => uptoBulk d + 1
  | .slice elems spare => uptoBulkAll elems + uptoBulkAll spare + 1
  | .agg parts => uptoBulkAll parts + 1
  | .iface _ d => uptoBulk d + 1
  | .map entries => uptoBulkEntries entries + 1
  | .held _ => 1
def uptoBulkAll {H : Type} : List (DataW H) → Nat
  | [] => 0
  | d :: r => uptoBulk d + uptoBulkAll r
def uptoBulkEntries {H : Type} : List (Lit × DataW H) → Nat
  | [] => 0
  | x :: r => uptoBulkEntry x + uptoBulkEntries r
def uptoBulkEntry {H : Type} : Lit × DataW H → Nat
  | (.string bytes, d) => bytes.length + uptoBulk d + 1
  | (_, d) => uptoBulk d + 1
 end
def uptoSmall : (H : Type) → List (DataW H) → Bool := fun _ ds => decide (uptoBulkAll ds ≤ 1048576)
def OpenSpec.upto (s : _root_.Go.ChangeSpec) : _root_.Go.OpenSpec := { _root_.Go.OpenSpec.ofChange s with cond := some uptoSmall }

/-- 'frustumlaw49.BarrierApply', WHERE WHAT IT READS IS OF BULK AT MOST 1048576: true; the input reads as it did. -/
def barrierApplyUptoRow : OpenClaim := { program := "ytomnecadhiflnaadoor", sum := "cf06ac186ccefe3d57303053bdfab3d7b42c114841f88e904d3971d1dfb13dd2", func := "frustum/frustumlaw49.BarrierApply", spec := "barrierApply", unfollowed := true, recurses := true, named := ["frustum/command.names"], apart := false, laid := [("frustum/command.names", laid_frustum_command_names)], narrowed := true }
def BarrierApplyUptoSaid : Prop := barrierApplyUptoRow.holds Tryd.pinned (OpenSpec.upto barrierApplySpec)

/-- 'frustumlaw49.BarrierRequires', WHERE WHAT IT READS IS OF BULK AT MOST 1048576: true; the input reads as it did. -/
def barrierRequiresUptoRow : OpenClaim := { program := "ytomnecadhiflnaadoor", sum := "cf06ac186ccefe3d57303053bdfab3d7b42c114841f88e904d3971d1dfb13dd2", func := "frustum/frustumlaw49.BarrierRequires", spec := "barrierRequires", unfollowed := true, recurses := true, named := ["frustum/command.names"], apart := false, laid := [("frustum/command.names", laid_frustum_command_names)], narrowed := true }
def BarrierRequiresUptoSaid : Prop := barrierRequiresUptoRow.holds Tryd.pinned (OpenSpec.upto barrierRequiresSpec)

/-- 'frustumlaw49.BarrierMissing', WHERE WHAT IT READS IS OF BULK AT MOST 1048576: true; the input reads as it did. -/
def barrierMissingUptoRow : OpenClaim := { program := "ytomnecadhiflnaadoor", sum := "cf06ac186ccefe3d57303053bdfab3d7b42c114841f88e904d3971d1dfb13dd2", func := "frustum/frustumlaw49.BarrierMissing", spec := "barrierMissing", unfollowed := true, recurses := true, named := ["frustum/command.names"], apart := false, laid := [("frustum/command.names", laid_frustum_command_names)], narrowed := true }
def BarrierMissingUptoSaid : Prop := barrierMissingUptoRow.holds Tryd.pinned (OpenSpec.upto barrierMissingSpec)

/-- 'frustumlaw49.BarrierStates', WHERE WHAT IT READS IS OF BULK AT MOST 1048576: true; the input reads as it did. -/
def barrierStatesUptoRow : OpenClaim := { program := "ytomnecadhiflnaadoor", sum := "cf06ac186ccefe3d57303053bdfab3d7b42c114841f88e904d3971d1dfb13dd2", func := "frustum/frustumlaw49.BarrierStates", spec := "barrierStates", unfollowed := true, recurses := true, named := ["frustum/command.names"], apart := false, laid := [("frustum/command.names", laid_frustum_command_names)], narrowed := true }
def BarrierStatesUptoSaid : Prop := barrierStatesUptoRow.holds Tryd.pinned (OpenSpec.upto barrierStatesSpec)

/-- 'frustumlaw49.BarrierStep', WHERE WHAT IT READS IS OF BULK AT MOST 1048576: true; the input reads as it did. -/
def barrierStepUptoRow : OpenClaim := { program := "ytomnecadhiflnaadoor", sum := "cf06ac186ccefe3d57303053bdfab3d7b42c114841f88e904d3971d1dfb13dd2", func := "frustum/frustumlaw49.BarrierStep", spec := "barrierStep", unfollowed := true, recurses := true, named := ["frustum/command.names"], apart := false, laid := [("frustum/command.names", laid_frustum_command_names)], narrowed := true }
def BarrierStepUptoSaid : Prop := barrierStepUptoRow.holds Tryd.pinned (OpenSpec.upto barrierStepSpec)

/-- 'frustumlaw49.BarrierSound', WHERE WHAT IT READS IS OF BULK AT MOST 1048576: true; the input reads as it did. -/
def barrierSoundUptoRow : OpenClaim := { program := "ytomnecadhiflnaadoor", sum := "cf06ac186ccefe3d57303053bdfab3d7b42c114841f88e904d3971d1dfb13dd2", func := "frustum/frustumlaw49.BarrierSound", spec := "barrierSound", unfollowed := true, recurses := true, named := ["frustum/command.names"], apart := false, laid := [("frustum/command.names", laid_frustum_command_names)], narrowed := true }
def BarrierSoundUptoSaid : Prop := barrierSoundUptoRow.holds Tryd.pinned (OpenSpec.upto barrierSoundSpec)

end Rows
end Go.Proofs.YtomnecadhiflnaaDoor
