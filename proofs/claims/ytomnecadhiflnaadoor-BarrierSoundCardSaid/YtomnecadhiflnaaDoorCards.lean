/-
  DERIVED. GIVEN WITH THE SEED: THE CARDS: each row of YtomnecadhiflnaaDoorRows.lean that lists a variable, with what it lists TIED to the program's text (the seventh form; the later family's looks); each row that meets fmt, with fmt's text TOLD by the authors' own Lean function (tested against real Go, not proved from fmt's source: count such statements apart). THE CARD IS WHAT COUNTS. Prove the row's statement (the work); the ties are given (YtomnecadhiflnaaDoorTie.lean); close each card by the builder's one call (the guide's Derived/Test/ToyasCard.lean, 'card_holds'). Laid BY PROGRAM, IN A SANDBOX (cutbox-door.mjs). By AI agents, Wed Nov 11 2026. No macro, syntax, notation, axiom, sorry.
-/
import Derived.Test.YtomnecadhiflnaaDoorRows
import GoSem.ClaimSeven
namespace Go.Proofs.YtomnecadhiflnaaDoor
namespace Rows

/-- THE TIED CARD OF 'frustumlaw49.BarrierApply'. -/
def barrierApplyCard : Claim7 := { stood := { row := barrierApplyRow, standIns := [], harness := (true, "3ec4babb786ca5299d9f57c1eaaaa40915c9d5120c74f7a4e1a5ae25ed0a1de1"), looks := false }, kinds := [], alts := [], laidByText := true, laidKinds := [.data], laidTests := true, laidLooks := .later }
def BarrierApplyCardSaid : Prop := Claim7.holds Tryd.pinned (.plain (OpenSpec.ofChange barrierApplySpec)) barrierApplyCard

/-- THE TIED CARD OF 'frustumlaw49.BarrierRequires'. -/
def barrierRequiresCard : Claim7 := { stood := { row := barrierRequiresRow, standIns := [], harness := (true, "3ec4babb786ca5299d9f57c1eaaaa40915c9d5120c74f7a4e1a5ae25ed0a1de1"), looks := false }, kinds := [], alts := [], laidByText := true, laidKinds := [.data], laidTests := true, laidLooks := .later }
def BarrierRequiresCardSaid : Prop := Claim7.holds Tryd.pinned (.plain (OpenSpec.ofChange barrierRequiresSpec)) barrierRequiresCard

/-- THE TIED CARD OF 'frustumlaw49.BarrierMissing'. -/
def barrierMissingCard : Claim7 := { stood := { row := barrierMissingRow, standIns := [], harness := (true, "3ec4babb786ca5299d9f57c1eaaaa40915c9d5120c74f7a4e1a5ae25ed0a1de1"), looks := false }, kinds := [], alts := [], laidByText := true, laidKinds := [.data], laidTests := true, laidLooks := .later }
def BarrierMissingCardSaid : Prop := Claim7.holds Tryd.pinned (.plain (OpenSpec.ofChange barrierMissingSpec)) barrierMissingCard

/-- THE TIED CARD OF 'frustumlaw49.BarrierStates'. -/
def barrierStatesCard : Claim7 := { stood := { row := barrierStatesRow, standIns := [], harness := (true, "3ec4babb786ca5299d9f57c1eaaaa40915c9d5120c74f7a4e1a5ae25ed0a1de1"), looks := false }, kinds := [], alts := [], laidByText := true, laidKinds := [.data], laidTests := true, laidLooks := .later }
def BarrierStatesCardSaid : Prop := Claim7.holds Tryd.pinned (.plain (OpenSpec.ofChange barrierStatesSpec)) barrierStatesCard

/-- THE TIED CARD OF 'frustumlaw49.BarrierStep'. -/
def barrierStepCard : Claim7 := { stood := { row := barrierStepRow, standIns := [], harness := (true, "3ec4babb786ca5299d9f57c1eaaaa40915c9d5120c74f7a4e1a5ae25ed0a1de1"), looks := false }, kinds := [], alts := [], laidByText := true, laidKinds := [.data], laidTests := true, laidLooks := .later }
def BarrierStepCardSaid : Prop := Claim7.holds Tryd.pinned (.plain (OpenSpec.ofChange barrierStepSpec)) barrierStepCard

/-- THE TIED CARD OF 'frustumlaw49.BarrierSound'. -/
def barrierSoundCard : Claim7 := { stood := { row := barrierSoundRow, standIns := [], harness := (true, "3ec4babb786ca5299d9f57c1eaaaa40915c9d5120c74f7a4e1a5ae25ed0a1de1"), looks := false }, kinds := [], alts := [], laidByText := true, laidKinds := [.data], laidTests := true, laidLooks := .later }
def BarrierSoundCardSaid : Prop := Claim7.holds Tryd.pinned (.plain (OpenSpec.ofChange barrierSoundSpec)) barrierSoundCard

/-- THE SECOND FORM's CARD OF 'frustumlaw49.BarrierApply'. -/
def barrierApplyUptoCard : Claim7 := { stood := { row := barrierApplyUptoRow, standIns := [], harness := (true, "3ec4babb786ca5299d9f57c1eaaaa40915c9d5120c74f7a4e1a5ae25ed0a1de1"), looks := false }, kinds := [], alts := [], laidByText := true, laidKinds := [.data], laidTests := true, laidLooks := .later }
def BarrierApplyUptoCardSaid : Prop := Claim7.holds Tryd.pinned (.plain (OpenSpec.upto barrierApplySpec)) barrierApplyUptoCard

/-- THE SECOND FORM's CARD OF 'frustumlaw49.BarrierRequires'. -/
def barrierRequiresUptoCard : Claim7 := { stood := { row := barrierRequiresUptoRow, standIns := [], harness := (true, "3ec4babb786ca5299d9f57c1eaaaa40915c9d5120c74f7a4e1a5ae25ed0a1de1"), looks := false }, kinds := [], alts := [], laidByText := true, laidKinds := [.data], laidTests := true, laidLooks := .later }
def BarrierRequiresUptoCardSaid : Prop := Claim7.holds Tryd.pinned (.plain (OpenSpec.upto barrierRequiresSpec)) barrierRequiresUptoCard

/-- THE SECOND FORM's CARD OF 'frustumlaw49.BarrierMissing'. -/
def barrierMissingUptoCard : Claim7 := { stood := { row := barrierMissingUptoRow, standIns := [], harness := (true, "3ec4babb786ca5299d9f57c1eaaaa40915c9d5120c74f7a4e1a5ae25ed0a1de1"), looks := false }, kinds := [], alts := [], laidByText := true, laidKinds := [.data], laidTests := true, laidLooks := .later }
def BarrierMissingUptoCardSaid : Prop := Claim7.holds Tryd.pinned (.plain (OpenSpec.upto barrierMissingSpec)) barrierMissingUptoCard

/-- THE SECOND FORM's CARD OF 'frustumlaw49.BarrierStates'. -/
def barrierStatesUptoCard : Claim7 := { stood := { row := barrierStatesUptoRow, standIns := [], harness := (true, "3ec4babb786ca5299d9f57c1eaaaa40915c9d5120c74f7a4e1a5ae25ed0a1de1"), looks := false }, kinds := [], alts := [], laidByText := true, laidKinds := [.data], laidTests := true, laidLooks := .later }
def BarrierStatesUptoCardSaid : Prop := Claim7.holds Tryd.pinned (.plain (OpenSpec.upto barrierStatesSpec)) barrierStatesUptoCard

/-- THE SECOND FORM's CARD OF 'frustumlaw49.BarrierStep'. -/
def barrierStepUptoCard : Claim7 := { stood := { row := barrierStepUptoRow, standIns := [], harness := (true, "3ec4babb786ca5299d9f57c1eaaaa40915c9d5120c74f7a4e1a5ae25ed0a1de1"), looks := false }, kinds := [], alts := [], laidByText := true, laidKinds := [.data], laidTests := true, laidLooks := .later }
def BarrierStepUptoCardSaid : Prop := Claim7.holds Tryd.pinned (.plain (OpenSpec.upto barrierStepSpec)) barrierStepUptoCard

/-- THE SECOND FORM's CARD OF 'frustumlaw49.BarrierSound'. -/
def barrierSoundUptoCard : Claim7 := { stood := { row := barrierSoundUptoRow, standIns := [], harness := (true, "3ec4babb786ca5299d9f57c1eaaaa40915c9d5120c74f7a4e1a5ae25ed0a1de1"), looks := false }, kinds := [], alts := [], laidByText := true, laidKinds := [.data], laidTests := true, laidLooks := .later }
def BarrierSoundUptoCardSaid : Prop := Claim7.holds Tryd.pinned (.plain (OpenSpec.upto barrierSoundSpec)) barrierSoundUptoCard
end Rows
end Go.Proofs.YtomnecadhiflnaaDoor
