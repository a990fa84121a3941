/-
  DERIVED. GIVEN WITH THE SEED: THE CARDS: each row of YtcompmidgfkloaaDoorRows.lean that lists a variable, with what it lists TIED to the program's text (the seventh form; the later family's looks); each row that meets fmt, with fmt's text TOLD by the authors' own Lean function (tested against real Go, not proved from fmt's source: count such statements apart). THE CARD IS WHAT COUNTS. Prove the row's statement (the work); the ties are given (YtcompmidgfkloaaDoorTie.lean); close each card by the builder's one call (the guide's Derived/Test/ToyasCard.lean, 'card_holds'). Laid BY PROGRAM, IN A SANDBOX (cutbox-door.mjs). By AI agents, Wed Nov 11 2026. No macro, syntax, notation, axiom, sorry.
-/
import Derived.Test.YtcompmidgfkloaaDoorRows
import GoSem.ClaimSeven
namespace Go.Proofs.YtcompmidgfkloaaDoor
namespace Rows

/-- THE TIED CARD OF 'frustumlaw48.CommandChecks'. -/
def commandChecksCard : Claim7 := { stood := { row := commandChecksRow, standIns := [], harness := (true, "bbee89239c3b330ffb8ee512928bb5def7ab290646f7a371c2ec93c59e6606a9"), looks := false }, kinds := [], alts := [], laidByText := true, laidKinds := [.data], laidTests := true, laidLooks := .later }
def CommandChecksCardSaid : Prop := Claim7.holds Tryd.pinned (.plain (OpenSpec.ofChange commandChecksSpec)) commandChecksCard

/-- THE TIED CARD OF 'frustumlaw48.CommandValidates'. -/
def commandValidatesCard : Claim7 := { stood := { row := commandValidatesRow, standIns := [], harness := (true, "bbee89239c3b330ffb8ee512928bb5def7ab290646f7a371c2ec93c59e6606a9"), looks := false }, kinds := [], alts := [], laidByText := true, laidKinds := [.data], laidTests := true, laidLooks := .later }
def CommandValidatesCardSaid : Prop := Claim7.holds Tryd.pinned (.plain (OpenSpec.ofChange commandValidatesSpec)) commandValidatesCard

/-- THE TIED CARD OF 'frustumlaw48.CommandSequence'. -/
def commandSequenceCard : Claim7 := { stood := { row := commandSequenceRow, standIns := [], harness := (true, "bbee89239c3b330ffb8ee512928bb5def7ab290646f7a371c2ec93c59e6606a9"), looks := false }, kinds := [], alts := [], laidByText := true, laidKinds := [.data], laidTests := true, laidLooks := .later }
def CommandSequenceCardSaid : Prop := Claim7.holds Tryd.pinned (.plain (OpenSpec.ofChange commandSequenceSpec)) commandSequenceCard

/-- THE TIED CARD OF 'frustumlaw48.CommandFirst'. -/
def commandFirstCard : Claim7 := { stood := { row := commandFirstRow, standIns := [], harness := (true, "bbee89239c3b330ffb8ee512928bb5def7ab290646f7a371c2ec93c59e6606a9"), looks := false }, kinds := [], alts := [], laidByText := true, laidKinds := [.data], laidTests := true, laidLooks := .later }
def CommandFirstCardSaid : Prop := Claim7.holds Tryd.pinned (.plain (OpenSpec.ofChange commandFirstSpec)) commandFirstCard

/-- THE TIED CARD OF 'frustumlaw48.CommandEquals'. -/
def commandEqualsCard : Claim7 := { stood := { row := commandEqualsRow, standIns := [], harness := (true, "bbee89239c3b330ffb8ee512928bb5def7ab290646f7a371c2ec93c59e6606a9"), looks := false }, kinds := [], alts := [], laidByText := true, laidKinds := [.data], laidTests := true, laidLooks := .later }
def CommandEqualsCardSaid : Prop := Claim7.holds Tryd.pinned (.plain (OpenSpec.ofChange commandEqualsSpec)) commandEqualsCard

/-- THE TIED CARD OF 'frustumlaw48.CommandPasses'. -/
def commandPassesCard : Claim7 := { stood := { row := commandPassesRow, standIns := [], harness := (true, "bbee89239c3b330ffb8ee512928bb5def7ab290646f7a371c2ec93c59e6606a9"), looks := false }, kinds := [], alts := [], laidByText := true, laidKinds := [.data], laidTests := true, laidLooks := .later }
def CommandPassesCardSaid : Prop := Claim7.holds Tryd.pinned (.plain (OpenSpec.ofChange commandPassesSpec)) commandPassesCard

/-- THE TIED CARD OF 'frustumlaw48.CommandPairs'. -/
def commandPairsCard : Claim7 := { stood := { row := commandPairsRow, standIns := [], harness := (true, "bbee89239c3b330ffb8ee512928bb5def7ab290646f7a371c2ec93c59e6606a9"), looks := false }, kinds := [], alts := [], laidByText := true, laidKinds := [.data], laidTests := true, laidLooks := .later }
def CommandPairsCardSaid : Prop := Claim7.holds Tryd.pinned (.plain (OpenSpec.ofChange commandPairsSpec)) commandPairsCard

/-- THE SECOND FORM's CARD OF 'frustumlaw48.CommandChecks'. -/
def commandChecksUptoCard : Claim7 := { stood := { row := commandChecksUptoRow, standIns := [], harness := (true, "bbee89239c3b330ffb8ee512928bb5def7ab290646f7a371c2ec93c59e6606a9"), looks := false }, kinds := [], alts := [], laidByText := true, laidKinds := [.data], laidTests := true, laidLooks := .later }
def CommandChecksUptoCardSaid : Prop := Claim7.holds Tryd.pinned (.plain (OpenSpec.upto commandChecksSpec)) commandChecksUptoCard

/-- THE SECOND FORM's CARD OF 'frustumlaw48.CommandValidates'. -/
def commandValidatesUptoCard : Claim7 := { stood := { row := commandValidatesUptoRow, standIns := [], harness := (true, "bbee89239c3b330ffb8ee512928bb5def7ab290646f7a371c2ec93c59e6606a9"), looks := false }, kinds := [], alts := [], laidByText := true, laidKinds := [.data], laidTests := true, laidLooks := .later }
def CommandValidatesUptoCardSaid : Prop := Claim7.holds Tryd.pinned (.plain (OpenSpec.upto commandValidatesSpec)) commandValidatesUptoCard

/-- THE SECOND FORM's CARD OF 'frustumlaw48.CommandSequence'. -/
def commandSequenceUptoCard : Claim7 := { stood := { row := commandSequenceUptoRow, standIns := [], harness := (true, "bbee89239c3b330ffb8ee512928bb5def7ab290646f7a371c2ec93c59e6606a9"), looks := false }, kinds := [], alts := [], laidByText := true, laidKinds := [.data], laidTests := true, laidLooks := .later }
def CommandSequenceUptoCardSaid : Prop := Claim7.holds Tryd.pinned (.plain (OpenSpec.upto commandSequenceSpec)) commandSequenceUptoCard

/-- THE SECOND FORM's CARD OF 'frustumlaw48.CommandFirst'. -/
def commandFirstUptoCard : Claim7 := { stood := { row := commandFirstUptoRow, standIns := [], harness := (true, "bbee89239c3b330ffb8ee512928bb5def7ab290646f7a371c2ec93c59e6606a9"), looks := false }, kinds := [], alts := [], laidByText := true, laidKinds := [.data], laidTests := true, laidLooks := .later }
def CommandFirstUptoCardSaid : Prop := Claim7.holds Tryd.pinned (.plain (OpenSpec.upto commandFirstSpec)) commandFirstUptoCard

/-- THE SECOND FORM's CARD OF 'frustumlaw48.CommandEquals'. -/
def commandEqualsUptoCard : Claim7 := { stood := { row := commandEqualsUptoRow, standIns := [], harness := (true, "bbee89239c3b330ffb8ee512928bb5def7ab290646f7a371c2ec93c59e6606a9"), looks := false }, kinds := [], alts := [], laidByText := true, laidKinds := [.data], laidTests := true, laidLooks := .later }
def CommandEqualsUptoCardSaid : Prop := Claim7.holds Tryd.pinned (.plain (OpenSpec.upto commandEqualsSpec)) commandEqualsUptoCard

/-- THE SECOND FORM's CARD OF 'frustumlaw48.CommandPasses'. -/
def commandPassesUptoCard : Claim7 := { stood := { row := commandPassesUptoRow, standIns := [], harness := (true, "bbee89239c3b330ffb8ee512928bb5def7ab290646f7a371c2ec93c59e6606a9"), looks := false }, kinds := [], alts := [], laidByText := true, laidKinds := [.data], laidTests := true, laidLooks := .later }
def CommandPassesUptoCardSaid : Prop := Claim7.holds Tryd.pinned (.plain (OpenSpec.upto commandPassesSpec)) commandPassesUptoCard

/-- THE SECOND FORM's CARD OF 'frustumlaw48.CommandPairs'. -/
def commandPairsUptoCard : Claim7 := { stood := { row := commandPairsUptoRow, standIns := [], harness := (true, "bbee89239c3b330ffb8ee512928bb5def7ab290646f7a371c2ec93c59e6606a9"), looks := false }, kinds := [], alts := [], laidByText := true, laidKinds := [.data], laidTests := true, laidLooks := .later }
def CommandPairsUptoCardSaid : Prop := Claim7.holds Tryd.pinned (.plain (OpenSpec.upto commandPairsSpec)) commandPairsUptoCard
end Rows
end Go.Proofs.YtcompmidgfkloaaDoor
