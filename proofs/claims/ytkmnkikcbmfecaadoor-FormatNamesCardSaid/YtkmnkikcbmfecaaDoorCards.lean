/-
  DERIVED. GIVEN WITH THE SEED: THE CARDS: each row of YtkmnkikcbmfecaaDoorRows.lean that lists a variable, with what it lists TIED to the program's text (the seventh form; the later family's looks); each row that meets fmt, with fmt's text TOLD by the authors' own Lean function (tested against real Go, not proved from fmt's source: count such statements apart). THE CARD IS WHAT COUNTS. Prove the row's statement (the work); the ties are given (YtkmnkikcbmfecaaDoorTie.lean); close each card by the builder's one call (the guide's Derived/Test/ToyasCard.lean, 'card_holds'). Laid BY PROGRAM, IN A SANDBOX (cutbox-door.mjs). By AI agents, Wed Nov 11 2026. No macro, syntax, notation, axiom, sorry.
-/
import Derived.Test.YtkmnkikcbmfecaaDoorRows
import GoSem.ClaimSeven
namespace Go.Proofs.YtkmnkikcbmfecaaDoor
namespace Rows

/-- THE TIED CARD OF 'frustumlaw06.FormatFixedPoint'. -/
def formatFixedPointCard : Claim7 := { stood := { row := formatFixedPointRow, standIns := [], harness := (true, "29dfd0e6fc8bd8d941691299c3f977f0918f0a04d8a620c245d635d0f9eae84f"), looks := false }, kinds := [], alts := [], laidByText := true, laidKinds := [.data, .data, .data], laidTests := true, laidLooks := .later }
def FormatFixedPointCardSaid : Prop := Claim7.holds Tryd.pinned (.plain (OpenSpec.ofChange formatFixedPointSpec)) formatFixedPointCard

/-- THE TIED CARD OF 'frustumlaw06.FormatShortest'. -/
def formatShortestCard : Claim7 := { stood := { row := formatShortestRow, standIns := [], harness := (true, "29dfd0e6fc8bd8d941691299c3f977f0918f0a04d8a620c245d635d0f9eae84f"), looks := false }, kinds := [], alts := [], laidByText := true, laidKinds := [.data, .data, .data], laidTests := true, laidLooks := .later }
def FormatShortestCardSaid : Prop := Claim7.holds Tryd.pinned (.plain (OpenSpec.ofChange formatShortestSpec)) formatShortestCard

/-- THE TIED CARD OF 'frustumlaw06.FormatInts'. -/
def formatIntsCard : Claim7 := { stood := { row := formatIntsRow, standIns := [], harness := (true, "29dfd0e6fc8bd8d941691299c3f977f0918f0a04d8a620c245d635d0f9eae84f"), looks := false }, kinds := [], alts := [], laidByText := true, laidKinds := [.data, .data, .data], laidTests := true, laidLooks := .later }
def FormatIntsCardSaid : Prop := Claim7.holds Tryd.pinned (.plain (OpenSpec.ofChange formatIntsSpec)) formatIntsCard

/-- THE TIED CARD OF 'frustumlaw06.FormatNames'. -/
def formatNamesCard : Claim7 := { stood := { row := formatNamesRow, standIns := [], harness := (true, "29dfd0e6fc8bd8d941691299c3f977f0918f0a04d8a620c245d635d0f9eae84f"), looks := false }, kinds := [], alts := [], laidByText := true, laidKinds := [.data, .data, .data], laidTests := true, laidLooks := .later }
def FormatNamesCardSaid : Prop := Claim7.holds Tryd.pinned (.plain (OpenSpec.ofChange formatNamesSpec)) formatNamesCard

/-- THE TIED CARD OF 'frustumlaw06.FormatLines'. -/
def formatLinesCard : Claim7 := { stood := { row := formatLinesRow, standIns := [], harness := (true, "29dfd0e6fc8bd8d941691299c3f977f0918f0a04d8a620c245d635d0f9eae84f"), looks := false }, kinds := [], alts := [], laidByText := true, laidKinds := [.data, .data, .data, .data, .pinned], laidTests := true, laidLooks := .later }
def FormatLinesCardSaid : Prop := Claim7.holds Tryd.pinned (.plain (OpenSpec.ofChange formatLinesSpec)) formatLinesCard

/-- THE TIED CARD OF 'frustumlaw06.FormatFields'. -/
def formatFieldsCard : Claim7 := { stood := { row := formatFieldsRow, standIns := [], harness := (true, "29dfd0e6fc8bd8d941691299c3f977f0918f0a04d8a620c245d635d0f9eae84f"), looks := false }, kinds := [], alts := [], laidByText := true, laidKinds := [.data, .data, .data, .data, .pinned], laidTests := true, laidLooks := .later }
def FormatFieldsCardSaid : Prop := Claim7.holds Tryd.pinned (.plain (OpenSpec.ofChange formatFieldsSpec)) formatFieldsCard

/-- THE TIED CARD OF 'frustumlaw06.FormatRoundTrip'. -/
def formatRoundTripCard : Claim7 := { stood := { row := formatRoundTripRow, standIns := [], harness := (true, "29dfd0e6fc8bd8d941691299c3f977f0918f0a04d8a620c245d635d0f9eae84f"), looks := false }, kinds := [], alts := [], laidByText := true, laidKinds := [.data, .data, .data, .data, .pinned], laidTests := true, laidLooks := .later }
def FormatRoundTripCardSaid : Prop := Claim7.holds Tryd.pinned (.plain (OpenSpec.ofChange formatRoundTripSpec)) formatRoundTripCard

/-- THE SECOND FORM's CARD OF 'frustumlaw06.FormatFixedPoint'. -/
def formatFixedPointUptoCard : Claim7 := { stood := { row := formatFixedPointUptoRow, standIns := [], harness := (true, "29dfd0e6fc8bd8d941691299c3f977f0918f0a04d8a620c245d635d0f9eae84f"), looks := false }, kinds := [], alts := [], laidByText := true, laidKinds := [.data, .data, .data], laidTests := true, laidLooks := .later }
def FormatFixedPointUptoCardSaid : Prop := Claim7.holds Tryd.pinned (.plain (OpenSpec.upto formatFixedPointSpec)) formatFixedPointUptoCard

/-- THE SECOND FORM's CARD OF 'frustumlaw06.FormatShortest'. -/
def formatShortestUptoCard : Claim7 := { stood := { row := formatShortestUptoRow, standIns := [], harness := (true, "29dfd0e6fc8bd8d941691299c3f977f0918f0a04d8a620c245d635d0f9eae84f"), looks := false }, kinds := [], alts := [], laidByText := true, laidKinds := [.data, .data, .data], laidTests := true, laidLooks := .later }
def FormatShortestUptoCardSaid : Prop := Claim7.holds Tryd.pinned (.plain (OpenSpec.upto formatShortestSpec)) formatShortestUptoCard

/-- THE SECOND FORM's CARD OF 'frustumlaw06.FormatInts'. -/
def formatIntsUptoCard : Claim7 := { stood := { row := formatIntsUptoRow, standIns := [], harness := (true, "29dfd0e6fc8bd8d941691299c3f977f0918f0a04d8a620c245d635d0f9eae84f"), looks := false }, kinds := [], alts := [], laidByText := true, laidKinds := [.data, .data, .data], laidTests := true, laidLooks := .later }
def FormatIntsUptoCardSaid : Prop := Claim7.holds Tryd.pinned (.plain (OpenSpec.upto formatIntsSpec)) formatIntsUptoCard

/-- THE SECOND FORM's CARD OF 'frustumlaw06.FormatNames'. -/
def formatNamesUptoCard : Claim7 := { stood := { row := formatNamesUptoRow, standIns := [], harness := (true, "29dfd0e6fc8bd8d941691299c3f977f0918f0a04d8a620c245d635d0f9eae84f"), looks := false }, kinds := [], alts := [], laidByText := true, laidKinds := [.data, .data, .data], laidTests := true, laidLooks := .later }
def FormatNamesUptoCardSaid : Prop := Claim7.holds Tryd.pinned (.plain (OpenSpec.upto formatNamesSpec)) formatNamesUptoCard

/-- THE SECOND FORM's CARD OF 'frustumlaw06.FormatLines'. -/
def formatLinesUptoCard : Claim7 := { stood := { row := formatLinesUptoRow, standIns := [], harness := (true, "29dfd0e6fc8bd8d941691299c3f977f0918f0a04d8a620c245d635d0f9eae84f"), looks := false }, kinds := [], alts := [], laidByText := true, laidKinds := [.data, .data, .data, .data, .pinned], laidTests := true, laidLooks := .later }
def FormatLinesUptoCardSaid : Prop := Claim7.holds Tryd.pinned (.plain (OpenSpec.upto formatLinesSpec)) formatLinesUptoCard

/-- THE SECOND FORM's CARD OF 'frustumlaw06.FormatFields'. -/
def formatFieldsUptoCard : Claim7 := { stood := { row := formatFieldsUptoRow, standIns := [], harness := (true, "29dfd0e6fc8bd8d941691299c3f977f0918f0a04d8a620c245d635d0f9eae84f"), looks := false }, kinds := [], alts := [], laidByText := true, laidKinds := [.data, .data, .data, .data, .pinned], laidTests := true, laidLooks := .later }
def FormatFieldsUptoCardSaid : Prop := Claim7.holds Tryd.pinned (.plain (OpenSpec.upto formatFieldsSpec)) formatFieldsUptoCard

/-- THE SECOND FORM's CARD OF 'frustumlaw06.FormatRoundTrip'. -/
def formatRoundTripUptoCard : Claim7 := { stood := { row := formatRoundTripUptoRow, standIns := [], harness := (true, "29dfd0e6fc8bd8d941691299c3f977f0918f0a04d8a620c245d635d0f9eae84f"), looks := false }, kinds := [], alts := [], laidByText := true, laidKinds := [.data, .data, .data, .data, .pinned], laidTests := true, laidLooks := .later }
def FormatRoundTripUptoCardSaid : Prop := Claim7.holds Tryd.pinned (.plain (OpenSpec.upto formatRoundTripSpec)) formatRoundTripUptoCard
end Rows
end Go.Proofs.YtkmnkikcbmfecaaDoor
