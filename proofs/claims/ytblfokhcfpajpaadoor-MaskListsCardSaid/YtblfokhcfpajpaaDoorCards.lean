/-
  DERIVED. GIVEN WITH THE SEED: THE CARDS: each row of YtblfokhcfpajpaaDoorRows.lean that lists a variable, with what it lists TIED to the program's text (the seventh form; the later family's looks); each row that meets fmt, with fmt's text TOLD by the authors' own Lean function (tested against real Go, not proved from fmt's source: count such statements apart). THE CARD IS WHAT COUNTS. Prove the row's statement (the work); the ties are given (YtblfokhcfpajpaaDoorTie.lean); close each card by the builder's one call (the guide's Derived/Test/ToyasCard.lean, 'card_holds'). Laid BY PROGRAM, IN A SANDBOX (cutbox-door.mjs). By AI agents, Wed Nov 11 2026. No macro, syntax, notation, axiom, sorry.
-/
import Derived.Test.YtblfokhcfpajpaaDoorRows
import GoSem.ClaimSeven
namespace Go.Proofs.YtblfokhcfpajpaaDoor
namespace Rows

/-- THE TIED CARD OF 'frustumlaw08.MaskLists'. -/
def maskListsCard : Claim7 := { stood := { row := maskListsRow, standIns := [], harness := (true, "5234d08d2f6f73047256bc114e50d68b498d14c23f116e0a45a7ab39dd56f521"), looks := false }, kinds := [], alts := [], laidByText := true, laidKinds := [.data], laidTests := true, laidLooks := .later }
def MaskListsCardSaid : Prop := Claim7.holds Tryd.pinned (.plain (OpenSpec.ofChange maskListsSpec)) maskListsCard

/-- THE SECOND FORM's CARD OF 'frustumlaw08.MaskLists'. -/
def maskListsUptoCard : Claim7 := { stood := { row := maskListsUptoRow, standIns := [], harness := (true, "5234d08d2f6f73047256bc114e50d68b498d14c23f116e0a45a7ab39dd56f521"), looks := false }, kinds := [], alts := [], laidByText := true, laidKinds := [.data], laidTests := true, laidLooks := .later }
def MaskListsUptoCardSaid : Prop := Claim7.holds Tryd.pinned (.plain (OpenSpec.upto maskListsSpec)) maskListsUptoCard
end Rows
end Go.Proofs.YtblfokhcfpajpaaDoor
