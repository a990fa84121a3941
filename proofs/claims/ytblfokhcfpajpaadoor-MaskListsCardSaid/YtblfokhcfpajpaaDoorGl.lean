/- What the proofs know of the package-level variable that the law reads: the table of math/bits. -/
import Derived.Test.YtblfokhcfpajpaaDoorProg
import Derived.Below
import Derived.Test.YtblfokhcfpajpaaDoorWWords
namespace Go.Proofs.YtblfokhcfpajpaaDoor
open Go.RowKit Go.Proofs.YtblfokhcfpajpaaDoorW.PrintWords
def tzTab : List Int := [0, 1, 28, 2, 29, 14, 24, 3, 30, 22, 20, 15, 25, 17, 4, 8, 31, 27, 13, 23, 21, 19, 16, 7, 26, 12, 18, 6, 11, 5, 10, 9]
/-- Variable 0 holds the table. -/
structure Gl (w : World) : Prop where
  tab : ∀ i : Nat, i < 32 → w.cell? ⟨0, i, none⟩ = some (.int .u8 (tzTab.getD i 0))
theorem Gl.cell {w : World} (h : Gl w) (j : Int) (h0 : 0 ≤ j) (h1 : j < 32) : w.cell? ⟨0, j.toNat, none⟩ = some (.int .u8 (rd tzTab j)) := h.tab j.toNat (by omega)
theorem Gl.range {w : World} (_ : Gl w) (j : Int) : 0 ≤ rd tzTab j ∧ rd tzTab j ≤ 31 := by
  unfold rd
  have : ∀ i : Nat, 0 ≤ tzTab.getD i 0 ∧ tzTab.getD i 0 ≤ 31 := by
    intro i
    by_cases h : i < 32
    · have : ∀ i, i < 32 → 0 ≤ tzTab.getD i 0 ∧ tzTab.getD i 0 ≤ 31 := by decide
      exact this i h
    · rw [List.getD_eq_getElem?_getD, List.getElem?_eq_none (by simp only [tzTab, List.length_cons, List.length_nil]; omega)]
      decide
  exact this _
theorem Gl.of {w w' : World} (h : Gl w) (hb : Below w.heap.size w w') : Gl w' := ⟨fun i hi => by
  have hc := h.tab i hi
  rw [hb.cell (p := ⟨0, i, none⟩) (World.block_lt_of_cell? _ _ hc)]
  exact hc⟩
end Go.Proofs.YtblfokhcfpajpaaDoor
