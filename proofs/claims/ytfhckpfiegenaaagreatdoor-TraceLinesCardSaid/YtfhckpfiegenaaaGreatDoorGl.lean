/- What the proofs know of the package-level variables that the laws read: a number of internal/bytealg, the table of internal/strconv. -/
import Derived.Test.YtfhckpfiegenaaaGreatDoorProg
import Derived.Below
import Derived.KernelRfl
import Derived.Lib.LaidTab
import Derived.Lib.ItoaNum
namespace Go.Proofs.YtfhckpfiegenaaaGreatDoor
open Go.RowKit
structure Gl (w : World) : Prop where
  maxLen : ∃ m, w.cell? ⟨3, 0, none⟩ = some (.int .i64 m)
  pow10 : Lib.TabIs Tryz.prog w "internal/strconv.uint64pow10" .u64 Lib.pow10Tab
theorem gPow : Tryz.prog.globalNamed "internal/strconv.uint64pow10" = some 6 := by kernel_rfl
theorem Gl.lt {w : World} (h : Gl w) : 6 < w.heap.size := World.block_lt_of_cell? _ _ (h.pow10.cell gPow 0 (by rw [Lib.pow10Tab_length]; decide))
theorem Gl.of {w w' : World} (h : Gl w) (hb : Below w.heap.size w w') : Gl w' where
  maxLen := by
    obtain ⟨m, hm⟩ := h.maxLen
    exact ⟨m, by rw [hb.cell (p := ⟨3, 0, none⟩) (World.block_lt_of_cell? _ _ hm)]; exact hm⟩
  pow10 := by
    have h1 := h.pow10
    unfold Lib.TabIs World.var? at h1 ⊢
    rw [gPow] at h1 ⊢
    simp only [Option.bind_some] at h1 ⊢
    rw [hb.block _ h.lt]
    exact h1
end Go.Proofs.YtfhckpfiegenaaaGreatDoor
