/- Proved: All, Has, With and Without return what the reference returns, for any number of a lane. It holds for all arguments of the Go function. -/
import Derived.Test.YtblfokhcfpajpaaMaskCore
namespace Go.Proofs.Ytblfokhcfpajpaa.Pure
open Go Go.RowKit Go.Proofs.Ytblfokhcfpajpaa.PM Go.Proofs.YtblfokhcfpajpaaW.PrintWords Go.Proofs.YtblfokhcfpajpaaW.PrintLast Go.Proofs.YtblfokhcfpajpaaW.PrintMore

theorem MaskLanes : frustumlaw08_MaskLanes.Pure := by
  intro m lane wm _
  obtain ⟨m, rfl, hm⟩ := wf_u16 wm
  refine ⟨1000, ?_⟩
  unfold frustumlaw08_MaskLanes.f
  rw [all_tells, ref_all_tells lane 1000 (by omega), has_tells m hm, ref_has_tells 1000 m hm lane (by omega), with_tells m hm, ref_with_tells m hm lane 1000 (by omega), without_tells, ref_without_tells m hm lane 1000 (by omega), example_tells]
  simp

end Go.Proofs.Ytblfokhcfpajpaa.Pure
