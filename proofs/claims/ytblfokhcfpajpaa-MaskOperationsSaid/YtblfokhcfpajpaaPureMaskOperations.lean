/- Proved: And, Or and AndNot return what the reference returns. It holds for all arguments of the Go function. -/
import Derived.Test.YtblfokhcfpajpaaMaskCore
namespace Go.Proofs.Ytblfokhcfpajpaa.Pure
open Go Go.RowKit Go.Proofs.Ytblfokhcfpajpaa.PM Go.Proofs.YtblfokhcfpajpaaW.PrintWords Go.Proofs.YtblfokhcfpajpaaW.PrintLast Go.Proofs.YtblfokhcfpajpaaW.PrintMore

theorem MaskOperations : frustumlaw08_MaskOperations.Pure := by
  intro a b wa wb
  obtain ⟨a, rfl, ha⟩ := wf_u16 wa
  obtain ⟨b, rfl, hb⟩ := wf_u16 wb
  refine ⟨1000, ?_⟩
  unfold frustumlaw08_MaskOperations.f
  rw [and_fn a b ha hb, or_fn a b ha hb, less_fn, ref_and_tells a b ha hb 1000 (by omega), ref_or_tells a b ha hb 1000 (by omega), ref_andnot_tells a b ha hb 1000 (by omega), example_tells]
  simp

end Go.Proofs.Ytblfokhcfpajpaa.Pure
