import Derived.Test.YtkmnkikcbmfecaaDoorPlain
namespace Go.Proofs.YtkmnkikcbmfecaaDoor.Pure
open Go.RowKit Go.Proofs.YtkmnkikcbmfecaaDoor.PF
theorem FormatFixedPoint : frustumlaw06_FormatFixedPoint.Pure := fun a0 a1 _ _ => fixedLaw a0 a1
end Go.Proofs.YtkmnkikcbmfecaaDoor.Pure
