import Derived.Test.YtkmnkikcbmfecaaDoorPlain
namespace Go.Proofs.YtkmnkikcbmfecaaDoor.Pure
open Go.RowKit Go.Proofs.YtkmnkikcbmfecaaDoor.PF
theorem FormatShortest : frustumlaw06_FormatShortest.Pure := fun a0 _ => shortLaw a0
end Go.Proofs.YtkmnkikcbmfecaaDoor.Pure
