import Derived.Test.YtkmnkikcbmfecaaDoorPlain
namespace Go.Proofs.YtkmnkikcbmfecaaDoor.Pure
open Go.RowKit Go.Proofs.YtkmnkikcbmfecaaDoor.PF
theorem FormatInts : frustumlaw06_FormatInts.Pure := fun a0 a1 hw _ => intsLaw a0 a1 hw
end Go.Proofs.YtkmnkikcbmfecaaDoor.Pure
