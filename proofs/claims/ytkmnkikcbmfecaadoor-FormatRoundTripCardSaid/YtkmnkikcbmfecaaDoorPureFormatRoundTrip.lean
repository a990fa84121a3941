import Derived.Test.YtkmnkikcbmfecaaDoorPlain2
namespace Go.Proofs.YtkmnkikcbmfecaaDoor.Pure
open Go.RowKit Go.Proofs.YtkmnkikcbmfecaaDoor.PF
theorem FormatRoundTrip : frustumlaw06_FormatRoundTrip.Pure := fun a0 a1 a2 h0 _ _ => roundLaw a0 a1 a2 h0
end Go.Proofs.YtkmnkikcbmfecaaDoor.Pure
