import Derived.Test.YtkmnkikcbmfecaaDoorPlain2
namespace Go.Proofs.YtkmnkikcbmfecaaDoor.Pure
open Go.RowKit Go.Proofs.YtkmnkikcbmfecaaDoor.PF
theorem FormatLines : frustumlaw06_FormatLines.Pure := fun a0 _ => linesLaw a0
end Go.Proofs.YtkmnkikcbmfecaaDoor.Pure
