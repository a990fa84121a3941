import Derived.Test.YtkmnkikcbmfecaaDoorPlain2
namespace Go.Proofs.YtkmnkikcbmfecaaDoor.Pure
theorem FormatFields (s : ByteArray) (l1 : List ByteArray) (h1 : ∀ x ∈ l1, x.size ≤ 140737488351232) : ∃ k, Go.Proofs.YtkmnkikcbmfecaaDoor.PF.frustumlaw06_FormatFields.f k s l1 = some true := fieldsLaw s l1 h1
end Go.Proofs.YtkmnkikcbmfecaaDoor.Pure
