-- Written by a program of the session (gprint.py) out of the kit's print of the translation. Lean checks it.
import Derived.Test.YtkmnkikcbmfecaaDoorPFNx0
import Derived.Test.YtkmnkikcbmfecaaDoorPFNx1
import Derived.Test.YtkmnkikcbmfecaaDoorPFNx2
import Derived.Test.YtkmnkikcbmfecaaDoorPFNx3
import Derived.Test.YtkmnkikcbmfecaaDoorPFNx4
namespace Go.Proofs.YtkmnkikcbmfecaaDoor.PFN
open Go.RowKit Go.Proofs.YtkmnkikcbmfecaaDoorW.PrintWords Go.Proofs.YtkmnkikcbmfecaaDoorW.PrintLast Go.Proofs.YtkmnkikcbmfecaaDoorW.PrintMore
attribute [local go_sem] max2_int min2_int max_two min_two max_three min_three max_four min_four   -- for this text's walks alone
set_option linter.unusedVariables false
set_option linter.unusedSimpArgs false

end Go.Proofs.YtkmnkikcbmfecaaDoor.PFN
