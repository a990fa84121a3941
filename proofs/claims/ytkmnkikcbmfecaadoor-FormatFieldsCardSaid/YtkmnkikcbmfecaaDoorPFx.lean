-- Written by a program of the session (gprint.py) out of the kit's print of the translation. Lean checks it.
import Derived.Test.YtkmnkikcbmfecaaDoorPFx0
import Derived.Test.YtkmnkikcbmfecaaDoorPFx1
import Derived.Test.YtkmnkikcbmfecaaDoorPFx2
import Derived.Test.YtkmnkikcbmfecaaDoorPFx3
import Derived.Test.YtkmnkikcbmfecaaDoorPFx4
import Derived.Test.YtkmnkikcbmfecaaDoorPFx5
import Derived.Test.YtkmnkikcbmfecaaDoorPFx6
import Derived.Test.YtkmnkikcbmfecaaDoorPFx7
import Derived.Test.YtkmnkikcbmfecaaDoorPFx8
import Derived.Test.YtkmnkikcbmfecaaDoorPFx9
import Derived.Test.YtkmnkikcbmfecaaDoorPFx10
namespace Go.Proofs.YtkmnkikcbmfecaaDoor.PF
open Go.RowKit Go.Proofs.YtkmnkikcbmfecaaDoorW.PrintWords Go.Proofs.YtkmnkikcbmfecaaDoorW.PrintLast Go.Proofs.YtkmnkikcbmfecaaDoorW.PrintMore
attribute [local go_sem] max2_int min2_int max_two min_two max_three min_three max_four min_four   -- for this text's walks alone
set_option linter.unusedVariables false
set_option linter.unusedSimpArgs false

end Go.Proofs.YtkmnkikcbmfecaaDoor.PF
