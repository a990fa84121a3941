-- Written by a program of the session (gprint.py) out of the kit's print of the translation. Lean checks it.
import Derived.Test.YtblfokhcfpajpaaDoorPMLx0
import Derived.Test.YtblfokhcfpajpaaDoorPMLx1
import Derived.Test.YtblfokhcfpajpaaDoorPMLx2
namespace Go.Proofs.YtblfokhcfpajpaaDoor.PML
open Go.RowKit Go.Proofs.YtblfokhcfpajpaaDoorW.PrintWords Go.Proofs.YtblfokhcfpajpaaDoorW.PrintLast Go.Proofs.YtblfokhcfpajpaaDoorW.PrintMore
attribute [local go_sem] max2_int min2_int max_two min_two max_three min_three max_four min_four   -- for this text's walks alone
set_option linter.unusedVariables false
set_option linter.unusedSimpArgs false

end Go.Proofs.YtblfokhcfpajpaaDoor.PML
