-- Written by a program of the session (gprint.py) out of the kit's print of the translation. Lean checks it.
import Derived.Test.YtblfokhcfpajpaaPMx0
import Derived.Test.YtblfokhcfpajpaaPMx1
import Derived.Test.YtblfokhcfpajpaaPMx2
import Derived.Test.YtblfokhcfpajpaaPMx3
import Derived.Test.YtblfokhcfpajpaaPMx4
import Derived.Test.YtblfokhcfpajpaaPMx5
namespace Go.Proofs.Ytblfokhcfpajpaa.PM
open Go.RowKit Go.Proofs.YtblfokhcfpajpaaW.PrintWords Go.Proofs.YtblfokhcfpajpaaW.PrintLast Go.Proofs.YtblfokhcfpajpaaW.PrintMore
attribute [local go_sem] max2_int min2_int max_two min_two max_three min_three max_four min_four   -- for this text's walks alone
set_option linter.unusedVariables false
set_option linter.unusedSimpArgs false

end Go.Proofs.Ytblfokhcfpajpaa.PM
