-- Written by a program of the session (gprint.py) out of the kit's print of the translation. Lean checks it.
import Derived.Test.YtblfokhcfpajpaaProg
import Derived.Below
import Derived.Deep.Draws
import Derived.Deep.AppendLies
import Derived.Maps.AppendAt
import Derived.OwnWalk
import Derived.Laws.BytesArg
import Derived.Laws.MakeOwn
import Derived.Laws.OwnMore
import Derived.Deep.OwnRows
import Derived.Tactics
import Derived.Lib.ConvBytes
import Derived.Laws.Slices
import Derived.WalkKit
import Derived.KernelRfl
import Derived.RowKit3
import Derived.Deep.LoopGhost
import Derived.Deep.QuietTactic
import Derived.BigQuiet
import Derived.WideLaws
import Derived.Deep.DeepCutAuto
import Derived.Deep.CutBlock
import Derived.Deep.RegionHeld3
import Derived.Laws.Rows
import Derived.Lib.AppendStr
import Derived.ArgAppend
import Derived.Laws.IdiomCopy
import Derived.OrdersHeld
import Derived.Laws.BitsLemmas
import Derived.RowKit
import Derived.Test.YtblfokhcfpajpaaShelf
import Derived.Lib.Hide
import Derived.Test.YtblfokhcfpajpaaWWords
import Derived.Test.YtblfokhcfpajpaaWLast
import Derived.Test.YtblfokhcfpajpaaWTab
import Derived.Test.YtblfokhcfpajpaaWFour
import Derived.Test.YtblfokhcfpajpaaWQPut
import Derived.Test.YtblfokhcfpajpaaWApart
import Derived.Test.YtblfokhcfpajpaaWArr
import Derived.Test.YtblfokhcfpajpaaWZeros
import Derived.Test.YtblfokhcfpajpaaWFoot
import Derived.Test.YtblfokhcfpajpaaWKept
import Derived.Test.YtblfokhcfpajpaaWShare
import Derived.Test.YtblfokhcfpajpaaWN
import Derived.Test.YtblfokhcfpajpaaWFootNe
import Derived.Test.YtblfokhcfpajpaaWAt
import Derived.Test.YtblfokhcfpajpaaWEqStruct
import Derived.Test.YtblfokhcfpajpaaWRepsOne
import Derived.Test.YtblfokhcfpajpaaWInv
import Derived.Test.YtblfokhcfpajpaaWInvWords
import Derived.Test.YtblfokhcfpajpaaWGuard
import Derived.Test.YtblfokhcfpajpaaWNEv
import Derived.Test.YtblfokhcfpajpaaWMore
namespace Go.Proofs.Ytblfokhcfpajpaa.PMS
open Go.RowKit Go.Proofs.YtblfokhcfpajpaaW.PrintWords Go.Proofs.YtblfokhcfpajpaaW.PrintLast Go.Proofs.YtblfokhcfpajpaaW.PrintMore
attribute [local go_sem] max2_int min2_int max_two min_two max_three min_three max_four min_four   -- for this text's walks alone
set_option linter.unusedVariables false
set_option linter.unusedSimpArgs false



def errW : Option Int → Value
  | none => .nilIface
  | some c => .iface 0 (.int .i64 c)
theorem errW_none : errW none = .nilIface := rfl
theorem errW_some (c : Int) : errW (some c) = .iface 0 (.int .i64 c) := rfl

theorem info3 : (Try.prog.info? 3).map (fun i => (i.zero, i.size, i.bytes)) = some (some (.int .i64 0), 1, 8) := by kernel_rfl
-- the values' own types

end Go.Proofs.Ytblfokhcfpajpaa.PMS
