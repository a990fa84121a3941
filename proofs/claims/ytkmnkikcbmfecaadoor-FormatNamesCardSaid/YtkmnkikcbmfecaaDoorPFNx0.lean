-- Written by a program of the session (gprint.py) out of the kit's print of the translation. Lean checks it.
import Derived.Test.YtkmnkikcbmfecaaDoorProg
import Derived.Below
import Derived.Deep.Draws
import Derived.Deep.AppendLies
import Derived.Maps.AppendAt
import Derived.OwnWalk
import Derived.Laws.BytesArg
import Derived.Laws.MakeOwn
import Derived.Laws.OwnMore
import Derived.Deep.OwnRows
import Derived.Tactics
import Derived.Lib.ConvBytes
import Derived.Laws.Slices
import Derived.WalkKit
import Derived.KernelRfl
import Derived.RowKit3
import Derived.Deep.LoopGhost
import Derived.Deep.QuietTactic
import Derived.BigQuiet
import Derived.WideLaws
import Derived.Deep.DeepCutAuto
import Derived.Deep.CutBlock
import Derived.Deep.RegionHeld3
import Derived.Laws.Rows
import Derived.Lib.AppendStr
import Derived.ArgAppend
import Derived.Laws.IdiomCopy
import Derived.OrdersHeld
import Derived.Laws.BitsLemmas
import Derived.RowKit
import Derived.Test.YtkmnkikcbmfecaaDoorShelf
import Derived.Lib.Hide
import Derived.Lib.SplitLaws
import Derived.Sort.Grow
import Derived.Test.YtkmnkikcbmfecaaDoorGl2
import Derived.Lib.ItoaMem
import Derived.Lib.ItoaWalk
import Derived.LoopTactic
import Derived.Test.YtkmnkikcbmfecaaDoorWWords
import Derived.Test.YtkmnkikcbmfecaaDoorWLast
import Derived.Test.YtkmnkikcbmfecaaDoorWTab
import Derived.Test.YtkmnkikcbmfecaaDoorWFour
import Derived.Test.YtkmnkikcbmfecaaDoorWQPut
import Derived.Test.YtkmnkikcbmfecaaDoorWApart
import Derived.Test.YtkmnkikcbmfecaaDoorWArr
import Derived.Test.YtkmnkikcbmfecaaDoorWZeros
import Derived.Test.YtkmnkikcbmfecaaDoorWFoot
import Derived.Test.YtkmnkikcbmfecaaDoorWKept
import Derived.Test.YtkmnkikcbmfecaaDoorWShare
import Derived.Test.YtkmnkikcbmfecaaDoorWN
import Derived.Test.YtkmnkikcbmfecaaDoorWFootNe
import Derived.Test.YtkmnkikcbmfecaaDoorWAt
import Derived.Test.YtkmnkikcbmfecaaDoorWEqStruct
import Derived.Test.YtkmnkikcbmfecaaDoorWRepsOne
import Derived.Test.YtkmnkikcbmfecaaDoorWInv
import Derived.Test.YtkmnkikcbmfecaaDoorWInvWords
import Derived.Test.YtkmnkikcbmfecaaDoorWGuard
import Derived.Test.YtkmnkikcbmfecaaDoorWNEv
import Derived.Test.YtkmnkikcbmfecaaDoorWMore
namespace Go.Proofs.YtkmnkikcbmfecaaDoor.PFN
open Go.RowKit Go.Proofs.YtkmnkikcbmfecaaDoorW.PrintWords Go.Proofs.YtkmnkikcbmfecaaDoorW.PrintLast Go.Proofs.YtkmnkikcbmfecaaDoorW.PrintMore
attribute [local go_sem] max2_int min2_int max_two min_two max_three min_three max_four min_four   -- for this text's walks alone
set_option linter.unusedVariables false
set_option linter.unusedSimpArgs false



def errW : Option Int → Value
  | none => .nilIface
  | some c => .iface 0 (.int .i64 c)
theorem ne_nil_ (l : List UInt8) : (l != []) = !l.isEmpty := by cases l <;> rfl
theorem eq_nil_ (l : List UInt8) : (l == []) = l.isEmpty := by cases l <;> rfl
theorem errW_none : errW none = .nilIface := rfl
theorem errW_some (c : Int) : errW (some c) = .iface 0 (.int .i64 c) := rfl

theorem info5 : (Tryd.prog.info? 5).map (fun i => (i.zero, i.size, i.bytes)) = some (some (.int .u8 0), 1, 1) := by kernel_rfl
-- the values' own types

end Go.Proofs.YtkmnkikcbmfecaaDoor.PFN
