-- Written by hprint.py, a program of this session's, over the kit's printer.
import Derived.Test.YtlfgkdgjekbkgaaDoorProg
import Derived.Below
import Derived.Deep.Draws
import Derived.Deep.AppendLies
import Derived.Maps.AppendAt
import Derived.OwnWalk
import Derived.Laws.BytesArg
import Derived.Laws.MakeOwn
import Derived.Laws.OwnMore
import Derived.Deep.OwnRows
import Derived.Tactics
import Derived.Lib.ConvBytes
import Derived.Laws.Slices
import Derived.WalkKit
import Derived.KernelRfl
import Derived.RowKit3
import Derived.Deep.LoopGhost
import Derived.Deep.QuietTactic
import Derived.BigQuiet
import Derived.WideLaws
import Derived.Deep.DeepCutAuto
import Derived.Deep.CutBlock
import Derived.Deep.RegionHeld3
import Derived.Laws.Rows
import Derived.Lib.AppendStr
import Derived.ArgAppend
import Derived.Laws.IdiomCopy
import Derived.OrdersHeld
import Derived.Laws.BitsLemmas
import Derived.RowKit
import Derived.Test.YtlfgkdgjekbkgaaDoorWWords
import Derived.Test.YtlfgkdgjekbkgaaDoorWLast
import Derived.Test.YtlfgkdgjekbkgaaDoorWTab
import Derived.Test.YtlfgkdgjekbkgaaDoorWFour
import Derived.Test.YtlfgkdgjekbkgaaDoorWQPut
import Derived.Test.YtlfgkdgjekbkgaaDoorWApart
import Derived.Test.YtlfgkdgjekbkgaaDoorWArr
import Derived.Test.YtlfgkdgjekbkgaaDoorWZeros
import Derived.Test.YtlfgkdgjekbkgaaDoorWFoot
import Derived.Test.YtlfgkdgjekbkgaaDoorWKept
import Derived.Test.YtlfgkdgjekbkgaaDoorWShare
import Derived.Test.YtlfgkdgjekbkgaaDoorWN
import Derived.Test.YtlfgkdgjekbkgaaDoorWFootNe
import Derived.Test.YtlfgkdgjekbkgaaDoorWAt
import Derived.Test.YtlfgkdgjekbkgaaDoorWEqStruct
import Derived.Test.YtlfgkdgjekbkgaaDoorWRepsOne
import Derived.Test.YtlfgkdgjekbkgaaDoorWInv
import Derived.Test.YtlfgkdgjekbkgaaDoorWInvWords
import Derived.Test.YtlfgkdgjekbkgaaDoorWGuard
import Derived.Test.YtlfgkdgjekbkgaaDoorWNEv
import Derived.Test.YtlfgkdgjekbkgaaDoorWMore
namespace Go.Proofs.YtlfgkdgjekbkgaaDoor.H
open Go.RowKit Go.Proofs.YtlfgkdgjekbkgaaDoorW.PrintWords Go.Proofs.YtlfgkdgjekbkgaaDoorW.PrintLast Go.Proofs.YtlfgkdgjekbkgaaDoorW.PrintMore
attribute [local go_sem] max2_int min2_int max_two min_two max_three min_three max_four min_four   -- for this text's walks alone
set_option linter.unusedVariables false
set_option linter.unusedSimpArgs false



def errW : Option Int → Value
  | none => .nilIface
  | some c => .iface 0 (.int .i64 c)
theorem errW_none : errW none = .nilIface := rfl
theorem errW_some (c : Int) : errW (some c) = .iface 0 (.int .i64 c) := rfl

-- the values' own types

end Go.Proofs.YtlfgkdgjekbkgaaDoor.H
