-- Written by hprint.py, a program of this session's, over the kit's printer.
import Derived.Test.YtfhiboibfhjmpaaProg
import Derived.Below
import Derived.Deep.Draws
import Derived.Deep.AppendLies
import Derived.Maps.AppendAt
import Derived.OwnWalk
import Derived.Laws.BytesArg
import Derived.Laws.MakeOwn
import Derived.Laws.OwnMore
import Derived.Deep.OwnRows
import Derived.Tactics
import Derived.Lib.ConvBytes
import Derived.Laws.Slices
import Derived.WalkKit
import Derived.KernelRfl
import Derived.RowKit3
import Derived.Deep.LoopGhost
import Derived.Deep.QuietTactic
import Derived.BigQuiet
import Derived.WideLaws
import Derived.Deep.DeepCutAuto
import Derived.Deep.CutBlock
import Derived.Deep.RegionHeld3
import Derived.Laws.Rows
import Derived.Lib.AppendStr
import Derived.ArgAppend
import Derived.Laws.IdiomCopy
import Derived.OrdersHeld
import Derived.Laws.BitsLemmas
import Derived.RowKit
import Derived.Test.YtfhiboibfhjmpaaC3
import Derived.Test.YtfhiboibfhjmpaaC4
import Derived.Test.YtfhiboibfhjmpaaC8
import Derived.Test.YtfhiboibfhjmpaaWWords
import Derived.Test.YtfhiboibfhjmpaaWLast
import Derived.Test.YtfhiboibfhjmpaaWTab
import Derived.Test.YtfhiboibfhjmpaaWFour
import Derived.Test.YtfhiboibfhjmpaaWQPut
import Derived.Test.YtfhiboibfhjmpaaWApart
import Derived.Test.YtfhiboibfhjmpaaWArr
import Derived.Test.YtfhiboibfhjmpaaWZeros
import Derived.Test.YtfhiboibfhjmpaaWFoot
import Derived.Test.YtfhiboibfhjmpaaWKept
import Derived.Test.YtfhiboibfhjmpaaWShare
import Derived.Test.YtfhiboibfhjmpaaWN
import Derived.Test.YtfhiboibfhjmpaaWFootNe
import Derived.Test.YtfhiboibfhjmpaaWAt
import Derived.Test.YtfhiboibfhjmpaaWEqStruct
import Derived.Test.YtfhiboibfhjmpaaWRepsOne
import Derived.Test.YtfhiboibfhjmpaaWInv
import Derived.Test.YtfhiboibfhjmpaaWInvWords
import Derived.Test.YtfhiboibfhjmpaaWGuard
import Derived.Test.YtfhiboibfhjmpaaWNEv
import Derived.Test.YtfhiboibfhjmpaaWMore
namespace Go.Proofs.Ytfhiboibfhjmpaa.H
open Go.RowKit Go.Proofs.YtfhiboibfhjmpaaW.PrintWords Go.Proofs.YtfhiboibfhjmpaaW.PrintLast Go.Proofs.YtfhiboibfhjmpaaW.PrintMore
attribute [local go_sem] max2_int min2_int max_two min_two max_three min_three max_four min_four   -- for this text's walks alone
set_option linter.unusedVariables false
set_option linter.unusedSimpArgs false



def errW : Option Int → Value
  | none => .nilIface
  | some c => .iface 0 (.int .i64 c)
theorem errW_none : errW none = .nilIface := rfl
theorem errW_some (c : Int) : errW (some c) = .iface 0 (.int .i64 c) := rfl

theorem info3 : (Try.prog.info? 3).map (fun i => (i.zero, i.size, i.bytes)) = some (some (.int .i64 0), 1, 8) := by kernel_rfl
-- the values' own types

end Go.Proofs.Ytfhiboibfhjmpaa.H
