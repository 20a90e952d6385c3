-- Written by hprint.py, a program of this session's, over the kit's printer.
import Derived.Test.YtklnenaiolclaaaProg
import Derived.Below
import Derived.Deep.Draws
import Derived.Deep.AppendLies
import Derived.Maps.AppendAt
import Derived.OwnWalk
import Derived.Laws.BytesArg
import Derived.Laws.MakeOwn
import Derived.Laws.OwnMore
import Derived.Deep.OwnRows
import Derived.Tactics
import Derived.Lib.ConvBytes
import Derived.Laws.Slices
import Derived.WalkKit
import Derived.KernelRfl
import Derived.RowKit3
import Derived.Deep.LoopGhost
import Derived.Deep.QuietTactic
import Derived.BigQuiet
import Derived.WideLaws
import Derived.Deep.DeepCutAuto
import Derived.Deep.CutBlock
import Derived.Deep.RegionHeld3
import Derived.Laws.Rows
import Derived.Lib.AppendStr
import Derived.ArgAppend
import Derived.Laws.IdiomCopy
import Derived.OrdersHeld
import Derived.Laws.BitsLemmas
import Derived.RowKit
import Derived.Test.YtklnenaiolclaaaWWords
import Derived.Test.YtklnenaiolclaaaWLast
import Derived.Test.YtklnenaiolclaaaWTab
import Derived.Test.YtklnenaiolclaaaWFour
import Derived.Test.YtklnenaiolclaaaWQPut
import Derived.Test.YtklnenaiolclaaaWApart
import Derived.Test.YtklnenaiolclaaaWArr
import Derived.Test.YtklnenaiolclaaaWZeros
import Derived.Test.YtklnenaiolclaaaWFoot
import Derived.Test.YtklnenaiolclaaaWKept
import Derived.Test.YtklnenaiolclaaaWShare
import Derived.Test.YtklnenaiolclaaaWN
import Derived.Test.YtklnenaiolclaaaWFootNe
import Derived.Test.YtklnenaiolclaaaWAt
import Derived.Test.YtklnenaiolclaaaWEqStruct
import Derived.Test.YtklnenaiolclaaaWRepsOne
import Derived.Test.YtklnenaiolclaaaWInv
import Derived.Test.YtklnenaiolclaaaWInvWords
import Derived.Test.YtklnenaiolclaaaWGuard
import Derived.Test.YtklnenaiolclaaaWNEv
import Derived.Test.YtklnenaiolclaaaWMore
namespace Go.Proofs.Ytklnenaiolclaaa.H
open Go.RowKit Go.Proofs.YtklnenaiolclaaaW.PrintWords Go.Proofs.YtklnenaiolclaaaW.PrintLast Go.Proofs.YtklnenaiolclaaaW.PrintMore
attribute [local go_sem] max2_int min2_int max_two min_two max_three min_three max_four min_four   -- for this text's walks alone
set_option linter.unusedVariables false
set_option linter.unusedSimpArgs false



def errW : Option Int → Value
  | none => .nilIface
  | some c => .iface 0 (.int .i64 c)
theorem errW_none : errW none = .nilIface := rfl
theorem errW_some (c : Int) : errW (some c) = .iface 0 (.int .i64 c) := rfl

theorem info50 : (Try.prog.info? 50).map (fun i => (i.zero, i.size, i.bytes)) = some (some (.int .u8 0), 1, 1) := by kernel_rfl
-- the values' own types

end Go.Proofs.Ytklnenaiolclaaa.H
