-- Written by hprint.py, a program of this session's, over the kit's printer.
import Derived.Test.YtnihobcmaabmfaaProg
import Derived.Below
import Derived.Deep.Draws
import Derived.Deep.AppendLies
import Derived.Maps.AppendAt
import Derived.OwnWalk
import Derived.Laws.BytesArg
import Derived.Laws.MakeOwn
import Derived.Laws.OwnMore
import Derived.Deep.OwnRows
import Derived.Tactics
import Derived.Lib.ConvBytes
import Derived.Laws.Slices
import Derived.WalkKit
import Derived.KernelRfl
import Derived.RowKit3
import Derived.Deep.LoopGhost
import Derived.Deep.QuietTactic
import Derived.BigQuiet
import Derived.WideLaws
import Derived.Deep.DeepCutAuto
import Derived.Deep.CutBlock
import Derived.Deep.RegionHeld3
import Derived.Laws.Rows
import Derived.Lib.AppendStr
import Derived.ArgAppend
import Derived.Laws.IdiomCopy
import Derived.OrdersHeld
import Derived.Laws.BitsLemmas
import Derived.RowKit
import Derived.Test.YtnihobcmaabmfaaWWords
import Derived.Test.YtnihobcmaabmfaaWLast
import Derived.Test.YtnihobcmaabmfaaWTab
import Derived.Test.YtnihobcmaabmfaaWFour
import Derived.Test.YtnihobcmaabmfaaWQPut
import Derived.Test.YtnihobcmaabmfaaWApart
import Derived.Test.YtnihobcmaabmfaaWArr
import Derived.Test.YtnihobcmaabmfaaWZeros
import Derived.Test.YtnihobcmaabmfaaWFoot
import Derived.Test.YtnihobcmaabmfaaWKept
import Derived.Test.YtnihobcmaabmfaaWShare
import Derived.Test.YtnihobcmaabmfaaWN
import Derived.Test.YtnihobcmaabmfaaWFootNe
import Derived.Test.YtnihobcmaabmfaaWAt
import Derived.Test.YtnihobcmaabmfaaWEqStruct
import Derived.Test.YtnihobcmaabmfaaWRepsOne
import Derived.Test.YtnihobcmaabmfaaWInv
import Derived.Test.YtnihobcmaabmfaaWInvWords
import Derived.Test.YtnihobcmaabmfaaWGuard
import Derived.Test.YtnihobcmaabmfaaWNEv
import Derived.Test.YtnihobcmaabmfaaWMore
namespace Go.Proofs.Ytnihobcmaabmfaa.H
open Go.RowKit Go.Proofs.YtnihobcmaabmfaaW.PrintWords Go.Proofs.YtnihobcmaabmfaaW.PrintLast Go.Proofs.YtnihobcmaabmfaaW.PrintMore
attribute [local go_sem] max2_int min2_int max_two min_two max_three min_three max_four min_four   -- for this text's walks alone
set_option linter.unusedVariables false
set_option linter.unusedSimpArgs false



def errW : Option Int → Value
  | none => .nilIface
  | some c => .iface 0 (.int .i64 c)
theorem errW_none : errW none = .nilIface := rfl
theorem errW_some (c : Int) : errW (some c) = .iface 0 (.int .i64 c) := rfl

theorem info3 : (Try.prog.info? 3).map (fun i => (i.zero, i.size, i.bytes)) = some (some (.int .i64 0), 1, 8) := by kernel_rfl
-- the values' own types

end Go.Proofs.Ytnihobcmaabmfaa.H
