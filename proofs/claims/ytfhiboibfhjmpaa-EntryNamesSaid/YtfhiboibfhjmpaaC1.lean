/- Contracts of entry.Check and the reference's Check: both come to 'Chk', whatever the entry. -/
import Derived.Test.YtfhiboibfhjmpaaProg
import Derived.Below
import Derived.Deep.Draws
import Derived.Deep.AppendLies
import Derived.Maps.AppendAt
import Derived.OwnWalk
import Derived.Laws.BytesArg
import Derived.Laws.MakeOwn
import Derived.Laws.OwnMore
import Derived.Deep.OwnRows
import Derived.Tactics
import Derived.Lib.ConvBytes
import Derived.Laws.Slices
import Derived.WalkKit
import Derived.KernelRfl
import Derived.RowKit3
import Derived.Deep.LoopGhost
import Derived.Deep.QuietTactic
import Derived.BigQuiet
import Derived.WideLaws
import Derived.Deep.DeepCutAuto
import Derived.Deep.CutBlock
import Derived.Deep.RegionHeld3
import Derived.Laws.Rows
import Derived.Lib.AppendStr
import Derived.ArgAppend
import Derived.Laws.IdiomCopy
import Derived.OrdersHeld
import Derived.Laws.BitsLemmas
import Derived.RowKit
import Derived.Test.YtfhiboibfhjmpaaWWords
import Derived.Test.YtfhiboibfhjmpaaWLast
import Derived.Test.YtfhiboibfhjmpaaWTab
import Derived.Test.YtfhiboibfhjmpaaWFour
import Derived.Test.YtfhiboibfhjmpaaWQPut
import Derived.Test.YtfhiboibfhjmpaaWApart
import Derived.Test.YtfhiboibfhjmpaaWArr
import Derived.Test.YtfhiboibfhjmpaaWZeros
import Derived.Test.YtfhiboibfhjmpaaWFoot
import Derived.Test.YtfhiboibfhjmpaaWKept
import Derived.Test.YtfhiboibfhjmpaaWShare
import Derived.Test.YtfhiboibfhjmpaaWN
import Derived.Test.YtfhiboibfhjmpaaWFootNe
import Derived.Test.YtfhiboibfhjmpaaWAt
import Derived.Test.YtfhiboibfhjmpaaWEqStruct
import Derived.Test.YtfhiboibfhjmpaaWRepsOne
import Derived.Test.YtfhiboibfhjmpaaWInv
import Derived.Test.YtfhiboibfhjmpaaWInvWords
import Derived.Test.YtfhiboibfhjmpaaWGuard
import Derived.Test.YtfhiboibfhjmpaaWNEv
import Derived.Test.YtfhiboibfhjmpaaWMore
namespace Go.Proofs.Ytfhiboibfhjmpaa.H
open Go.RowKit Go.Proofs.YtfhiboibfhjmpaaW.PrintWords Go.Proofs.YtfhiboibfhjmpaaW.PrintLast Go.Proofs.YtfhiboibfhjmpaaW.PrintMore
set_option linter.unusedVariables false
set_option linter.unusedSimpArgs false
theorem ret_int {k : IntKind} {a b : Int} (h : a = b) : Ending.returned (.int k a) = .returned (.int k b) := by rw [h]
def Chk (a0 a1 a2 a3 a4 a5 : Bool) (a6 : Int) : Int :=
  if (a0 = false ∧ a1 = false ∧ a2 = false ∧ a3 = false ∧ a4 = false ∧ a5 = false ∧ a6 = 0) then 0
  else if a0 = a1 ∨ a6 < 0 ∨ a6 > (if a1 = true then 1023 else 4095) ∨ (a3 = true ∧ a2 = false) ∨ (a1 = true ∧ (a4 = true ∨ a5 = true)) then 70 else 0
theorem bcell {W w1 : World} (hb : Below W.heap.size W w1) : (∀ b o, b < W.heap.size → w1.cell? ⟨b, o, none⟩ = W.cell? ⟨b, o, none⟩) ∧ (∀ b o, b < W.heap.size → w1.frozen? ⟨b, o, none⟩ = W.frozen? ⟨b, o, none⟩) :=
  ⟨fun b o h => hb.cell (p := ⟨b, o, none⟩) h, fun b o h => hb.frozen (p := ⟨b, o, none⟩) h⟩
set_option maxHeartbeats 4000000 in
set_option maxRecDepth 100000 in
theorem ref_Check (a0_0 a0_1 a0_2 a0_3 a0_4 a0_5 : Bool) (a0_6 : Int) (w : World) :
    Calls Try.prog 10 #[.agg #[.bool a0_0, .bool a0_1, .bool a0_2, .bool a0_3, .bool a0_4, .bool a0_5, .int .i64 a0_6]] w fun e w' => e = .returned (.int .i64 (Chk a0_0 a0_1 a0_2 a0_3 a0_4 a0_5 a0_6)) ∧ Below w.heap.size w w' := by
  have hu23 := Try.underlying23
  go_enter Try.func10, Try.ntmps10
  go_wp2
  all_goals
    go_ret
    refine ⟨ret_int ?_, below_alloc (Below.refl _ _) _⟩
    (try simp only [Array.getD])
    clear hu23
    simp_all [Chk]
    try (first | omega | (rcases ‹(_ ∨ _) ∨ _› with (h | h) | h <;> first | exact h | omega))
set_option maxHeartbeats 4000000 in
set_option maxRecDepth 100000 in
theorem entry_Check (a0_0 a0_1 a0_2 a0_3 a0_4 a0_5 : Bool) (a0_6 : Int) (w : World) :
    Calls Try.prog 9 #[.agg #[.bool a0_0, .bool a0_1, .bool a0_2, .bool a0_3, .bool a0_4, .bool a0_5, .int .i64 a0_6]] w fun e w' => e = .returned (.int .i64 (Chk a0_0 a0_1 a0_2 a0_3 a0_4 a0_5 a0_6)) ∧ Below w.heap.size w w' := by
  have hu23 := Try.underlying23
  go_enter Try.func9, Try.ntmps9
  go_wp2
  all_goals
    go_ret
    refine ⟨ret_int ?_, below_alloc (Below.refl _ _) _⟩
    (try simp only [Array.getD])
    clear hu23
    simp_all [Chk]
    try (first | omega | (rcases ‹(_ ∨ _) ∨ _› with (h | h) | h <;> first | exact h | omega))
end Go.Proofs.Ytfhiboibfhjmpaa.H
