/- EntryMakes: of every entry, Check, Make and Allows answer as the reference does. -/
import Derived.Test.YtfhiboibfhjmpaaHx3
import Derived.Test.YtfhiboibfhjmpaaQ1
namespace Go.Proofs.Ytfhiboibfhjmpaa.Pure
open Go.RowKit Go.Proofs.Ytfhiboibfhjmpaa.H Go.Proofs.YtfhiboibfhjmpaaW.PrintWords Go.Proofs.YtfhiboibfhjmpaaW.PrintLast

theorem EntryMakes : ∀ (a0_0 : Bool) (a0_1 : Bool) (a0_2 : Bool) (a0_3 : Bool) (a0_4 : Bool) (a0_5 : Bool) (a0_6 : Int), (Lit.int .i64 a0_6).wf = true → ∃ k, cofferdamlaw07_EntryMakes.f k a0_0 a0_1 a0_2 a0_3 a0_4 a0_5 a0_6 = some true := by
  intro a0 a1 a2 a3 a4 a5 a6 _
  refine ⟨4, ?_⟩
  have e1 : wrap64 1 = 1 := by unfold wrap64; decide
  have e2 : wrap64 2 = 2 := by unfold wrap64; decide
  simp [cofferdamlaw07_EntryMakes.f, cofferdamlaw07_EntryMakes.j0, cofferdamlaw07_EntryMakes.l0, entry_Make.f, cofferdamref07_Make.f, entry_Check.f, cofferdamref07_Check.f, entry_Allows.f, cofferdamref07_Allows.f, awake_true, e1, e2]

end Go.Proofs.Ytfhiboibfhjmpaa.Pure
