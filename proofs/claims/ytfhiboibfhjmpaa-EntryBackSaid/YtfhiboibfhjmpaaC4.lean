/- Contracts of Allows, the program's and the reference's: both come to 'Alw' and 'Chk'. -/
import Derived.Test.YtfhiboibfhjmpaaC2
namespace Go.Proofs.Ytfhiboibfhjmpaa.H
open Go.RowKit Go.Proofs.YtfhiboibfhjmpaaW.PrintWords Go.Proofs.YtfhiboibfhjmpaaW.PrintLast Go.Proofs.YtfhiboibfhjmpaaW.PrintMore
set_option linter.unusedVariables false
set_option linter.unusedSimpArgs false
def Alw (a0 a1 a2 a3 a4 a5 : Bool) (a6 : Int) (st : Bool) : Int :=
  if Chk a0 a1 a2 a3 a4 a5 a6 = 0 then (if a1 = true then 2 else if a0 = false then 1 else if (if st = true then a3 else a2) = true then 0 else 3) else 0
theorem ret_two {k j : IntKind} {a b c d : Int} (h : a = b) (h' : c = d) : Ending.returned (.tuple #[.int k a, .int j c]) = .returned (.tuple #[.int k b, .int j d]) := by rw [h, h']
set_option maxHeartbeats 4000000 in
set_option maxRecDepth 100000 in
theorem entry_Allows (a0 a1 a2 a3 a4 a5 : Bool) (a6 : Int) (st : Bool) (w : World) :
    Calls Try.prog 11 #[.agg #[.bool a0, .bool a1, .bool a2, .bool a3, .bool a4, .bool a5, .int .i64 a6], .bool st] w fun e w' => e = .returned (.tuple #[.int .u8 (Alw a0 a1 a2 a3 a4 a5 a6 st), .int .i64 (Chk a0 a1 a2 a3 a4 a5 a6)]) ∧ Below w.heap.size w w' := by
  have hu23 := Try.underlying23
  go_enter Try.func11, Try.ntmps11
  go_wp2_with (go_at_call 9; refine (entry_Check _ _ _ _ _ _ _ _).mono ?_; rintro e w1 ⟨rfl, hb⟩; obtain ⟨hc, hf⟩ := bcell hb)
  all_goals
    go_ret2
    have hor := Chk_or a0 a1 a2 a3 a4 a5 a6
    have hbel := below_then (below_alloc (Below.refl w.heap.size w) (.cells #[.bool a0, .bool a1, .bool a2, .bool a3, .bool a4, .bool a5, .int .i64 a6] 23)) (by simp) hb
    clear hb hc hf hu23
    refine ⟨ret_two ?_ ?_, hbel⟩
    · first | (simp_all [Alw]; done) | (simp_all [Alw, Chk]; done)
    · first | (simp_all; done) | (simp_all [Chk]; done)
set_option maxHeartbeats 4000000 in
set_option maxRecDepth 100000 in
theorem ref_Allows (a0 a1 a2 a3 a4 a5 : Bool) (a6 : Int) (st : Bool) (w : World) :
    Calls Try.prog 12 #[.agg #[.bool a0, .bool a1, .bool a2, .bool a3, .bool a4, .bool a5, .int .i64 a6], .bool st] w fun e w' => e = .returned (.tuple #[.int .u8 (Alw a0 a1 a2 a3 a4 a5 a6 st), .int .i64 (Chk a0 a1 a2 a3 a4 a5 a6)]) ∧ Below w.heap.size w w' := by
  have hu23 := Try.underlying23
  go_enter Try.func12, Try.ntmps12
  go_wp2_with (go_at_call 10; refine (ref_Check _ _ _ _ _ _ _ _).mono ?_; rintro e w1 ⟨rfl, hb⟩; obtain ⟨hc, hf⟩ := bcell hb)
  all_goals
    go_ret2
    have hor := Chk_or a0 a1 a2 a3 a4 a5 a6
    have hbel := below_then (below_alloc (Below.refl w.heap.size w) (.cells #[.bool a0, .bool a1, .bool a2, .bool a3, .bool a4, .bool a5, .int .i64 a6] 23)) (by simp) hb
    clear hb hc hf hu23
    refine ⟨ret_two ?_ ?_, hbel⟩
    · first | (simp_all [Alw]; done) | (simp_all [Alw, Chk]; done)
    · first | (simp_all; done) | (simp_all [Chk]; done)
end Go.Proofs.Ytfhiboibfhjmpaa.H
