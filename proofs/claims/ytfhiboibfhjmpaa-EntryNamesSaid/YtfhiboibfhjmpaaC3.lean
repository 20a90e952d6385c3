/- Contract of the reference's Make: it comes to the same as entry.Make. -/
import Derived.Test.YtfhiboibfhjmpaaC2
namespace Go.Proofs.Ytfhiboibfhjmpaa.H
open Go.RowKit Go.Proofs.YtfhiboibfhjmpaaW.PrintWords Go.Proofs.YtfhiboibfhjmpaaW.PrintLast Go.Proofs.YtfhiboibfhjmpaaW.PrintMore
set_option linter.unusedVariables false
set_option linter.unusedSimpArgs false
theorem bit_q (b : Bool) (n : Int) (w : World) (h0 : 0 ≤ n) (h1 : n ≤ 5) : Calls Try.prog 16 #[.bool b, .int .u64 n] w fun e w' => e = .returned (.int .u64 (bt b (2 ^ n.toNat))) ∧ w' = w := by
  have hk5 : n = 0 ∨ n = 1 ∨ n = 2 ∨ n = 3 ∨ n = 4 ∨ n = 5 := by omega
  rcases hk5 with rfl | rfl | rfl | rfl | rfl | rfl <;> cases b <;> (go_enter Try.func16, Try.ntmps16; go_wp2; go_ret; exact ⟨by simp [bt], rfl⟩)
set_option maxHeartbeats 4000000 in
set_option maxRecDepth 100000 in
theorem ref_Make (a0 a1 a2 a3 a4 a5 : Bool) (a6 : Int) (w : World) :
    Calls Try.prog 8 #[.agg #[.bool a0, .bool a1, .bool a2, .bool a3, .bool a4, .bool a5, .int .i64 a6]] w fun e w' => e = .returned (.tuple #[.int .u64 (Mk a0 a1 a2 a3 a4 a5 a6), .int .i64 (Chk a0 a1 a2 a3 a4 a5 a6)]) ∧ Below w.heap.size w w' := by
  have hu23 := Try.underlying23
  by_cases hz : Chk a0 a1 a2 a3 a4 a5 a6 = 0
  · have hm : Mk a0 a1 a2 a3 a4 a5 a6 = a6 * 256 + part a0 a1 a2 a3 a4 a5 6 := by unfold Mk; rw [if_pos hz]
    obtain ⟨ra, rb⟩ := Chk_range hz
    rw [hz, hm]
    have hz' := Aside0.mk hz
    clear hz hm
    go_enter Try.func8, Try.ntmps8
    go_wp2_with (first | (go_at_call 10; refine (ref_Check _ _ _ _ _ _ _ _).mono ?_; rintro e w1 ⟨rfl, hb⟩; rw [hz'.out]; obtain ⟨hc, hf⟩ := bcell hb))
    have c0 : w1.cell? ⟨w.heap.size, 0, none⟩ = some (.bool a0) := by rw [hc _ _ (by simp)]; simp
    have c1 : w1.cell? ⟨w.heap.size, 1, none⟩ = some (.bool a1) := by rw [hc _ _ (by simp)]; simp
    have c2 : w1.cell? ⟨w.heap.size, 2, none⟩ = some (.bool a2) := by rw [hc _ _ (by simp)]; simp
    have c3 : w1.cell? ⟨w.heap.size, 3, none⟩ = some (.bool a3) := by rw [hc _ _ (by simp)]; simp
    have c4 : w1.cell? ⟨w.heap.size, 4, none⟩ = some (.bool a4) := by rw [hc _ _ (by simp)]; simp
    have c5 : w1.cell? ⟨w.heap.size, 5, none⟩ = some (.bool a5) := by rw [hc _ _ (by simp)]; simp
    have c6 : w1.cell? ⟨w.heap.size, 6, none⟩ = some (.int .i64 a6) := by rw [hc _ _ (by simp)]; simp
    have hbel := Aside0.mk (below_then (below_alloc (Below.refl w.heap.size w) (.cells #[.bool a0, .bool a1, .bool a2, .bool a3, .bool a4, .bool a5, .int .i64 a6] 23)) (by simp) hb)
    clear hb hc hf hu23
    go_quiet ((go_at_call 16; exact Calls.quiet_of_same (bit_q _ _ _ (by omega) (by omega))))
    go_wp2
    go_ret2
    refine ⟨?_, below_then hbel.out (by have := hbel.out.size; simpa using this) (pw_below_drewN (Below.refl _ _) _)⟩
    have b0 := bt_le a0 (v := 1) (by omega)
    have b1 := bt_le a1 (v := 2) (by omega)
    have b2 := bt_le a2 (v := 4) (by omega)
    have b3 := bt_le a3 (v := 8) (by omega)
    have b4 := bt_le a4 (v := 16) (by omega)
    have b5 := bt_le a5 (v := 32) (by omega)
    have key : IntKind.u64.wrap (IntKind.u64.wrap (IntKind.u64.wrap (IntKind.u64.wrap (IntKind.u64.wrap (IntKind.u64.wrap (bt a0 1 + bt a1 2) + bt a2 4) + bt a3 8) + bt a4 16) + bt a5 32) + a6 * 256) = a6 * 256 + part a0 a1 a2 a3 a4 a5 6 := by
      simp only [IntKind.wrap_u64, part]; omega
    exact congrArg (fun x => Ending.returned (.tuple #[.int .u64 x, .int .i64 0])) key
  · have hm : Mk a0 a1 a2 a3 a4 a5 a6 = 0 := by unfold Mk; rw [if_neg hz]
    have hb : (Chk a0 a1 a2 a3 a4 a5 a6 != 0) = true := by rw [bne_iff_ne]; exact hz
    have h70 : Chk a0 a1 a2 a3 a4 a5 a6 = 70 := (Chk_or a0 a1 a2 a3 a4 a5 a6).resolve_left hz
    rw [hm]
    have h70 := Aside0.mk h70
    clear hm hz
    go_enter Try.func8, Try.ntmps8
    go_wp2_with (go_at_call 10; refine (ref_Check _ _ _ _ _ _ _ _).mono ?_; rintro e w1 ⟨rfl, hb⟩; obtain ⟨hc, hf⟩ := bcell hb)
    go_ret2
    exact ⟨by rw [h70.out]; rfl, below_then (below_alloc (Below.refl w.heap.size w) _) (by simp) (by assumption)⟩
end Go.Proofs.Ytfhiboibfhjmpaa.H
