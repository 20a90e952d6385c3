-- Written by hprint.py, a program of this session's, over the kit's printer.
import Derived.Test.YtpodcbaechlejaaHx0
import Derived.Test.YtpodcbaechlejaaHx1
import Derived.Test.YtpodcbaechlejaaHx2
import Derived.Test.YtpodcbaechlejaaC3
namespace Go.Proofs.Ytpodcbaechlejaa.H
open Go.RowKit Go.Proofs.YtpodcbaechlejaaW.PrintWords Go.Proofs.YtpodcbaechlejaaW.PrintLast Go.Proofs.YtpodcbaechlejaaW.PrintMore
attribute [local go_sem] max2_int min2_int max_two min_two max_three min_three max_four min_four   -- for this text's walks alone
set_option linter.unusedVariables false
set_option linter.unusedSimpArgs false

/-! ### cost_Most: function 17 -/
def cost_Most.f (k : Nat) (a0_0 : Int) (a0_1 : Int) (a0_2 : Int) (a0_3 : Int) (a0_4 : Int) (a0_5 : Int) (a1_0 : Int) (a1_1 : Int) (a1_2 : Int) (a1_3 : Int) : Option (Int × Int) := (cost_asked.f k a0_0 a0_1 a0_2 a0_3 a0_4 a0_5 a1_0 a1_1 a1_2 a1_3).bind fun t => (some ((if t = 0 then mst a0_2 a0_3 a0_4 a0_5 a1_0 a1_1 a1_2 a1_3 else 0), t))
theorem cost_Most.mono : ∀ y0 y1 y2 y3 y4 y5 y6 y7 y8 y9 k, LeO (cost_Most.f k y0 y1 y2 y3 y4 y5 y6 y7 y8 y9) (cost_Most.f (k + 1) y0 y1 y2 y3 y4 y5 y6 y7 y8 y9) := by
  intro y0 y1 y2 y3 y4 y5 y6 y7 y8 y9 k
  unfold cost_Most.f
  exact LeO.bind (cost_asked.mono y0 y1 y2 y3 y4 y5 y6 y7 y8 y9 k) (fun _ => LeO.refl _)
theorem cost_Most.calls (k : Nat) (a0_0 : Int) (a0_1 : Int) (a0_2 : Int) (a0_3 : Int) (a0_4 : Int) (a0_5 : Int) (a1_0 : Int) (a1_1 : Int) (a1_2 : Int) (a1_3 : Int) (r1 : Int) (r2 : Int) (w : World) (h : cost_Most.f k a0_0 a0_1 a0_2 a0_3 a0_4 a0_5 a1_0 a1_1 a1_2 a1_3 = some (r1, r2)) :
    Calls Try.prog 17 #[.agg #[.int .u64 a0_0, .int .u64 a0_1, .int .u64 a0_2, .int .u64 a0_3, .int .u64 a0_4, .int .u64 a0_5], .agg #[.int .i64 a1_0, .int .i64 a1_1, .int .i64 a1_2, .int .i64 a1_3]] w fun e w' => e = .returned (.tuple #[.int .u64 r1, .int .i64 r2]) ∧ Below w.heap.size w w' := by
  unfold cost_Most.f at h
  obtain ⟨t, ht, h2⟩ := Option.bind_eq_some_iff.mp h
  simp only [Option.some.injEq, Prod.mk.injEq] at h2
  obtain ⟨rfl, rfl⟩ := h2
  exact most_any a0_0 a0_1 a0_2 a0_3 a0_4 a0_5 a1_0 a1_1 a1_2 a1_3 t w (fun w => cost_asked.calls k a0_0 a0_1 a0_2 a0_3 a0_4 a0_5 a1_0 a1_1 a1_2 a1_3 t w ht)


/-! ### cofferdamlaw10_up: function 19 -/
def cofferdamlaw10_up.f (a0 : Int) (a1 : Int) (a2 : Int) : Option (Int) := if a0 ≥ a2 then (some a0) else (some (IntKind.u64.wrap (a0 + (mn a1 (IntKind.u64.wrap (a2 - a0))))))
set_option maxHeartbeats 8000000 in
set_option maxRecDepth 100000 in
theorem cofferdamlaw10_up.calls (a0 : Int) (a1 : Int) (a2 : Int) (r : Int) (w : World) (h : cofferdamlaw10_up.f a0 a1 a2 = some r) :
    Calls Try.prog 19 #[.int .u64 a0, .int .u64 a1, .int .u64 a2] w fun e w' => e = .returned (.int .u64 r) ∧ Below w.heap.size w w' := by
  have HB := Aside0.mk (Below.refl w.heap.size w)
  have H : (if a0 ≥ a2 then (some a0) else (some (IntKind.u64.wrap (a0 + (mn a1 (IntKind.u64.wrap (a2 - a0))))))) = some r := h
  clear h
  by_cases c4 : a0 ≥ a2
  · rw [if_pos c4] at H
    have c4b0 : decide (a2 ≤ a0) = true := decide_eq_true c4
    clear c4
    obtain rfl := Option.some.inj H
    go_enter Try.func19, Try.ntmps19
    go_wp2
    go_ret
    exact ⟨by first | rfl | (simp [errW_none, errW_some] <;> rfl) | (simp [*, errW_none, errW_some] <;> rfl), by repeat (first | (with_reducible first | exact HB.out | apply below_alloc | apply pw_below_drewN | apply below_drew1) | exact HB.out)⟩
  · rw [if_neg c4] at H
    have c4b0 : decide (a2 ≤ a0) = false := decide_eq_false c4
    clear c4
    obtain ⟨ji5, hji5⟩ : ∃ j_ : Int, (mn a1 (IntKind.u64.wrap (a2 - a0))) = j_ := ⟨_, rfl⟩
    replace H : (some (IntKind.u64.wrap (a0 + (ji5)))) = some r := by first | (rw [hji5] at H; exact H) | (simp only [hji5] at H ⊢; exact H)
    have hji5_ : (if (IntKind.u64.wrap (a2 - a0)) < a1 then (IntKind.u64.wrap (a2 - a0)) else a1) = ji5 := hji5
    obtain rfl := Option.some.inj H
    go_enter Try.func19, Try.ntmps19
    go_wp2
    go_ret
    exact ⟨by first | rfl | (simp [errW_none, errW_some] <;> rfl) | (simp only [← hji5]; first | rfl | (simp [errW_none, errW_some] <;> rfl)) | (simp [*, errW_none, errW_some] <;> rfl), by repeat (first | (with_reducible first | exact HB.out | apply below_alloc | apply pw_below_drewN | apply below_drew1) | exact HB.out)⟩


end Go.Proofs.Ytpodcbaechlejaa.H
