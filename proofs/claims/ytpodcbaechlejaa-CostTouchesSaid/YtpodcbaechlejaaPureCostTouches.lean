/- CostTouches: of all costs, touches, lines and translations, Check, Touch and Switch answer as the reference does. -/
import Derived.Test.YtpodcbaechlejaaQ1
namespace Go.Proofs.Ytpodcbaechlejaa.Pure
open Go.RowKit Go.Proofs.Ytpodcbaechlejaa.H Go.Proofs.YtpodcbaechlejaaW.PrintWords Go.Proofs.YtpodcbaechlejaaW.PrintLast Go.Proofs.YtpodcbaechlejaaW.PrintMore
set_option linter.unusedVariables false
set_option linter.unusedSimpArgs false
theorem touch_same (k : Nat) (hk : 10 ≤ k) (a b c d e f : Int) (p q : Bool) : ∃ r, cost_Touch.f k a b c d e f p q = some r ∧ cofferdamref10_Touch.f a b c d e f p q = some r := by
  unfold cost_Touch.f cofferdamref10_Touch.f
  rw [check_eq k hk, rcheck_eq]
  simp only [Option.bind_some]
  by_cases h : okc a b c d e f
  · simp only [if_pos h, if_true]
    cases p <;> cases q <;> exact ⟨_, rfl, rfl⟩
  · simp only [if_neg h, Bool.false_eq_true, if_false]
    exact ⟨_, rfl, rfl⟩
theorem switch_same (k : Nat) (hk : 10 ≤ k) (a b c d e f x y : Int) : ∃ r, cost_Switch.f k a b c d e f x y = some r ∧ cofferdamref10_Switch.f a b c d e f x y = some r := by
  unfold cost_Switch.f cofferdamref10_Switch.f
  rw [check_eq k hk, rcheck_eq]
  simp only [Option.bind_some]
  by_cases h : okc a b c d e f
  · simp only [if_pos h, if_true]
    have hw : ∀ u v z : Int, ∃ t, cost_within.f u v z = some t ∧ cofferdamref01_Within.f u v z = some t := by
      intro u v z
      unfold cost_within.f cofferdamref01_Within.f
      split <;> exact ⟨_, rfl, rfl⟩
    obtain ⟨t, h1, h2⟩ := hw x 0 65536
    obtain ⟨s, h3, h4⟩ := hw y 0 64
    rw [h1, h2]
    simp only [Option.bind_some]
    cases t
    · exact ⟨_, rfl, rfl⟩
    · simp only [if_true, h3, h4]
      cases s <;> exact ⟨_, rfl, rfl⟩
  · simp only [if_neg h, Bool.false_eq_true, if_false]
    exact ⟨_, rfl, rfl⟩
theorem touches_l0 (x y a b c d e f : Int) (n : Nat) : ∀ (k : Nat) (i : Int), 0 ≤ i → i ≤ 4 → 4 - i = n → n + 13 ≤ k → cofferdamlaw10_CostTouches.l0 k x y i a b c d e f = some true := by
  induction n with
  | zero =>
    intro k i h0 h1 hd hk
    obtain ⟨k, rfl⟩ : ∃ m, k = m + 1 := ⟨k - 1, by omega⟩
    obtain ⟨r, e1, e2⟩ := switch_same k (by omega) a b c d e f x y
    simp only [cofferdamlaw10_CostTouches.l0]
    rw [if_neg (by omega), e1, e2, works_true k (by omega)]
    simp
  | succ n ih =>
    intro k i h0 h1 hd hk
    obtain ⟨k, rfl⟩ : ∃ m, k = m + 1 := ⟨k - 1, by omega⟩
    have hw : wrap64 (i + 1) = i + 1 := by unfold wrap64; omega
    obtain ⟨r, e1, e2⟩ := touch_same k (by omega) a b c d e f (Int.tmod i 2 == 1) (decide (i > 1))
    simp only [cofferdamlaw10_CostTouches.l0]
    rw [if_pos (by omega), e1, e2, hw]
    simp only [Option.bind_some, if_true]
    exact ih k (i + 1) (by omega) (by omega) (by omega) (by omega)
theorem CostTouches : ∀ (a0_0 : Int) (a0_1 : Int) (a0_2 : Int) (a0_3 : Int) (a0_4 : Int) (a0_5 : Int) (a1 : Int) (a2 : Int), (Lit.int .u64 a0_0).wf = true → (Lit.int .u64 a0_1).wf = true → (Lit.int .u64 a0_2).wf = true → (Lit.int .u64 a0_3).wf = true → (Lit.int .u64 a0_4).wf = true → (Lit.int .u64 a0_5).wf = true → (Lit.int .i64 a1).wf = true → (Lit.int .i64 a2).wf = true → ∃ k, cofferdamlaw10_CostTouches.f k a0_0 a0_1 a0_2 a0_3 a0_4 a0_5 a1 a2 = some true := by
  intro a b c d e f x y _ _ _ _ _ _ _ _
  refine ⟨20, ?_⟩
  unfold cofferdamlaw10_CostTouches.f
  rw [check_eq 20 (by decide), rcheck_eq]
  simp only [Option.bind_some, if_true]
  exact touches_l0 x y a b c d e f 4 20 0 (by omega) (by omega) (by omega) (by omega)
end Go.Proofs.Ytpodcbaechlejaa.Pure
