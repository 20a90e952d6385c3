/- CostWorst: of all costs and shapes and each of 256 kinds, Worst and Most answer as the reference's. -/
import Derived.Test.YtpodcbaechlejaaQ3
namespace Go.Proofs.Ytpodcbaechlejaa.Pure
open Go.RowKit Go.Proofs.Ytpodcbaechlejaa.H Go.Proofs.YtpodcbaechlejaaW.PrintWords Go.Proofs.YtpodcbaechlejaaW.PrintLast
set_option linter.unusedVariables false
theorem cworst_l0 (a b m f st d i u l n : Int) : ∀ (t k j : Nat), j + t = 256 → t + 302 ≤ k → cofferdamlaw10_CostWorst.l0 k (j : Int) a b m f st d i u l n = some true
  | 0, k, j, hj, hk => by
    obtain ⟨k, rfl⟩ : ∃ q, k = q + 1 := ⟨k - 1, by omega⟩
    simp only [cofferdamlaw10_CostWorst.l0]
    rw [if_neg (by omega), cmost_eq k (by omega), rmost_eq k (by omega), works_true k (by omega)]
    simp
  | t + 1, k, j, hj, hk => by
    obtain ⟨k, rfl⟩ : ∃ q, k = q + 1 := ⟨k - 1, by omega⟩
    have ih := cworst_l0 a b m f st d i u l n t k (j + 1) (by omega) (by omega)
    have hw : wrap64 ((j : Int) + 1) = ((j + 1 : Nat) : Int) := by unfold wrap64; omega
    simp only [cofferdamlaw10_CostWorst.l0]
    rw [if_pos (by omega), cworst_eq k (by omega) _ _ _ _ _ _ _ _ _ _ _ (by omega), rworst_eq k (by omega) _ _ _ _ _ _ _ _ _ _ _ (by omega)]
    simp only [Option.bind_some, if_true, hw]
    exact ih
theorem CostWorst : ∀ (a0_0 : Int) (a0_1 : Int) (a0_2 : Int) (a0_3 : Int) (a0_4 : Int) (a0_5 : Int) (a1_0 : Int) (a1_1 : Int) (a1_2 : Int) (a1_3 : Int), (Lit.int .u64 a0_0).wf = true → (Lit.int .u64 a0_1).wf = true → (Lit.int .u64 a0_2).wf = true → (Lit.int .u64 a0_3).wf = true → (Lit.int .u64 a0_4).wf = true → (Lit.int .u64 a0_5).wf = true → (Lit.int .i64 a1_0).wf = true → (Lit.int .i64 a1_1).wf = true → (Lit.int .i64 a1_2).wf = true → (Lit.int .i64 a1_3).wf = true → ∃ k, cofferdamlaw10_CostWorst.f k a0_0 a0_1 a0_2 a0_3 a0_4 a0_5 a1_0 a1_1 a1_2 a1_3 = some true := by
  intro a b m f st d i u l n _ _ _ _ _ _ _ _ _ _
  exact ⟨600, cworst_l0 a b m f st d i u l n 256 600 0 (by omega) (by omega)⟩
end Go.Proofs.Ytpodcbaechlejaa.Pure
