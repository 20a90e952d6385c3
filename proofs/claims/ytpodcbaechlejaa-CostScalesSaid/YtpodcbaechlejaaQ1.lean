/- Plain laws of chapter 10: when costs and shapes may be; what each kind costs at most; all below 2^40. -/
import Derived.Test.YtpodcbaechlejaaHx2
namespace Go.Proofs.Ytpodcbaechlejaa.Pure
open Go.RowKit Go.Proofs.Ytpodcbaechlejaa.H Go.Proofs.YtpodcbaechlejaaW.PrintWords Go.Proofs.YtpodcbaechlejaaW.PrintLast Go.Proofs.YtpodcbaechlejaaW.PrintMore
set_option linter.unusedVariables false
set_option linter.unusedSimpArgs false
abbrev okc (c0 c1 c2 c3 c4 c5 : Int) : Prop := 1 ≤ c0 ∧ c0 ≤ c1 ∧ c1 ≤ c2 ∧ c2 ≤ 65536 ∧ (1 ≤ c3 ∧ c3 ≤ 65536) ∧ (1 ≤ c4 ∧ c4 ≤ 65536) ∧ (1 ≤ c5 ∧ c5 ≤ 65536)
abbrev oks (s0 s1 s2 s3 : Int) : Prop := (s0 = 1 ∨ s0 = 2 ∨ s0 = 4 ∨ s0 = 8) ∧ (2 ≤ s1 ∧ s1 ≤ 4096) ∧ (1 ≤ s2 ∧ s2 ≤ 5120) ∧ (1 ≤ s3 ∧ s3 ≤ 4096)
theorem w1 : wrap64 1 = 1 := by unfold wrap64; decide
theorem w2 : wrap64 2 = 2 := by unfold wrap64; decide
theorem w3 : wrap64 3 = 3 := by unfold wrap64; decide
theorem w4 : wrap64 4 = 4 := by unfold wrap64; decide
theorem check_l1 (m : Nat) (d e f : Int) : cost_Check.l1 (m + 4) [d, e, f] 3 0 = some (if (1 ≤ d ∧ d ≤ 65536) ∧ (1 ≤ e ∧ e ≤ 65536) ∧ (1 ≤ f ∧ f ≤ 65536) then 0 else 100) := by
  simp [cost_Check.l1, rd, w1, w2, w3]
  repeat' split
  all_goals first | rfl | omega
theorem check_eq (k : Nat) (hk : 10 ≤ k) (a b c d e f : Int) : cost_Check.f k a b c d e f = some (if okc a b c d e f then 0 else 100) := by
  obtain ⟨m, rfl⟩ : ∃ m, k = m + 10 := ⟨k - 10, by omega⟩
  have hl := check_l1 (m + 2) d e f
  simp only [show m + 2 + 4 = m + 6 from rfl] at hl
  simp [cost_Check.f, cost_Check.l0, rd, w1, w2, w3, hl]
  unfold okc
  repeat' split
  all_goals first | rfl | omega | (rw [if_pos (by omega)]) | (rw [if_neg (by omega)])
theorem rcheck_eq (a b c d e f : Int) : cofferdamref10_Check.f a b c d e f = some (if okc a b c d e f then 0 else 100) := by
  unfold okc
  simp only [cofferdamref10_Check.f, cofferdamref10_one.f]
  by_cases h0 : a ≥ 1
  · by_cases h1 : a ≤ 65536 <;> by_cases h2 : b ≥ 1 <;> by_cases h3 : b ≤ 65536 <;> by_cases h4 : c ≥ 1 <;> by_cases h5 : c ≤ 65536 <;> simp [h0, h1, h2, h3, h4, h5] <;> (repeat' split) <;> (first | rfl | omega | (simp_all; try omega))
  · simp [h0]
theorem shl0 : shl .i64 1 0 = 1 := by kernel_rfl
theorem shl1 : shl .i64 1 1 = 2 := by kernel_rfl
theorem shl2 : shl .i64 1 2 = 4 := by kernel_rfl
theorem shl3 : shl .i64 1 3 = 8 := by kernel_rfl
theorem asked_l0 (m : Nat) (s0 s1 s2 s3 : Int) : cost_asked.l0 (m + 5) false 0 s0 s1 s2 s3 = some (if oks s0 s1 s2 s3 then 0 else 2) := by
  unfold oks
  by_cases h1 : s0 = 1
  · subst h1
    simp [cost_asked.l0, cost_within.f, w1, w2, w3, w4, shl0, shl1, shl2, shl3]
    repeat' split
    all_goals first | rfl | omega | (simp_all; try omega)
  · by_cases h2 : s0 = 2
    · subst h2
      simp [cost_asked.l0, cost_within.f, w1, w2, w3, w4, shl0, shl1, shl2, shl3]
      repeat' split
      all_goals first | rfl | omega | (simp_all; try omega)
    · by_cases h4 : s0 = 4
      · subst h4
        simp [cost_asked.l0, cost_within.f, w1, w2, w3, w4, shl0, shl1, shl2, shl3]
        repeat' split
        all_goals first | rfl | omega | (simp_all; try omega)
      · by_cases h8 : s0 = 8
        · subst h8
          simp [cost_asked.l0, cost_within.f, w1, w2, w3, w4, shl0, shl1, shl2, shl3]
          repeat' split
          all_goals first | rfl | omega | (simp_all; try omega)
        · simp [cost_asked.l0, cost_within.f, w1, w2, w3, w4, shl0, shl1, shl2, shl3, h1, h2, h4, h8]
theorem asked_eq (k : Nat) (hk : 10 ≤ k) (a b c d e f s0 s1 s2 s3 : Int) : cost_asked.f k a b c d e f s0 s1 s2 s3 = some (if okc a b c d e f then (if oks s0 s1 s2 s3 then 0 else 2) else 100) := by
  unfold cost_asked.f
  rw [check_eq k hk]
  simp only [Option.bind_some]
  by_cases h : okc a b c d e f
  · rw [if_pos h, if_pos h, if_pos rfl]
    obtain ⟨m, rfl⟩ : ∃ m, k = m + 5 := ⟨k - 5, by omega⟩
    exact asked_l0 m s0 s1 s2 s3
  · rw [if_neg h, if_neg h, if_neg (by decide)]
theorem wrap_in {x : Int} (h0 : 0 ≤ x) (h1 : x < 18446744073709551616) : IntKind.u64.wrap x = x := by rw [IntKind.wrap_u64]; omega
theorem wrap_two (x : Int) : IntKind.u64.wrap (IntKind.u64.wrap x + 0) = IntKind.u64.wrap x := by rw [IntKind.wrap_u64, IntKind.wrap_u64]; omega
theorem works_true (k : Nat) (hk : 12 ≤ k) : cofferdamlaw10_works.f k = some true :=
  at_rounds (cofferdamlaw10_works.mono) hk (show cofferdamlaw10_works.f 12 = some true by kernel_rfl)
end Go.Proofs.Ytpodcbaechlejaa.Pure
