/- Plain laws of chapter 8: what Of, Index, Frame, Set, Owner come to. -/
import Derived.Test.YtkihoeacojcdlaaHx1
namespace Go.Proofs.Ytkihoeacojcdlaa.Pure
open Go.RowKit Go.Proofs.Ytkihoeacojcdlaa.H Go.Proofs.YtkihoeacojcdlaaW.PrintWords Go.Proofs.YtkihoeacojcdlaaW.PrintLast

set_option linter.unusedVariables false
theorem works_true (k : Nat) (hk : 7 ≤ k) : cofferdamlaw08_works.f k = some true :=
  at_rounds (cofferdamlaw08_works.mono) hk (show cofferdamlaw08_works.f 7 = some true by kernel_rfl)
theorem may_eq (n : Int) : colour_may.f n = some (decide (1 ≤ n ∧ n ≤ 16)) := by
  unfold colour_may.f colour_within.f
  by_cases h : n ≥ 1
  · rw [if_pos h]; simp; omega
  · rw [if_neg h]; simp; omega
theorem within_eq (a b c : Int) : colour_within.f a b c = some (decide (b ≤ a ∧ a ≤ c)) := by
  unfold colour_within.f
  by_cases h : a ≥ b
  · rw [if_pos h]; simp; omega
  · rw [if_neg h]; simp; omega
theorem wrap64_in {x : Int} (h0 : -9223372036854775808 ≤ x) (h1 : x ≤ 9223372036854775807) : wrap64 x = x := by unfold wrap64; omega
theorem set_eq (a n : Int) (h0 : 0 ≤ a) : colour_Set.f a n = if 1048576 ≤ a then some (0, 10) else if 1 ≤ n ∧ n ≤ 16 then some (a / 256 % n * 16 + a % 256 / 16, 0) else some (0, 2) := by
  unfold colour_Set.f
  by_cases h : a ≥ 1048576
  · rw [if_pos h, if_pos h]
  · rw [if_neg h, if_neg h, may_eq]
    by_cases hn : 1 ≤ n ∧ n ≤ 16
    · rw [if_pos hn, decide_eq_true hn]
      simp only [Option.bind_some, if_true]
      rw [if_neg (by omega)]
      have e1 : IntKind.u64.wrap (Int.tdiv a 256) = a / 256 := by rw [Int.tdiv_eq_ediv_of_nonneg h0, IntKind.wrap_u64]; omega
      have e2 : IntKind.u64.wrap (Int.tdiv (Int.tmod a 256) 16) = a % 256 / 16 := by rw [Int.tmod_eq_emod_of_nonneg h0, Int.tdiv_eq_ediv_of_nonneg (by omega), IntKind.wrap_u64]; omega
      have q0 := Int.emod_nonneg (a / 256) (show n ≠ 0 by omega)
      have q1 := Int.emod_lt_of_pos (a / 256) (show 0 < n by omega)
      rw [e1, e2, wrap64_in (x := a / 256) (by omega) (by omega), Int.tmod_eq_emod_of_nonneg (by omega), wrap64_in (x := a / 256 % n * 16) (by omega) (by omega), wrap64_in (x := a % 256 / 16) (by omega) (by omega), wrap64_in (by omega) (by omega)]
    · rw [if_neg hn, decide_eq_false hn]
      simp
theorem owner_eq (s n : Int) (h0 : -9223372036854775808 ≤ s) (h1 : s ≤ 9223372036854775807) : colour_Owner.f s n = if (1 ≤ n ∧ n ≤ 16) ∧ 0 ≤ s ∧ s ≤ n * 16 - 1 then some (s / 16, 0) else some (0, 2) := by
  unfold colour_Owner.f
  rw [may_eq]
  by_cases hn : 1 ≤ n ∧ n ≤ 16
  · rw [decide_eq_true hn]
    simp only [Option.bind_some, if_true]
    rw [wrap64_in (x := n * 16) (by omega) (by omega), wrap64_in (x := n * 16 - 1) (by omega) (by omega), within_eq]
    by_cases hs : 0 ≤ s ∧ s ≤ n * 16 - 1
    · rw [decide_eq_true hs, if_pos ⟨hn, hs⟩]
      simp only [Option.bind_some, if_true]
      rw [Int.tdiv_eq_ediv_of_nonneg hs.1, wrap64_in (by omega) (by omega)]
    · rw [decide_eq_false hs, if_neg (fun h => hs h.2)]
      simp
  · rw [decide_eq_false hn, if_neg (fun h => hn h.1)]
    simp
theorem of_eq (a n : Int) : colour_Of.f a n = if (0 ≤ a ∧ a ≤ 4095) ∧ 1 ≤ n ∧ n ≤ 16 then some (a % n, 0) else some (0, 2) := by
  unfold colour_Of.f
  rw [within_eq, may_eq]
  by_cases ha : 0 ≤ a ∧ a ≤ 4095
  · rw [decide_eq_true ha]
    simp only [Option.bind_some, if_true]
    by_cases hn : 1 ≤ n ∧ n ≤ 16
    · have hR : (if (0 ≤ a ∧ a ≤ 4095) ∧ 1 ≤ n ∧ n ≤ 16 then some (a % n, (0 : Int)) else some (0, 2)) = some (a % n, 0) := if_pos ⟨ha, hn⟩
      rw [decide_eq_true hn, hR]
      simp only [if_true]
      rw [if_neg (by omega), Int.tmod_eq_emod_of_nonneg ha.1]
    · have hR : (if (0 ≤ a ∧ a ≤ 4095) ∧ 1 ≤ n ∧ n ≤ 16 then some (a % n, (0 : Int)) else some (0, 2)) = some (0, 2) := if_neg (fun h => hn h.2)
      rw [decide_eq_false hn, hR]
      simp
  · have hR : (if (0 ≤ a ∧ a ≤ 4095) ∧ 1 ≤ n ∧ n ≤ 16 then some (a % n, (0 : Int)) else some (0, 2)) = some (0, 2) := if_neg (fun h => ha h.1)
    rw [decide_eq_false ha, hR]
    simp
theorem div_bd (a n : Int) (h0 : 0 ≤ a) (hn : 1 ≤ n) : 0 ≤ a / n ∧ a / n ≤ a := by
  exact ⟨Int.ediv_nonneg h0 (by omega), Int.ediv_le_self n h0⟩
theorem frame_eq (c i n : Int) (h0 : -9223372036854775808 ≤ i) (h1 : i ≤ 9223372036854775807) : colour_Frame.f c i n = if (1 ≤ n ∧ n ≤ 16) ∧ (0 ≤ c ∧ c ≤ n - 1) ∧ 0 ≤ i ∧ i * n + c ≤ 4095 then some (i * n + c, 0) else some (0, 2) := by
  unfold colour_Frame.f
  rw [may_eq]
  by_cases hn : 1 ≤ n ∧ n ≤ 16
  · rw [decide_eq_true hn]
    simp only [Option.bind_some, if_true]
    rw [wrap64_in (x := n - 1) (by omega) (by omega), within_eq]
    by_cases hc : 0 ≤ c ∧ c ≤ n - 1
    · rw [decide_eq_true hc]
      simp only [Option.bind_some, if_true]
      rw [if_neg (by omega), wrap64_in (x := 4095 - c) (by omega) (by omega), Int.tdiv_eq_ediv_of_nonneg (by omega)]
      have hd := div_bd (4095 - c) n (by omega) hn.1
      rw [wrap64_in (x := (4095 - c) / n) (by omega) (by omega), within_eq]
      have hle : i ≤ (4095 - c) / n ↔ i * n + c ≤ 4095 := by
        rw [Int.le_ediv_iff_mul_le (by omega)]; omega
      by_cases hi : 0 ≤ i ∧ i ≤ (4095 - c) / n
      · have hi2 : i * n + c ≤ 4095 := hle.1 hi.2
        have hp : 0 ≤ i * n := Int.mul_nonneg hi.1 (by omega)
        have hR : (if (1 ≤ n ∧ n ≤ 16) ∧ (0 ≤ c ∧ c ≤ n - 1) ∧ 0 ≤ i ∧ i * n + c ≤ 4095 then some (i * n + c, (0 : Int)) else some (0, 2)) = some (i * n + c, 0) := if_pos ⟨hn, hc, hi.1, hi2⟩
        rw [decide_eq_true hi, hR]
        simp only [Option.bind_some, if_true]
        rw [wrap64_in (x := i * n) (by omega) (by omega), wrap64_in (by omega) (by omega)]
      · have hR : (if (1 ≤ n ∧ n ≤ 16) ∧ (0 ≤ c ∧ c ≤ n - 1) ∧ 0 ≤ i ∧ i * n + c ≤ 4095 then some (i * n + c, (0 : Int)) else some (0, 2)) = some (0, 2) := if_neg (fun h => hi ⟨h.2.2.1, hle.2 h.2.2.2⟩)
        rw [decide_eq_false hi, hR]
        simp
    · have hR : (if (1 ≤ n ∧ n ≤ 16) ∧ (0 ≤ c ∧ c ≤ n - 1) ∧ 0 ≤ i ∧ i * n + c ≤ 4095 then some (i * n + c, (0 : Int)) else some (0, 2)) = some (0, 2) := if_neg (fun h => hc h.2.1)
      rw [decide_eq_false hc, hR]
      simp
  · have hR : (if (1 ≤ n ∧ n ≤ 16) ∧ (0 ≤ c ∧ c ≤ n - 1) ∧ 0 ≤ i ∧ i * n + c ≤ 4095 then some (i * n + c, (0 : Int)) else some (0, 2)) = some (0, 2) := if_neg (fun h => hn h.1)
    rw [decide_eq_false hn, hR]
    simp
end Go.Proofs.Ytkihoeacojcdlaa.Pure
