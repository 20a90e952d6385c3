/- Plain laws on the bits of a word: which words Read refuses. -/
import Derived.Test.YtfhiboibfhjmpaaC5
namespace Go.Proofs.Ytfhiboibfhjmpaa.H
open Go.RowKit Go.Proofs.YtfhiboibfhjmpaaW.PrintWords Go.Proofs.YtfhiboibfhjmpaaW.PrintLast Go.Proofs.YtfhiboibfhjmpaaW.PrintMore
set_option linter.unusedVariables false
set_option linter.unusedSimpArgs false
theorem mask_nat (n : Nat) (h : n < 18446744073709551616) : (n &&& 18446744073708503232 = 0) ↔ (n / 256 ≤ 4095 ∧ n % 256 ≤ 63) := by
  have e : (18446744073708503232 : Nat) = 64 ||| (128 ||| (17592186044415 <<< 20)) := by decide
  rw [e, Nat.and_or_distrib_left, Nat.and_or_distrib_left, Nat.or_eq_zero_iff, Nat.or_eq_zero_iff]
  have h6 : n &&& 64 = n / 64 % 2 * 64 := nat_bit 6 n
  have h7 : n &&& 128 = n / 128 % 2 * 128 := nat_bit 7 n
  rw [h6, h7]
  have k : n &&& (17592186044415 <<< 20) = 0 ↔ n < 1048576 := by
    constructor
    · intro hz
      have h1 : (n &&& (17592186044415 <<< 20)) >>> 20 = 0 := by rw [hz]; rfl
      rw [Nat.shiftRight_and_distrib] at h1
      have h2 : (17592186044415 <<< 20) >>> 20 = 2 ^ 44 - 1 := by decide
      rw [h2, Nat.and_two_pow_sub_one_eq_mod, Nat.shiftRight_eq_div_pow] at h1
      have : n / 2 ^ 20 < 2 ^ 44 := by omega
      rw [Nat.mod_eq_of_lt this] at h1
      omega
    · intro hn
      have h1 : n &&& (17592186044415 <<< 20) ≤ n := Nat.and_le_left
      have h2 : (n &&& (17592186044415 <<< 20)) % 2 ^ 20 = 0 := by
        rw [Nat.and_mod_two_pow]
        have : (17592186044415 <<< 20) % 2 ^ 20 = 0 := by decide
        rw [this, Nat.and_zero]
      omega
  rw [k]
  omega
theorem mask_int (x : Int) (h0 : 0 ≤ x) (h1 : x < 18446744073709551616) : (bits .andNot .u64 x 1048383 != 0) = decide (4095 < x / 256 ∨ 63 < x % 256) := by
  obtain ⟨n, rfl⟩ := Int.eq_ofNat_of_zero_le h0
  have k := mask_nat n (by omega)
  rw [u64_andNot _ _ h0 h1 (by omega) (by omega)]
  have e : (18446744073709551615 - Int.toNat 1048383) = 18446744073708503232 := by decide
  rw [e, Int.toNat_natCast, Bool.eq_iff_iff]
  by_cases c : n &&& 18446744073708503232 = 0
  · rw [c]
    have := k.1 c
    simp
    omega
  · have : ¬ (n / 256 ≤ 4095 ∧ n % 256 ≤ 63) := fun z => c (k.2 z)
    have hne : (((n &&& 18446744073708503232 : Nat) : Int) != 0) = true := by rw [bne_iff_ne]; omega
    rw [hne]
    simp
    omega
end Go.Proofs.Ytfhiboibfhjmpaa.H
