/- Plain laws of chapter 7: bits of words, there and back; the self-test 'awake' comes to true. -/
import Derived.Test.YtfhiboibfhjmpaaHx3
namespace Go.Proofs.Ytfhiboibfhjmpaa.Pure
open Go.RowKit Go.Proofs.Ytfhiboibfhjmpaa.H Go.Proofs.YtfhiboibfhjmpaaW.PrintWords Go.Proofs.YtfhiboibfhjmpaaW.PrintLast
theorem hb_bit (x : Int) (i : Nat) (hi : i ≤ 5) (h0 : 0 ≤ x) (h1 : x < 18446744073709551616) : hb x ((2 ^ i : Nat) : Int) = decide (x / ((2 ^ i : Nat) : Int) % 2 = 1) := by
  obtain ⟨n, rfl⟩ := Int.eq_ofNat_of_zero_le h0
  have hp : 2 ^ i ≤ 32 := Nat.pow_le_pow_right (n := 2) (by decide) hi
  have hq : 0 < 2 ^ i := Nat.pow_pos (by decide)
  unfold hb
  rw [u64_and_nat n (2 ^ i) (by omega) (by omega), nat_bit]
  generalize 2 ^ i = m at *
  have hm : n / m % 2 = 0 ∨ n / m % 2 = 1 := by omega
  have e : ((n : Int) / (m : Int)) = ((n / m : Nat) : Int) := by simp
  rw [e]
  rcases hm with hm | hm
  · rw [hm]; simp; omega
  · rw [hm]; simp; omega
theorem hb1 (x : Int) (h0 : 0 ≤ x) (h1 : x < 18446744073709551616) : hb x 1 = decide (x % 2 = 1) := by have := hb_bit x 0 (by omega) h0 h1; simpa using this
theorem hb2 (x : Int) (h0 : 0 ≤ x) (h1 : x < 18446744073709551616) : hb x 2 = decide (x / 2 % 2 = 1) := by have := hb_bit x 1 (by omega) h0 h1; simpa using this
theorem hb4 (x : Int) (h0 : 0 ≤ x) (h1 : x < 18446744073709551616) : hb x 4 = decide (x / 4 % 2 = 1) := by have := hb_bit x 2 (by omega) h0 h1; simpa using this
theorem hb8 (x : Int) (h0 : 0 ≤ x) (h1 : x < 18446744073709551616) : hb x 8 = decide (x / 8 % 2 = 1) := by have := hb_bit x 3 (by omega) h0 h1; simpa using this
theorem hb16 (x : Int) (h0 : 0 ≤ x) (h1 : x < 18446744073709551616) : hb x 16 = decide (x / 16 % 2 = 1) := by have := hb_bit x 4 (by omega) h0 h1; simpa using this
theorem hb32 (x : Int) (h0 : 0 ≤ x) (h1 : x < 18446744073709551616) : hb x 32 = decide (x / 32 % 2 = 1) := by have := hb_bit x 5 (by omega) h0 h1; simpa using this
theorem bt_dec (p : Prop) [Decidable p] (v : Int) : H.bt (decide p) v = if p then v else 0 := by unfold H.bt; by_cases h : p <;> simp [h]
theorem back_word {x : Int} (h0 : 0 ≤ x) (h1 : x < 18446744073709551616) (hz : rdE x = 0) : Mk (rdB x 1) (rdB x 2) (rdB x 4) (rdB x 8) (rdB x 16) (rdB x 32) (rdA x) = x ∧ Chk (rdB x 1) (rdB x 2) (rdB x 4) (rdB x 8) (rdB x 16) (rdB x 32) (rdA x) = 0 := by
  obtain ⟨hA, hB, hC, s, t⟩ := rd_ok hz
  rw [s, s, s, s, s, s, t]
  refine ⟨?_, hC⟩
  unfold Mk
  rw [if_pos hC]
  simp only [H.part, hb1 x h0 h1, hb2 x h0 h1, hb4 x h0 h1, hb8 x h0 h1, hb16 x h0 h1, hb32 x h0 h1, bt_dec]
  clear hC s t hz
  have e1 : (if x % 2 = 1 then (1 : Int) else 0) = x % 2 := by split <;> omega
  have e2 : (if x / 2 % 2 = 1 then (2 : Int) else 0) = x / 2 % 2 * 2 := by split <;> omega
  have e3 : (if x / 4 % 2 = 1 then (4 : Int) else 0) = x / 4 % 2 * 4 := by split <;> omega
  have e4 : (if x / 8 % 2 = 1 then (8 : Int) else 0) = x / 8 % 2 * 8 := by split <;> omega
  have e5 : (if x / 16 % 2 = 1 then (16 : Int) else 0) = x / 16 % 2 * 16 := by split <;> omega
  have e6 : (if x / 32 % 2 = 1 then (32 : Int) else 0) = x / 32 % 2 * 32 := by split <;> omega
  rw [e1, e2, e3, e4, e5, e6]
  omega
theorem part_range (a0 a1 a2 a3 a4 a5 : Bool) : 0 ≤ H.part a0 a1 a2 a3 a4 a5 6 ∧ H.part a0 a1 a2 a3 a4 a5 6 ≤ 63 := by
  cases a0 <;> cases a1 <;> cases a2 <;> cases a3 <;> cases a4 <;> cases a5 <;> decide
theorem mk_range (a0 a1 a2 a3 a4 a5 : Bool) (a6 : Int) : 0 ≤ Mk a0 a1 a2 a3 a4 a5 a6 ∧ Mk a0 a1 a2 a3 a4 a5 a6 < 18446744073709551616 := by
  unfold Mk
  by_cases h : Chk a0 a1 a2 a3 a4 a5 a6 = 0
  · rw [if_pos h]
    have := Chk_range h
    have := part_range a0 a1 a2 a3 a4 a5
    omega
  · rw [if_neg h]; omega
theorem back_entry {a0 a1 a2 a3 a4 a5 : Bool} {a6 : Int} (hz : Chk a0 a1 a2 a3 a4 a5 a6 = 0) : rdE (Mk a0 a1 a2 a3 a4 a5 a6) = 0 ∧ rdB (Mk a0 a1 a2 a3 a4 a5 a6) 1 = a0 ∧ rdB (Mk a0 a1 a2 a3 a4 a5 a6) 2 = a1 ∧ rdB (Mk a0 a1 a2 a3 a4 a5 a6) 4 = a2 ∧ rdB (Mk a0 a1 a2 a3 a4 a5 a6) 8 = a3 ∧
    rdB (Mk a0 a1 a2 a3 a4 a5 a6) 16 = a4 ∧ rdB (Mk a0 a1 a2 a3 a4 a5 a6) 32 = a5 ∧ rdA (Mk a0 a1 a2 a3 a4 a5 a6) = a6 := by
  obtain ⟨m0, m1⟩ := mk_range a0 a1 a2 a3 a4 a5 a6
  have hr := Chk_range hz
  have hp := part_range a0 a1 a2 a3 a4 a5
  have hM : Mk a0 a1 a2 a3 a4 a5 a6 = a6 * 256 + H.part a0 a1 a2 a3 a4 a5 6 := by unfold Mk; rw [if_pos hz]
  generalize Mk a0 a1 a2 a3 a4 a5 a6 = x at *
  have eA : x / 256 = a6 := by omega
  have f1 : hb x 1 = a0 := by rw [hb1 x m0 m1, hM]; clear hp; cases a0 <;> cases a1 <;> cases a2 <;> cases a3 <;> cases a4 <;> cases a5 <;> simp [H.part, H.bt] <;> omega
  have f2 : hb x 2 = a1 := by rw [hb2 x m0 m1, hM]; clear hp f1; cases a0 <;> cases a1 <;> cases a2 <;> cases a3 <;> cases a4 <;> cases a5 <;> simp [H.part, H.bt] <;> omega
  have f3 : hb x 4 = a2 := by rw [hb4 x m0 m1, hM]; clear hp f1 f2; cases a0 <;> cases a1 <;> cases a2 <;> cases a3 <;> cases a4 <;> cases a5 <;> simp [H.part, H.bt] <;> omega
  have f4 : hb x 8 = a3 := by rw [hb8 x m0 m1, hM]; clear hp f1 f2 f3; cases a0 <;> cases a1 <;> cases a2 <;> cases a3 <;> cases a4 <;> cases a5 <;> simp [H.part, H.bt] <;> omega
  have f5 : hb x 16 = a4 := by rw [hb16 x m0 m1, hM]; clear hp f1 f2 f3 f4; cases a0 <;> cases a1 <;> cases a2 <;> cases a3 <;> cases a4 <;> cases a5 <;> simp [H.part, H.bt] <;> omega
  have f6 : hb x 32 = a5 := by rw [hb32 x m0 m1, hM]; clear hp f1 f2 f3 f4 f5; cases a0 <;> cases a1 <;> cases a2 <;> cases a3 <;> cases a4 <;> cases a5 <;> simp [H.part, H.bt] <;> omega
  have hE : rdE x = 0 := by unfold rdE; rw [if_neg (by omega), f1, f2, f3, f4, f5, f6, eA]; exact hz
  obtain ⟨_, _, _, s, t⟩ := rd_ok hE
  exact ⟨hE, by rw [s, f1], by rw [s, f2], by rw [s, f3], by rw [s, f4], by rw [s, f5], by rw [s, f6], by rw [t, eA]⟩
theorem mk_zero {a0 a1 a2 a3 a4 a5 : Bool} {a6 : Int} (hz : Chk a0 a1 a2 a3 a4 a5 a6 = 0) : (Mk a0 a1 a2 a3 a4 a5 a6 == 0) = (!a0 && (!a1 && (!a2 && (!a3 && (!a4 && (!a5 && (a6 == 0))))))) := by
  have hr := Chk_range hz
  have hM : Mk a0 a1 a2 a3 a4 a5 a6 = a6 * 256 + H.part a0 a1 a2 a3 a4 a5 6 := by unfold Mk; rw [if_pos hz]
  rw [hM, Bool.eq_iff_iff]
  clear hz hM
  cases a0 <;> cases a1 <;> cases a2 <;> cases a3 <;> cases a4 <;> cases a5 <;> simp [H.part, H.bt] <;> omega
theorem awake_true : cofferdamlaw07_awake.f = some true := by kernel_rfl
end Go.Proofs.Ytfhiboibfhjmpaa.Pure
