/- Scaling laws of the bounds: costs so many times as great make each bound so many times as great; how the kinds lie to one another. -/
import Derived.Test.YtpodcbaechlejaaHz
import Derived.Test.YtpodcbaechlejaaQa4
namespace Go.Proofs.Ytpodcbaechlejaa.Pure
open Go.RowKit Go.Proofs.Ytpodcbaechlejaa.H Go.Proofs.YtpodcbaechlejaaW.PrintWords Go.Proofs.YtpodcbaechlejaaW.PrintLast
set_option linter.unusedVariables false
def wl (w : Nat → Int) : Nat → List Int
  | 0 => []
  | j + 1 => wl w j ++ [w j]
theorem wl_len (w : Nat → Int) : ∀ j, (wl w j).length = j
  | 0 => rfl
  | j + 1 => by simp [wl, wl_len w j]
theorem mx_scale {a b z : Int} (hz : 1 ≤ z) : mx (z * a) (z * b) = z * mx a b := by
  unfold mx
  by_cases h : a < b
  · rw [if_pos h, if_pos (Int.mul_lt_mul_of_pos_left h (by omega))]
  · have := Int.mul_le_mul_of_nonneg_left (Int.not_lt.1 h) (show 0 ≤ z by omega)
    rw [if_neg h, if_neg (Int.not_lt.2 this)]
theorem bp_scale (m f st d u l n : Int) {z : Int} (hz : 1 ≤ z ∧ z ≤ 8) (k : Nat) : bp (z * m) (z * f) (z * st) (z * d) u l n k = z * bp m f st d u l n k := by
  have e0 : z * st + 2 * (z * m) = z * (st + 2 * m) := by rw [Int.mul_add, Int.mul_left_comm]
  have e1 : l * (z * st + 2 * (z * m)) = z * (l * (st + 2 * m)) := by rw [e0, Int.mul_left_comm]
  have e2 : 16 * n * (z * m) = z * (16 * n * m) := Int.mul_left_comm _ _ _
  have e3 : (2 * u + 1) * (z * st) = z * ((2 * u + 1) * st) := Int.mul_left_comm _ _ _
  have e4 : 113 * (z * m) = z * (113 * m) := Int.mul_left_comm _ _ _
  have e5 : 64 * (z * st + 2 * (z * m)) = z * (64 * (st + 2 * m)) := by rw [e0, Int.mul_left_comm]
  by_cases hk : 10 ≤ k
  · rw [bp_top _ _ _ _ _ _ _ hk, bp_top _ _ _ _ _ _ _ hk, Int.mul_zero]
  · have hc : k = 0 ∨ k = 1 ∨ k = 2 ∨ k = 3 ∨ k = 4 ∨ k = 5 ∨ k = 6 ∨ k = 7 ∨ k = 8 ∨ k = 9 := by omega
    have hz8 : z = 1 ∨ z = 2 ∨ z = 3 ∨ z = 4 ∨ z = 5 ∨ z = 6 ∨ z = 7 ∨ z = 8 := by omega
    rcases hc with rfl | rfl | rfl | rfl | rfl | rfl | rfl | rfl | rfl | rfl
    case inr.inr.inr.inr.inr.inr.inr.inl => simp only [bp]; rw [e4, e5, mx_scale hz.1]
    all_goals (simp only [bp]; try rw [e1])
    all_goals try rw [e2]
    all_goals try rw [e3]
    all_goals (clear e0 e1 e2 e3 e4 e5; rcases hz8 with rfl | rfl | rfl | rfl | rfl | rfl | rfl | rfl <;> omega)
theorem wk_scale (i m f st d u l n : Int) {z : Int} (hz : 1 ≤ z ∧ z ≤ 8) (k : Nat) : i * (z * m) + bp (z * m) (z * f) (z * st) (z * d) u l n k = z * (i * m + bp m f st d u l n k) := by
  rw [bp_scale m f st d u l n hz k, Int.mul_left_comm, Int.mul_add]
theorem wl_at (w : Nat → Int) : ∀ (k j : Nat), j < k → rd (wl w k) (j : Int) = w j
  | 0, j, h => absurd h (Nat.not_lt_zero _)
  | k + 1, j, h => by
    have hl := wl_len w k
    by_cases hjk : j < k
    · have := wl_at w k j hjk
      simp only [rd, wl, List.getD_eq_getElem?_getD, Int.toNat_natCast] at this ⊢
      rw [List.getElem?_append_left (by omega)]
      exact this
    · obtain rfl : j = k := by omega
      simp [rd, wl, List.getD_eq_getElem?_getD, hl]
/-- What a kind costs at most, entering and all. -/
def wk2 (i m f st d u l n : Int) (k : Nat) : Int := i * m + bp m f st d u l n k
theorem wk2_facts {i m f st d u l n : Int} (hm : 1 ≤ m) (hf : 1 ≤ f) (hs : 1 ≤ st) (hd : 1 ≤ d) (hu : 2 ≤ u) :
    wk2 i m f st d u l n 8 ≤ wk2 i m f st d u l n 9 ∧ wk2 i m f st d u l n 6 ≤ wk2 i m f st d u l n 5 ∧ wk2 i m f st d u l n 4 ≤ wk2 i m f st d u l n 7 ∧ wk2 i m f st d u l n 5 ≤ wk2 i m f st d u l n 7 ∧
      wk2 i m f st d u l n 0 = wk2 i m f st d u l n 10 ∧ wk2 i m f st d u l n 11 = wk2 i m f st d u l n 10 ∧ (wk2 i m f st d u l n 7 = wk2 i m f st d u l n 4 ∨ wk2 i m f st d u l n 7 = wk2 i m f st d u l n 5) := by
  have hp : 0 ≤ (2 * u + 1) * st := Int.mul_nonneg (by omega) (by omega)
  have h7 : bp m f st d u l n 7 = bp m f st d u l n 4 ∧ bp m f st d u l n 5 ≤ bp m f st d u l n 4 ∨ bp m f st d u l n 7 = bp m f st d u l n 5 ∧ bp m f st d u l n 4 ≤ bp m f st d u l n 5 := by
    simp only [bp]
    unfold mx
    split
    · exact .inr ⟨rfl, by omega⟩
    · exact .inl ⟨rfl, by omega⟩
  have h8 : bp m f st d u l n 8 ≤ bp m f st d u l n 9 := by
    simp only [bp]
    omega
  have h6 : bp m f st d u l n 6 ≤ bp m f st d u l n 5 := by
    simp only [bp]
    omega
  have h0 : bp m f st d u l n 0 = bp m f st d u l n 10 := rfl
  have h1 : bp m f st d u l n 11 = bp m f st d u l n 10 := rfl
  unfold wk2
  omega
end Go.Proofs.Ytpodcbaechlejaa.Pure
