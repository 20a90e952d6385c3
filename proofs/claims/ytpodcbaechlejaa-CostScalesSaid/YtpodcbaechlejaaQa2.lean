/- Plain laws of chapter 10: the worst costs, the program's and the reference's; all below 2^40. -/
import Derived.Test.YtpodcbaechlejaaHz
import Derived.Test.YtpodcbaechlejaaQ1
namespace Go.Proofs.Ytpodcbaechlejaa.Pure
open Go.RowKit Go.Proofs.Ytpodcbaechlejaa.H Go.Proofs.YtpodcbaechlejaaW.PrintWords Go.Proofs.YtpodcbaechlejaaW.PrintLast Go.Proofs.YtpodcbaechlejaaW.PrintMore
set_option linter.unusedVariables false
set_option linter.unusedSimpArgs false
theorem al_eq {m st l : Int} (hm : 1 ≤ m ∧ m ≤ 65536) (hs : 1 ≤ st ∧ st ≤ 65536) (hl : 1 ≤ l ∧ l ≤ 5120) : pg m st = st + 2 * m ∧ al m st l = l * (st + 2 * m) ∧ 0 ≤ l * (st + 2 * m) ∧ l * (st + 2 * m) ≤ 1006632960 := by
  have h1 : pg m st = st + 2 * m := by unfold pg; rw [wrap_in (x := 2 * m) (by omega) (by omega), wrap_in (by omega) (by omega)]
  have h2 : 0 ≤ l * (st + 2 * m) := Int.mul_nonneg (by omega) (by omega)
  have h3 : l * (st + 2 * m) ≤ 5120 * 196608 := Int.le_trans (Int.mul_le_mul_of_nonneg_right hl.2 (by omega)) (Int.mul_le_mul_of_nonneg_left (by omega) (by omega))
  refine ⟨h1, ?_, h2, by omega⟩
  unfold al
  rw [h1, wrap_in (x := l) (by omega) (by omega), wrap_in h2 (by omega)]
theorem fm_eq {st d u : Int} (hs : 1 ≤ st ∧ st ≤ 65536) (hd : 1 ≤ d ∧ d ≤ 65536) (hu : 2 ≤ u ∧ u ≤ 4096) : fm st d u = (2 * u + 1) * st + d ∧ 0 ≤ (2 * u + 1) * st ∧ (2 * u + 1) * st ≤ 536936448 := by
  have h2 : 0 ≤ (2 * u + 1) * st := Int.mul_nonneg (by omega) (by omega)
  have h3 : (2 * u + 1) * st ≤ 8193 * 65536 := Int.le_trans (Int.mul_le_mul_of_nonneg_right (by omega) (by omega)) (Int.mul_le_mul_of_nonneg_left (by omega) (by omega))
  refine ⟨?_, h2, by omega⟩
  unfold fm
  rw [wrap_in (x := u) (by omega) (by omega), wrap_in (x := 2 * u) (by omega) (by omega), wrap_in (x := 2 * u + 1) (by omega) (by omega), wrap_in h2 (by omega), wrap_in (by omega) (by omega)]
theorem nm_bd {m n : Int} (hm : 1 ≤ m ∧ m ≤ 65536) (hn : 1 ≤ n ∧ n ≤ 4096) : 0 ≤ 16 * n * m ∧ 16 * n * m ≤ 4294967296 := by
  have h2 : 0 ≤ 16 * n * m := Int.mul_nonneg (by omega) (by omega)
  have h3 : 16 * n * m ≤ 65536 * 65536 := Int.le_trans (Int.mul_le_mul_of_nonneg_right (by omega) (by omega)) (Int.mul_le_mul_of_nonneg_left (by omega) (by omega))
  omega
/-- What each kind costs at most, without a wrap. -/
def bp (m f st d u l n : Int) (kind : Nat) : Int :=
  match kind with
  | 1 => 17 * m | 2 => l * (st + 2 * m) + m | 3 => m + 16 * n * m + l * (st + 2 * m) | 4 => 113 * m | 5 => 64 * (st + 2 * m) | 6 => 64 * (st + m) + m
  | 7 => mx (113 * m) (64 * (st + 2 * m)) | 8 => 26 * m + f + ((2 * u + 1) * st + d) + d | 9 => 64 * m + 2 * f + 2 * ((2 * u + 1) * st + d) + d | _ => 0
theorem mx_bd {a b c : Int} (h0 : 0 ≤ a) (h1 : a ≤ c) (h2 : 0 ≤ b) (h3 : b ≤ c) : 0 ≤ mx a b ∧ mx a b ≤ c := by unfold mx; split <;> omega
theorem bd_bp {m f st d u l n : Int} (hm : 1 ≤ m ∧ m ≤ 65536) (hf : 1 ≤ f ∧ f ≤ 65536) (hs : 1 ≤ st ∧ st ≤ 65536) (hd : 1 ≤ d ∧ d ≤ 65536) (hu : 2 ≤ u ∧ u ≤ 4096) (hl : 1 ≤ l ∧ l ≤ 5120) (hn : 1 ≤ n ∧ n ≤ 4096) (k : Nat) :
    bd m f st d u l n k = bp m f st d u l n k ∧ 0 ≤ bp m f st d u l n k ∧ bp m f st d u l n k ≤ 6000000000 := by
  obtain ⟨p1, p2, p3, p4⟩ := al_eq hm hs hl
  obtain ⟨f1, f2, f3⟩ := fm_eq hs hd hu
  obtain ⟨n1, n2⟩ := nm_bd hm hn
  by_cases hk : 10 ≤ k
  · obtain ⟨j, rfl⟩ : ∃ j, k = j + 10 := ⟨k - 10, by omega⟩
    exact ⟨rfl, Int.le_refl _, by show (0 : Int) ≤ 6000000000; omega⟩
  · have hc : k = 0 ∨ k = 1 ∨ k = 2 ∨ k = 3 ∨ k = 4 ∨ k = 5 ∨ k = 6 ∨ k = 7 ∨ k = 8 ∨ k = 9 := by omega
    rcases hc with rfl | rfl | rfl | rfl | rfl | rfl | rfl | rfl | rfl | rfl
    · exact ⟨rfl, Int.le_refl _, by show (0 : Int) ≤ 6000000000; omega⟩
    · simp only [bd, bp, bd1]; rw [wrap_in (by omega) (by omega)]; omega
    · simp only [bd, bp, bd2]; rw [p2, wrap_in (by omega) (by omega)]; omega
    · simp only [bd, bp, bd3]; rw [p2, wrap_in (x := n) (by omega) (by omega), wrap_in (x := 16 * n) (by omega) (by omega), wrap_in (x := 16 * n * m) (by omega) (by omega), wrap_in (x := m + 16 * n * m) (by omega) (by omega), wrap_in (by omega) (by omega)]; omega
    · simp only [bd, bp, bd4]; rw [wrap_in (by omega) (by omega)]; omega
    · simp only [bd, bp, bd5]; rw [p1, wrap_in (by omega) (by omega)]; omega
    · simp only [bd, bp, bd6]; rw [wrap_in (x := st + m) (by omega) (by omega), wrap_in (x := 64 * (st + m)) (by omega) (by omega), wrap_in (by omega) (by omega)]; omega
    · simp only [bd, bp, bd4, bd5]
      rw [p1, wrap_in (x := 113 * m) (by omega) (by omega), wrap_in (x := 64 * (st + 2 * m)) (by omega) (by omega)]
      have := mx_bd (a := 113 * m) (b := 64 * (st + 2 * m)) (c := 6000000000) (by omega) (by omega) (by omega) (by omega)
      exact ⟨rfl, this.1, this.2⟩
    · simp only [bd, bp, bd8]; rw [f1, wrap_in (x := 26 * m) (by omega) (by omega), wrap_in (x := 26 * m + f) (by omega) (by omega), wrap_in (x := 26 * m + f + ((2 * u + 1) * st + d)) (by omega) (by omega), wrap_in (by omega) (by omega)]; omega
    · simp only [bd, bp, bd9]; rw [f1, wrap_in (x := 64 * m) (by omega) (by omega), wrap_in (x := 2 * f) (by omega) (by omega), wrap_in (x := 64 * m + 2 * f) (by omega) (by omega), wrap_in (x := 2 * ((2 * u + 1) * st + d)) (by omega) (by omega), wrap_in (x := 64 * m + 2 * f + 2 * ((2 * u + 1) * st + d)) (by omega) (by omega), wrap_in (by omega) (by omega)]; omega
end Go.Proofs.Ytpodcbaechlejaa.Pure
