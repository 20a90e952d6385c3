/- Plain laws of chapter 10: what each kind costs rises with each cost and each measure; the most is one of them. -/
import Derived.Test.YtpodcbaechlejaaQa3
namespace Go.Proofs.Ytpodcbaechlejaa.Pure
open Go.RowKit Go.Proofs.Ytpodcbaechlejaa.H Go.Proofs.YtpodcbaechlejaaW.PrintWords Go.Proofs.YtpodcbaechlejaaW.PrintLast Go.Proofs.YtpodcbaechlejaaW.PrintMore
set_option linter.unusedVariables false
set_option linter.unusedSimpArgs false
theorem mul_up {a b c d : Int} (ha : 0 ≤ a) (hc : 0 ≤ c) (h1 : a ≤ b) (h2 : c ≤ d) : a * c ≤ b * d :=
  Int.le_trans (Int.mul_le_mul_of_nonneg_right h1 hc) (Int.mul_le_mul_of_nonneg_left h2 (by omega))
theorem mx_up {a b c d : Int} (h1 : a ≤ c) (h2 : b ≤ d) : mx a b ≤ mx c d := by unfold mx; split <;> split <;> omega
theorem bp_up {m f st d u l n m' f' st' d' u' l' n' : Int} (hm : 1 ≤ m) (hf : 1 ≤ f) (hs : 1 ≤ st) (hd : 1 ≤ d) (hu : 2 ≤ u) (hl : 1 ≤ l) (hn : 1 ≤ n)
    (km : m ≤ m') (kf : f ≤ f') (ks : st ≤ st') (kd : d ≤ d') (ku : u ≤ u') (kl : l ≤ l') (kn : n ≤ n') (k : Nat) : bp m f st d u l n k ≤ bp m' f' st' d' u' l' n' k := by
  have e1 : l * (st + 2 * m) ≤ l' * (st' + 2 * m') := mul_up (by omega) (by omega) kl (by omega)
  have e2 : 16 * n * m ≤ 16 * n' * m' := mul_up (by omega) (by omega) (by omega) km
  have e3 : (2 * u + 1) * st ≤ (2 * u' + 1) * st' := mul_up (by omega) (by omega) (by omega) ks
  by_cases hk : 10 ≤ k
  · rw [bp_top _ _ _ _ _ _ _ hk, bp_top _ _ _ _ _ _ _ hk]; exact Int.le_refl _
  · have hc : k = 0 ∨ k = 1 ∨ k = 2 ∨ k = 3 ∨ k = 4 ∨ k = 5 ∨ k = 6 ∨ k = 7 ∨ k = 8 ∨ k = 9 := by omega
    rcases hc with rfl | rfl | rfl | rfl | rfl | rfl | rfl | rfl | rfl | rfl
    case inr.inr.inr.inr.inr.inr.inr.inl => simp only [bp]; exact mx_up (by omega) (by omega)
    all_goals simp only [bp]; omega
theorem bm_is (m f st d u l n : Int) : ∀ k : Nat, ∃ i, i < k + 1 ∧ bp m f st d u l n i = bm m f st d u l n (k + 1)
  | 0 => ⟨0, by omega, rfl⟩
  | k + 1 => by
    obtain ⟨i, h1, h2⟩ := bm_is m f st d u l n k
    show ∃ i, i < k + 1 + 1 ∧ bp m f st d u l n i = mx (bm m f st d u l n (k + 1)) (bp m f st d u l n (k + 1))
    by_cases h : bm m f st d u l n (k + 1) < bp m f st d u l n (k + 1)
    · exact ⟨k + 1, by omega, by unfold mx; rw [if_pos h]⟩
    · exact ⟨i, by omega, by unfold mx; rw [if_neg h]; exact h2⟩
theorem bm_up (m f st d u l n : Int) (i : Nat) : ∀ k : Nat, i < k → bp m f st d u l n i ≤ bm m f st d u l n k
  | 0, h => by omega
  | k + 1, h => by
    show _ ≤ mx (bm m f st d u l n k) (bp m f st d u l n k)
    by_cases hik : i = k
    · subst hik; unfold mx; split <;> omega
    · have := bm_up m f st d u l n i k (by omega)
      unfold mx; split <;> omega
theorem up_eq {a b top : Int} (ha : 0 ≤ a ∧ a ≤ top) (ht : top ≤ 65536) (hb : 0 ≤ b) : ∃ t, cofferdamlaw10_up.f a b top = some t ∧ a ≤ t ∧ t ≤ top := by
  unfold cofferdamlaw10_up.f
  by_cases h : a ≥ top
  · exact ⟨a, if_pos h, by omega, by omega⟩
  · refine ⟨_, if_neg h, ?_⟩
    rw [wrap_in (x := top - a) (by omega) (by omega)]
    have hm : 0 ≤ mn b (top - a) ∧ mn b (top - a) ≤ top - a := by unfold mn; split <;> omega
    rw [wrap_in (by omega) (by omega)]; omega
end Go.Proofs.Ytpodcbaechlejaa.Pure
