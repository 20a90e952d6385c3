/- ColourLines: a frame is the one of its colour and index; its lines have sets of its colour, all unlike; two frames have a set together just if they have one colour. -/
import Derived.Test.YtkihoeacojcdlaaHx4
import Derived.Test.YtkihoeacojcdlaaPureColourOf
namespace Go.Proofs.Ytkihoeacojcdlaa.Pure
open Go.RowKit Go.Proofs.Ytkihoeacojcdlaa.H Go.Proofs.YtkihoeacojcdlaaW.PrintWords Go.Proofs.YtkihoeacojcdlaaW.PrintLast
set_option linter.unusedVariables false

/-- The sets of the first i lines of a frame of the colour c. -/
def setsOf (c : Int) : Nat → List Int
  | 0 => []
  | i + 1 => setsOf c i ++ [c * 16 + (i : Int)]
theorem setsOf_len (c : Int) : ∀ i, (setsOf c i).length = i
  | 0 => rfl
  | i + 1 => by simp [setsOf, setsOf_len c i]
theorem rd_left (l m : List Int) (j : Nat) (h : j < l.length) : rd (l ++ m) (j : Int) = rd l (j : Int) := by simp [rd, List.getD, List.getElem?_append_left h]
theorem rd_last (l : List Int) (x : Int) : rd (l ++ [x]) (l.length : Int) = x := by simp [rd, List.getD]
theorem setsOf_at (c : Int) : ∀ (i j : Nat), j < i → rd (setsOf c i) (j : Int) = c * 16 + (j : Int)
  | 0, j, h => by omega
  | i + 1, j, h => by
    by_cases hj : j < i
    · simp only [setsOf]
      rw [rd_left _ _ _ (by rw [setsOf_len]; exact hj)]
      exact setsOf_at c i j hj
    · have hji : j = i := by omega
      subst hji
      have := rd_last (setsOf c j) (c * 16 + (j : Int))
      rw [setsOf_len] at this
      exact this
theorem lines_l1 (a b n c d : Int) (sh : Bool) (x t : Int) (i : Nat) (hi : i ≤ 15) (s : Int) (hs : s = c * 16 + (i : Int)) (e : Nat) : ∀ (m j : Nat), j ≤ i → i - j = e →
    cofferdamlaw08_ColourLines.l1 (m + 1 + e) a b n c d (setsOf c i) sh x s t (j : Int) = (if sh = true then cofferdamlaw08_ColourLines.l0 m a b n c d (setsOf c (i + 1)) true (wrap64 (x + 1)) else cofferdamlaw08_ColourLines.l0 m a b n c d (setsOf c (i + 1)) (s == t) (wrap64 (x + 1))) := by
  induction e with
  | zero =>
    intro m j hj he
    have hji : j = i := by omega
    subst hji
    show cofferdamlaw08_ColourLines.l1 (m + 1) a b n c d (setsOf c j) sh x s t (j : Int) = _
    simp only [cofferdamlaw08_ColourLines.l1]
    rw [if_neg (by rw [setsOf_len]; omega), if_pos (by rw [setsOf_len]; omega)]
    simp only [Option.bind_some, setsOf, hs]
  | succ e ih =>
    intro m j hj he
    have hw : wrap64 ((j : Int) + 1) = ((j + 1 : Nat) : Int) := by rw [wrap64_in (by omega) (by omega)]; omega
    rw [show m + 1 + (e + 1) = (m + 1 + e) + 1 by omega]
    simp only [cofferdamlaw08_ColourLines.l1]
    rw [if_pos (by rw [setsOf_len]; omega), if_pos (by omega), setsOf_at c i j (by omega), if_neg (by omega), hw]
    exact ih m (j + 1) (by omega) (by omega)
theorem lines_l0 (a b n : Int) (ha : 0 ≤ a ∧ a ≤ 4095) (hb : 0 ≤ b ∧ b ≤ 4095) (hn : 1 ≤ n ∧ n ≤ 16) (e : Nat) : ∀ (k i : Nat) (sh : Bool), i ≤ 16 → 16 - i = e → e * 20 + 1 ≤ k → (0 < i → sh = (a % n == b % n)) → (i = 0 → sh = false) →
    cofferdamlaw08_ColourLines.l0 k a b n (a % n) (b % n) (setsOf (a % n) i) sh (i : Int) = some true := by
  have q0 := Int.emod_nonneg a (show n ≠ 0 by omega)
  have q1 := Int.emod_lt_of_pos a (show 0 < n by omega)
  have q2 := Int.emod_nonneg b (show n ≠ 0 by omega)
  have q3 := Int.emod_lt_of_pos b (show 0 < n by omega)
  induction e with
  | zero =>
    intro k i sh hi he hk hsh hs0
    obtain ⟨k, rfl⟩ : ∃ m, k = m + 1 := ⟨k - 1, by omega⟩
    simp only [cofferdamlaw08_ColourLines.l0]
    rw [if_neg (by omega), hsh (by omega)]
    simp
  | succ e ih =>
    intro k i sh hi he hk hsh hs0
    obtain ⟨m, hmk⟩ : ∃ m, k = (m + 1 + i) + 1 + 1 := ⟨k - 3 - i, by omega⟩
    have hm0 : e * 20 + 1 ≤ m := by omega
    have hi1 : i + 1 ≤ 16 := by omega
    have hi2 : 16 - (i + 1) = e := by omega
    have hi3 : i ≤ 15 := by omega
    obtain ⟨K, hK⟩ : ∃ K, K = (m + 1 + i) + 1 := ⟨_, rfl⟩
    rw [← hK] at hmk
    subst hmk
    have hi16 : (i : Int) < 16 := by omega
    have w1 : wrap64 (256 * a) = 256 * a := wrap64_in (by omega) (by omega)
    have w2 : wrap64 (16 * (i : Int)) = 16 * (i : Int) := wrap64_in (by omega) (by omega)
    have w3 : wrap64 (256 * a + 16 * (i : Int)) = 256 * a + 16 * (i : Int) := wrap64_in (by omega) (by omega)
    have w4 : IntKind.u64.wrap (256 * a + 16 * (i : Int)) = 256 * a + 16 * (i : Int) := by rw [IntKind.wrap_u64]; omega
    have w5 : wrap64 (256 * b) = 256 * b := wrap64_in (by omega) (by omega)
    have w6 : wrap64 (256 * b + 16 * (i : Int)) = 256 * b + 16 * (i : Int) := wrap64_in (by omega) (by omega)
    have w7 : wrap64 (256 * b + 16 * (i : Int) + 15) = 256 * b + 16 * (i : Int) + 15 := wrap64_in (by omega) (by omega)
    have w8 : IntKind.u64.wrap (256 * b + 16 * (i : Int) + 15) = 256 * b + 16 * (i : Int) + 15 := by rw [IntKind.wrap_u64]; omega
    have s1 : colour_Set.f (256 * a + 16 * (i : Int)) n = some (a % n * 16 + (i : Int), 0) := by
      rw [set_eq _ _ (by omega), if_neg (by omega), if_pos hn]
      rw [show (256 * a + 16 * (i : Int)) / 256 = a by omega, show (256 * a + 16 * (i : Int)) % 256 / 16 = (i : Int) by omega]
    have s2 : colour_Set.f (256 * b + 16 * (i : Int) + 15) n = some (b % n * 16 + (i : Int), 0) := by
      rw [set_eq _ _ (by omega), if_neg (by omega), if_pos hn]
      rw [show (256 * b + 16 * (i : Int) + 15) / 256 = b by omega, show (256 * b + 16 * (i : Int) + 15) % 256 / 16 = (i : Int) by omega]
    have s3 : colour_Owner.f (a % n * 16 + (i : Int)) n = some (a % n, 0) := by
      rw [owner_eq _ _ (by omega) (by omega), if_pos ⟨hn, by omega, by omega⟩]
      rw [show (a % n * 16 + (i : Int)) / 16 = a % n by omega]
    have hw : wrap64 ((i : Int) + 1) = ((i + 1 : Nat) : Int) := by rw [wrap64_in (by omega) (by omega)]; omega
    have hcond : ((a % n * 16 + (i : Int)) == (b % n * 16 + (i : Int))) = (a % n == b % n) := by
      rw [Bool.eq_iff_iff]; simp; omega
    simp only [cofferdamlaw08_ColourLines.l0]
    rw [if_pos hi16, w1, w2, w3, w4, w5, w6, w7, w8]
    with_reducible rw [s1]
    simp only [Option.bind_some]
    with_reducible rw [s2]
    simp only [Option.bind_some]
    with_reducible rw [s3]
    simp only [Option.bind_some, if_true]
    clear w1 w2 w3 w4 w5 w6 w7 w8 s1 s2 s3
    subst hK
    simp only [cofferdamlaw08_ColourLines.j3]
    rw [if_neg (by simp)]
    have hl := lines_l1 a b n (a % n) (b % n) sh (i : Int) (b % n * 16 + (i : Int)) i hi3 (a % n * 16 + (i : Int)) rfl i m 0 (Nat.zero_le _) rfl
    rw [show (((0 : Nat) : Int)) = (0 : Int) from rfl] at hl
    rw [hl, hw, hcond]
    clear hl hw hcond
    cases sh with
    | true =>
      rw [if_pos rfl]
      have hi0 : 0 < i := by
        by_cases h : i = 0
        · exact absurd (hs0 h) (by simp)
        · omega
      exact ih m (i + 1) true hi1 hi2 hm0 (fun _ => hsh hi0) (fun h => absurd h (by omega))
    | false =>
      rw [if_neg (by simp)]
      exact ih m (i + 1) _ hi1 hi2 hm0 (fun _ => rfl) (fun h => absurd h (by omega))
theorem ColourLines : cofferdamlaw08_ColourLines.Pure := by
  intro a b n h0 h1 h2
  refine ⟨400, ?_⟩
  unfold cofferdamlaw08_ColourLines.f
  rw [works_true 400 (by decide)]
  simp only [Option.bind_some, if_true]
  rw [of_eq, of_eq]
  by_cases ha : (0 ≤ a ∧ a ≤ 4095) ∧ 1 ≤ n ∧ n ≤ 16
  · rw [if_pos ha]
    simp only [Option.bind_some]
    by_cases hb : (0 ≤ b ∧ b ≤ 4095) ∧ 1 ≤ n ∧ n ≤ 16
    · rw [if_pos hb]
      simp only [Option.bind_some, if_true]
      have q0 := Int.emod_nonneg a (show n ≠ 0 by omega)
      have q1 := Int.emod_lt_of_pos a (show 0 < n by omega)
      have hd := div_bd a n ha.1.1 ha.2.1
      have hm := Int.mul_ediv_add_emod a n
      rw [Int.mul_comm] at hm
      have hfr : colour_Frame.f (a % n) (a / n) n = some (a, 0) := by
        rw [frame_eq _ _ _ (by omega) (by omega), hm, if_pos ⟨ha.2, ⟨q0, by omega⟩, hd.1, ha.1.2⟩]
      simp only [cofferdamlaw08_ColourLines.j0]
      rw [if_neg (by simp), index_eq, if_pos ha]
      simp only [Option.bind_some]
      rw [hfr]
      simp only [Option.bind_some, if_true, cofferdamlaw08_ColourLines.j1]
      rw [if_neg (by simp)]
      exact lines_l0 a b n ha.1 hb.1 ha.2 16 398 0 false (by omega) (by omega) (by omega) (fun h => absurd h (by omega)) (fun _ => rfl)
    · rw [if_neg hb]
      simp [cofferdamlaw08_ColourLines.j0]
  · rw [if_neg ha]
    by_cases hb : (0 ≤ b ∧ b ≤ 4095) ∧ 1 ≤ n ∧ n ≤ 16
    · rw [if_pos hb]
      simp [cofferdamlaw08_ColourLines.j0]
    · rw [if_neg hb]
      simp [cofferdamlaw08_ColourLines.j0]
end Go.Proofs.Ytkihoeacojcdlaa.Pure
