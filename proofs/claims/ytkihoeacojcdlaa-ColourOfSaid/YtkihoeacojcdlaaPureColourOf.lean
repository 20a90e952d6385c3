/- ColourOf: of all frames, colours and indexes, Of, Index and Frame answer as the reference does. -/
import Derived.Test.YtkihoeacojcdlaaHx2
import Derived.Test.YtkihoeacojcdlaaPureColourSets
namespace Go.Proofs.Ytkihoeacojcdlaa.Pure
open Go.RowKit Go.Proofs.Ytkihoeacojcdlaa.H Go.Proofs.YtkihoeacojcdlaaW.PrintWords Go.Proofs.YtkihoeacojcdlaaW.PrintLast
set_option linter.unusedVariables false

theorem index_eq (a n : Int) : colour_Index.f a n = if (0 ≤ a ∧ a ≤ 4095) ∧ 1 ≤ n ∧ n ≤ 16 then some (a / n, 0) else some (0, 2) := by
  unfold colour_Index.f
  rw [within_eq, may_eq]
  by_cases ha : 0 ≤ a ∧ a ≤ 4095
  · rw [decide_eq_true ha]
    simp only [Option.bind_some, if_true]
    by_cases hn : 1 ≤ n ∧ n ≤ 16
    · have hR : (if (0 ≤ a ∧ a ≤ 4095) ∧ 1 ≤ n ∧ n ≤ 16 then some (a / n, (0 : Int)) else some (0, 2)) = some (a / n, 0) := if_pos ⟨ha, hn⟩
      have hd := div_bd a n ha.1 hn.1
      rw [decide_eq_true hn, hR]
      simp only [if_true]
      rw [if_neg (by omega), Int.tdiv_eq_ediv_of_nonneg ha.1, wrap64_in (by omega) (by omega)]
    · have hR : (if (0 ≤ a ∧ a ≤ 4095) ∧ 1 ≤ n ∧ n ≤ 16 then some (a / n, (0 : Int)) else some (0, 2)) = some (0, 2) := if_neg (fun h => hn h.2)
      rw [decide_eq_false hn, hR]
      simp
  · have hR : (if (0 ≤ a ∧ a ≤ 4095) ∧ 1 ≤ n ∧ n ≤ 16 then some (a / n, (0 : Int)) else some (0, 2)) = some (0, 2) := if_neg (fun h => ha h.1)
    rw [decide_eq_false ha, hR]
    simp
/-- A frame has a colour and an index just if it is their frame. -/
theorem is_frame (x c i n : Int) (hn : 1 ≤ n) : (x % n = c ∧ x / n = i) ↔ (0 ≤ c ∧ c ≤ n - 1 ∧ i * n + c = x) := by
  have h1 := Int.emod_nonneg x (show n ≠ 0 by omega)
  have h2 := Int.emod_lt_of_pos x (show 0 < n by omega)
  have h3 := Int.mul_ediv_add_emod x n
  constructor
  · rintro ⟨rfl, rfl⟩
    rw [Int.mul_comm] at h3
    exact ⟨h1, by omega, h3⟩
  · rintro ⟨c0, c1, rfl⟩
    rw [Int.add_comm, Int.add_mul_emod_self_right, Int.emod_eq_of_lt c0 (by omega), Int.add_mul_ediv_right _ _ (by omega), Int.ediv_eq_zero_of_lt c0 (by omega)]
    exact ⟨rfl, by omega⟩
theorem frame_loop (c i n : Int) (hn : 1 ≤ n) (hn2 : n ≤ 16) (d : Nat) : ∀ (k : Nat) (x : Int), 0 ≤ x → x ≤ 4096 → 4096 - x = d → d < k →
    cofferdamref08_Frame.l0 k c i n x = if (0 ≤ c ∧ c ≤ n - 1) ∧ x ≤ i * n + c ∧ i * n + c ≤ 4095 then some (i * n + c, 0) else some (0, 2) := by
  induction d with
  | zero =>
    intro k x h0 h1 hd hk
    obtain ⟨k, rfl⟩ : ∃ m, k = m + 1 := ⟨k - 1, by omega⟩
    simp only [cofferdamref08_Frame.l0]
    rw [if_neg (by omega), if_neg (by omega)]
  | succ d ih =>
    intro k x h0 h1 hd hk
    obtain ⟨k, rfl⟩ : ∃ m, k = m + 1 := ⟨k - 1, by omega⟩
    have hw : wrap64 (x + 1) = x + 1 := wrap64_in (by omega) (by omega)
    have hb := div_bd x n h0 hn
    have hi := is_frame x c i n hn
    have he := ih k (x + 1) (by omega) (by omega) (by omega) (by omega)
    simp only [cofferdamref08_Frame.l0]
    rw [if_pos (by omega), if_neg (by omega), Int.tmod_eq_emod_of_nonneg h0, Int.tdiv_eq_ediv_of_nonneg h0, wrap64_in (x := x / n) (by omega) (by omega), hw, he]
    by_cases h : x % n = c ∧ x / n = i
    · obtain ⟨c0, c1, hx⟩ := hi.1 h
      rw [if_pos h.1, if_pos h.2, hx, if_pos ⟨⟨c0, c1⟩, by omega, by omega⟩]
    · have hne : (if (0 ≤ c ∧ c ≤ n - 1) ∧ x + 1 ≤ i * n + c ∧ i * n + c ≤ 4095 then some (i * n + c, (0 : Int)) else some (0, 2)) = (if (0 ≤ c ∧ c ≤ n - 1) ∧ x ≤ i * n + c ∧ i * n + c ≤ 4095 then some (i * n + c, 0) else some (0, 2)) := by
        have hz : 0 ≤ c ∧ c ≤ n - 1 → i * n + c ≠ x := fun hc e => h (hi.2 ⟨hc.1, hc.2, e⟩)
        by_cases hc : 0 ≤ c ∧ c ≤ n - 1
        · have := hz hc
          by_cases hq : x + 1 ≤ i * n + c ∧ i * n + c ≤ 4095
          · rw [if_pos ⟨hc, hq⟩, if_pos ⟨hc, by omega, hq.2⟩]
          · rw [if_neg (fun z => hq z.2), if_neg (fun z => hq ⟨by omega, z.2.2⟩)]
        · rw [if_neg (fun z => hc z.1), if_neg (fun z => hc z.1)]
      rw [hne]
      by_cases h1 : x % n = c
      · rw [if_pos h1, if_neg (fun e => h ⟨h1, e⟩)]
      · rw [if_neg h1]
theorem ColourOf : cofferdamlaw08_ColourOf.Pure := by
  intro a0 a1 a2 h0 h1 h2
  have b0 := wf_i64 h0
  have b1 := wf_i64 h1
  have b2 := wf_i64 h2
  refine ⟨5000, ?_⟩
  have hw := works_true 5000 (by decide)
  have ef : cofferdamref08_Frame.f 5000 a0 a1 a2 = colour_Frame.f a0 a1 a2 := by
    rw [frame_eq a0 a1 a2 b1.1 b1.2]
    unfold cofferdamref08_Frame.f
    rw [show cofferdamref08_colours.f a2 = colour_may.f a2 from rfl, may_eq]
    by_cases hn : 1 ≤ a2 ∧ a2 ≤ 16
    · rw [decide_eq_true hn]
      simp only [Option.bind_some, if_true]
      rw [frame_loop a0 a1 a2 hn.1 hn.2 4096 5000 0 (by omega) (by omega) (by omega) (by omega)]
      by_cases hc : 0 ≤ a0 ∧ a0 ≤ a2 - 1
      · by_cases hq : 0 ≤ a1 * a2 + a0 ∧ a1 * a2 + a0 ≤ 4095
        · have hi : 0 ≤ a1 := by
            by_cases hpos : 0 ≤ a1
            · exact hpos
            · have : a1 * a2 ≤ (-1) * a2 := Int.mul_le_mul_of_nonneg_right (by omega) (by omega)
              omega
          rw [if_pos ⟨hc, hq⟩, if_pos ⟨hn, hc, hi, hq.2⟩]
        · rw [if_neg (fun z => hq z.2), if_neg (fun z => hq ⟨by have := Int.mul_nonneg z.2.2.1 (show 0 ≤ a2 by omega); omega, z.2.2.2⟩)]
      · rw [if_neg (fun z => hc z.1), if_neg (fun z => hc z.2.1)]
    · have hR : (if (1 ≤ a2 ∧ a2 ≤ 16) ∧ (0 ≤ a0 ∧ a0 ≤ a2 - 1) ∧ 0 ≤ a1 ∧ a1 * a2 + a0 ≤ 4095 then some (a1 * a2 + a0, (0 : Int)) else some (0, 2)) = some (0, 2) := if_neg (fun z => hn z.1)
      rw [decide_eq_false hn, hR]
      simp
  have s1 : ∃ r, colour_Of.f a0 a2 = some r := by rw [of_eq]; split <;> exact ⟨_, rfl⟩
  have s2 : ∃ r, colour_Index.f a0 a2 = some r := by rw [index_eq]; split <;> exact ⟨_, rfl⟩
  have s3 : ∃ r, colour_Frame.f a0 a1 a2 = some r := by rw [frame_eq a0 a1 a2 b1.1 b1.2]; split <;> exact ⟨_, rfl⟩
  obtain ⟨r1, e1⟩ := s1
  obtain ⟨r2, e2⟩ := s2
  obtain ⟨r3, e3⟩ := s3
  have f1 : cofferdamref08_Of.f a0 a2 = some r1 := e1
  have f2 : cofferdamref08_Index.f a0 a2 = some r2 := e2
  rw [e3] at ef
  unfold cofferdamlaw08_ColourOf.f
  rw [e1, f1, e2, f2, e3, ef, hw]
  simp

end Go.Proofs.Ytkihoeacojcdlaa.Pure
