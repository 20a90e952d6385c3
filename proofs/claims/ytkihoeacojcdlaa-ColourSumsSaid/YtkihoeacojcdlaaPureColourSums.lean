/- ColourSums: the counts of all colours sum to the machine's frames, and the frames of a list of colours are as many as their counts, rising, below the end, each of one of its colours. -/
import Derived.Test.YtkihoeacojcdlaaHx5
import Derived.Test.YtkihoeacojcdlaaQ2
namespace Go.Proofs.Ytkihoeacojcdlaa.Pure
open Go.RowKit Go.Proofs.Ytkihoeacojcdlaa.H Go.Proofs.YtkihoeacojcdlaaW.PrintWords Go.Proofs.YtkihoeacojcdlaaW.PrintLast
set_option linter.unusedVariables false

theorem rd_mem {l : List Int} {j : Nat} (h : j < l.length) : rd l (j : Int) ∈ l := by
  have : rd l (j : Int) = l[j] := by simp [rd, List.getD, h]
  rw [this]; exact List.getElem_mem h
theorem rd_up {l : List Int} (hp : List.Pairwise (· < ·) l) {i j : Nat} (hij : i < j) (h : j < l.length) : rd l (i : Int) < rd l (j : Int) := by
  have e1 : rd l (j : Int) = l[j] := by simp [rd, List.getD, h]
  have e2 : rd l (i : Int) = l[i]'(by omega) := by simp [rd, List.getD, show i < l.length by omega]
  rw [e1, e2]
  exact List.pairwise_iff_getElem.1 hp i j (by omega) h hij
theorem take_next (l : List Int) (j : Nat) (h : j < l.length) : l.take (j + 1) = l.take j ++ [rd l (j : Int)] := by
  have e1 : rd l (j : Int) = l[j] := by simp [rd, List.getD, h]
  rw [e1, List.take_append_getElem h]
theorem nxt {j : Nat} (h : j < 1000000) : wrap64 ((j : Int) + 1) = ((j + 1 : Nat) : Int) := by unfold wrap64; omega
theorem contains_snoc (l : List Int) (x v : Int) : (l ++ [x]).contains v = (l.contains v || (x == v)) := by
  by_cases h : v = x
  · subst h; simp
  · have h2 : ¬ x = v := fun e => h e.symm
    simp [h, beq_false_of_ne h2]
/-- The walk over the list: whether the frame's colour is one of it. -/
theorem sums_l3 (m n : Int) (l F : List Int) (s : Int) (i : Nat) (v : Int) (hl : l.length ≤ 16) (hv : l.contains v = true) (hi : i < F.length) (hF : F.length ≤ 4096) (h1 : rd F (i : Int) < m) (h2 : 0 < i → rd F ((i - 1 : Nat) : Int) < rd F (i : Int)) :
    ∀ (t k j : Nat), j + t = l.length → t + 1 ≤ k → cofferdamlaw08_ColourSums.l3 k m n l F s (i : Int) v 0 ((l.take j).contains v) (j : Int) = cofferdamlaw08_ColourSums.l2 (k - t - 1) m n l F s ((i + 1 : Nat) : Int) := by
  intro t
  induction t with
  | zero =>
    intro k j hj hk
    obtain ⟨k, rfl⟩ : ∃ q, k = q + 1 := ⟨k - 1, by omega⟩
    have hlj : l.take j = l := List.take_of_length_le (by omega)
    simp only [cofferdamlaw08_ColourSums.l3]
    rw [if_neg (by omega), hlj, hv]
    simp only [if_true]
    rw [show k + 1 - 0 - 1 = k by omega, nxt (j := i) (by omega)]
    by_cases h0 : 0 < i
    · have hw : wrap64 ((i : Int) - 1) = ((i - 1 : Nat) : Int) := by clear h1 h2 hv; unfold wrap64; omega
      have h2 := h2 h0
      rw [hw, if_pos (by omega), if_pos (by omega), if_pos (by omega), if_pos (by omega), if_pos (by omega), if_neg (by omega), if_neg (by omega)]
    · rw [if_neg (by omega), if_pos (by omega), if_pos (by omega), if_neg (by omega)]
  | succ t ih =>
    intro k j hj hk
    obtain ⟨k, rfl⟩ : ∃ q, k = q + 1 := ⟨k - 1, by omega⟩
    have ih := ih k (j + 1) (by omega) (by omega)
    rw [take_next l j (by omega), contains_snoc] at ih
    simp only [cofferdamlaw08_ColourSums.l3]
    rw [if_pos (by omega), nxt (j := j) (by omega), show k + 1 - (t + 1) - 1 = k - t - 1 by omega, ← ih]
    cases hc : (l.take j).contains v with
    | true => simp
    | false =>
      simp only [Bool.false_eq_true, if_false, Bool.false_or]
      rw [if_pos (by omega)]
theorem sums_l2 (m : Int) (n : Int) (hm : 1 ≤ m ∧ m ≤ 4096) (hn : 1 ≤ n ∧ n ≤ 16) (l F : List Int) (hl : l.length ≤ 16) (hF : F.length ≤ 4096) (hmem : ∀ x ∈ F, 0 ≤ x ∧ x < m ∧ l.contains (x % n) = true) (hup : List.Pairwise (· < ·) F) :
    ∀ (t k i : Nat), i + t = F.length → t * 20 + 1 ≤ k → cofferdamlaw08_ColourSums.l2 k m n l F (F.length : Int) (i : Int) = some true := by
  intro t
  induction t with
  | zero =>
    intro k i hi hk
    obtain ⟨k, rfl⟩ : ∃ q, k = q + 1 := ⟨k - 1, by omega⟩
    simp only [cofferdamlaw08_ColourSums.l2]
    rw [if_neg (by omega)]
    simp
  | succ t ih =>
    intro k i hi hk
    obtain ⟨k, rfl⟩ : ∃ q, k = q + 1 := ⟨k - 1, by omega⟩
    have hilt : i < F.length := by omega
    have hx := hmem _ (rd_mem hilt)
    have hof : colour_Of.f (rd F (i : Int)) n = some (rd F (i : Int) % n, 0) := by
      rw [of_eq]
      exact if_pos ⟨⟨hx.1, by omega⟩, hn⟩
    have h3 := sums_l3 m n l F (F.length : Int) i (rd F (i : Int) % n) hl hx.2.2 hilt hF hx.2.1 (fun h0 => rd_up hup (by omega) hilt) l.length k 0 (by omega) (by omega)
    simp only [cofferdamlaw08_ColourSums.l2]
    rw [if_pos (by omega), if_pos (by omega), hof]
    simp only [Option.bind_some]
    have h30 : (l.take 0).contains (rd F (i : Int) % n) = false := rfl
    rw [h30] at h3
    rw [show ((0 : Nat) : Int) = 0 from rfl] at h3
    rw [h3]
    exact ih (k - l.length - 1) (i + 1) (by omega) (by omega)
theorem sums_l1 (m : Nat) (n : Int) (hm : 1 ≤ (m : Int) ∧ (m : Int) ≤ 4096) (hn : 1 ≤ n ∧ n ≤ 16) (l : List Int) (hg : good n (-1) l = true) (hl : l.length ≤ 16) :
    ∀ (t k j : Nat), j + t = l.length → t + 90000 ≤ k → cofferdamlaw08_ColourSums.l1 k (m : Int) n l (fr n l m) (sumc (m : Int) n (l.take j)) (j : Int) = some true := by
  intro t
  induction t with
  | zero =>
    intro k j hj hk
    obtain ⟨k, rfl⟩ : ∃ q, k = q + 1 := ⟨k - 1, by omega⟩
    have hlj : l.take j = l := List.take_of_length_le (by omega)
    have hfl := fr_le n l m
    simp only [cofferdamlaw08_ColourSums.l1]
    rw [if_neg (by omega), hlj, ← fr_len hn hg m]
    exact sums_l2 m n hm hn l (fr n l m) hl (by omega) (fun x hx => fr_mem n l m x hx) (fr_up n l m) (fr n l m).length k 0 (by omega) (by omega)
  | succ t ih =>
    intro k j hj hk
    obtain ⟨k, rfl⟩ : ∃ q, k = q + 1 := ⟨k - 1, by omega⟩
    have hjl : j < l.length := by omega
    have ih := ih k (j + 1) (by omega) (by omega)
    have ha := good_at hg j hjl
    have hlo := good_lo _ _ (good_take hg j)
    have hf1 := fr_len hn (good_take hg j) m
    have hf2 := fr_le n (l.take j) m
    have hb := cnt_bd (m := (m : Int)) (by omega) hm.2 hn (c := rd l (j : Int)) (by omega)
    rw [take_next l j hjl, sumc_snoc] at ih
    simp only [cofferdamlaw08_ColourSums.l1]
    rw [if_pos (by omega), if_pos (by omega), count_eq hm hn (by omega)]
    simp only [Option.bind_some, if_true]
    rw [wrap64_in (by omega) (by omega), nxt (by omega)]
    exact ih
theorem sums_j2 (m : Nat) (n : Int) (hm : 1 ≤ (m : Int) ∧ (m : Int) ≤ 4096) (hn : 1 ≤ n ∧ n ≤ 16) (l : List Int) (k : Nat) (hk : 95000 ≤ k) : cofferdamlaw08_ColourSums.j2 k (m : Int) n l false = some true := by
  obtain ⟨k, rfl⟩ : ∃ q, k = q + 1 := ⟨k - 1, by omega⟩
  have hall : 1 ≤ (m : Int) ∧ (m : Int) ≤ 4096 ∧ 1 ≤ n ∧ n ≤ 16 := ⟨hm.1, hm.2, hn.1, hn.2⟩
  simp only [cofferdamlaw08_ColourSums.j2, colour_Frames.f, Bool.false_eq_true, if_false]
  rw [if_pos hall]
  cases hg : good n (-1) l with
  | false => simp
  | true =>
    simp only [if_true, Option.bind_some, Int.toNat_natCast]
    have hl := good_len l (-1) hg (by omega)
    exact sums_l1 m n hm hn l hg (by omega) l.length k 0 (by omega) (by omega)
theorem sums_l0 (m n : Nat) (hm : 1 ≤ (m : Int) ∧ (m : Int) ≤ 4096) (hn : 1 ≤ (n : Int) ∧ (n : Int) ≤ 16) (l : List Int) :
    ∀ (t k j : Nat), j + t = n → t + 96000 ≤ k → cofferdamlaw08_ColourSums.l0 k (m : Int) (n : Int) l (sumc (m : Int) (n : Int) (rgl j)) (rgl j) (j : Int) = some true := by
  intro t
  induction t with
  | zero =>
    intro k j hj hk
    obtain ⟨k, rfl⟩ : ∃ q, k = q + 1 := ⟨k - 1, by omega⟩
    obtain rfl : j = n := by omega
    have hall : 1 ≤ (m : Int) ∧ (m : Int) ≤ 4096 ∧ 1 ≤ (j : Int) ∧ (j : Int) ≤ 16 := ⟨hm.1, hm.2, hn.1, hn.2⟩
    have hg := rgl_good (n := (j : Int)) j (by omega)
    have hs := fr_len hn hg m
    have hfa := fr_all (n := j) (by omega) m
    have hj2 := sums_j2 m (j : Int) hm hn l k (by omega)
    simp only [cofferdamlaw08_ColourSums.l0, colour_Frames.f]
    rw [if_neg (by omega), if_pos hall, if_pos hg]
    simp only [Option.bind_some, if_true, Int.toNat_natCast]
    rw [if_pos (by omega), hfa, bne_self_eq_false]
    exact hj2
  | succ t ih =>
    intro k j hj hk
    obtain ⟨k, rfl⟩ : ∃ q, k = q + 1 := ⟨k - 1, by omega⟩
    have ih := ih k (j + 1) (by omega) (by omega)
    have hg := rgl_good (n := (n : Int)) j (by omega)
    have hf1 := fr_len hn hg m
    have hf2 := fr_le (n : Int) (rgl j) m
    have hb := cnt_bd (m := (m : Int)) (by omega) hm.2 hn (c := (j : Int)) (by omega)
    simp only [rgl] at ih
    rw [sumc_snoc] at ih
    simp only [cofferdamlaw08_ColourSums.l0]
    rw [if_pos (by omega), count_eq hm hn (by omega)]
    simp only [Option.bind_some, if_true]
    rw [if_pos (by rw [rgl_len]; omega), wrap64_in (by omega) (by omega), nxt (by omega)]
    exact ih
theorem sums_bad (m n : Int) (l : List Int) (k : Nat) (hk : 1 ≤ k) (h : ¬ (1 ≤ m ∧ m ≤ 4096 ∧ 1 ≤ n ∧ n ≤ 16)) : cofferdamlaw08_ColourSums.j0 k m n l true = some true := by
  obtain ⟨k, rfl⟩ : ∃ q, k = q + 1 := ⟨k - 1, by omega⟩
  simp only [cofferdamlaw08_ColourSums.j0, colour_Frames.f, if_true]
  rw [if_neg h]
  rfl
theorem ColourSums : cofferdamlaw08_ColourSums.Pure := by
  intro m n l _ _ _ _ _
  refine ⟨100000, ?_⟩
  unfold cofferdamlaw08_ColourSums.f
  rw [works_true 100000 (by omega)]
  simp only [Option.bind_some, if_true]
  by_cases h1 : m < 1
  · rw [if_pos h1]; exact sums_bad m n l 100000 (by omega) (by omega)
  · rw [if_neg h1]
    by_cases h2 : m > 4096
    · rw [if_pos h2]; exact sums_bad m n l 100000 (by omega) (by omega)
    · rw [if_neg h2]
      by_cases h3 : n < 1
      · rw [if_pos h3]; exact sums_bad m n l 100000 (by omega) (by omega)
      · rw [if_neg h3]
        by_cases h4 : n > 16
        · rw [decide_eq_true h4]; exact sums_bad m n l 100000 (by omega) (by omega)
        · rw [decide_eq_false h4]
          obtain ⟨m, rfl⟩ : ∃ q : Nat, m = (q : Int) := ⟨m.toNat, by omega⟩
          obtain ⟨n, rfl⟩ : ∃ q : Nat, n = (q : Int) := ⟨n.toNat, by omega⟩
          have hl0 := sums_l0 m n (by omega) (by omega) l n 99999 0 (by omega) (by omega)
          show cofferdamlaw08_ColourSums.j0 (99999 + 1) (m : Int) (n : Int) l false = some true
          simp only [cofferdamlaw08_ColourSums.j0, Bool.false_eq_true, if_false]
          exact hl0
end Go.Proofs.Ytkihoeacojcdlaa.Pure
