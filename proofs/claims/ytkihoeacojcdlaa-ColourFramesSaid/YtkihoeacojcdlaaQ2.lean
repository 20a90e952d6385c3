/- Plain laws of chapter 8: what Count comes to, and that the frames of a list of colours are the sum of their counts. -/
import Derived.Test.YtkihoeacojcdlaaHx2
import Derived.Test.YtkihoeacojcdlaaQ1
namespace Go.Proofs.Ytkihoeacojcdlaa.Pure
open Go.RowKit Go.Proofs.Ytkihoeacojcdlaa.H Go.Proofs.YtkihoeacojcdlaaW.PrintWords Go.Proofs.YtkihoeacojcdlaaW.PrintLast
set_option linter.unusedVariables false
def cnt (m c n : Int) : Int := (m - c + n - 1) / n
theorem cnt_bd {m c n : Int} (hm : 0 ≤ m) (hm2 : m ≤ 4096) (hn : 1 ≤ n ∧ n ≤ 16) (hc : 0 ≤ c ∧ c ≤ n - 1) : 0 ≤ cnt m c n ∧ cnt m c n ≤ 4112 := by
  have := div_bd (m - c + n - 1) n (by omega) hn.1
  unfold cnt; omega
theorem count_eq {m c n : Int} (hm : 1 ≤ m ∧ m ≤ 4096) (hn : 1 ≤ n ∧ n ≤ 16) (hc : 0 ≤ c ∧ c ≤ n - 1) : colour_Count.f m n c = some (cnt m c n, 0) := by
  unfold colour_Count.f
  rw [within_eq, decide_eq_true hm]
  simp only [Option.bind_some, if_true]
  rw [may_eq, decide_eq_true hn]
  simp only [Option.bind_some, if_true]
  have hb := cnt_bd (m := m) (by omega) hm.2 hn hc
  rw [wrap64_in (x := n - 1) (by omega) (by omega), within_eq, decide_eq_true hc]
  simp only [Option.bind_some, if_true]
  rw [if_neg (by omega), wrap64_in (x := m - c) (by omega) (by omega), wrap64_in (x := m - c + n) (by omega) (by omega), wrap64_in (x := m - c + n - 1) (by omega) (by omega), Int.tdiv_eq_ediv_of_nonneg (by omega)]
  unfold cnt at hb
  rw [wrap64_in (by omega) (by omega)]
  rfl
theorem cnt_zero {c n : Int} (hc : 0 ≤ c ∧ c ≤ n - 1) : cnt 0 c n = 0 := by
  unfold cnt
  exact Int.ediv_eq_zero_of_lt (by omega) (by omega)
theorem cnt_succ {k c n : Int} (hk : 0 ≤ k) (hn : 1 ≤ n ∧ n ≤ 16) (hc : 0 ≤ c ∧ c ≤ n - 1) : cnt (k + 1) c n = cnt k c n + (if k % n = c then 1 else 0) := by
  have h : n = 1 ∨ n = 2 ∨ n = 3 ∨ n = 4 ∨ n = 5 ∨ n = 6 ∨ n = 7 ∨ n = 8 ∨ n = 9 ∨ n = 10 ∨ n = 11 ∨ n = 12 ∨ n = 13 ∨ n = 14 ∨ n = 15 ∨ n = 16 := by omega
  unfold cnt
  rcases h with rfl | rfl | rfl | rfl | rfl | rfl | rfl | rfl | rfl | rfl | rfl | rfl | rfl | rfl | rfl | rfl <;> split <;> omega
def sumc (m n : Int) : List Int → Int
  | [] => 0
  | c :: l => cnt m c n + sumc m n l
theorem sumc_snoc (m n x : Int) : ∀ l, sumc m n (l ++ [x]) = sumc m n l + cnt m x n
  | [] => by simp [sumc]
  | c :: l => by simp only [List.cons_append, sumc]; rw [sumc_snoc m n x l]; omega
theorem good_out {n : Int} : ∀ (l : List Int) (last x : Int), good n last l = true → x ≤ last → l.contains x = false
  | [], _, _, _, _ => rfl
  | d :: l, last, x, h, hx => by
    simp only [good, Bool.and_eq_true, decide_eq_true_eq] at h
    have := good_out l d x h.2 (by omega)
    simp only [List.contains_cons, this, Bool.or_false]
    exact beq_false_of_ne (by omega)
theorem sumc_zero {n : Int} : ∀ (l : List Int) (last : Int), -1 ≤ last → good n last l = true → sumc 0 n l = 0
  | [], _, _, _ => rfl
  | d :: l, last, hl, h => by
    simp only [good, Bool.and_eq_true, decide_eq_true_eq] at h
    simp only [sumc]
    rw [cnt_zero (by omega), sumc_zero l d (by omega) h.2]; rfl
theorem sumc_succ {n : Int} (hn : 1 ≤ n ∧ n ≤ 16) {k : Int} (hk : 0 ≤ k) : ∀ (l : List Int) (last : Int), -1 ≤ last → good n last l = true → sumc (k + 1) n l = sumc k n l + (if l.contains (k % n) = true then 1 else 0)
  | [], _, _, _ => by simp [sumc]
  | d :: l, last, hl, h => by
    simp only [good, Bool.and_eq_true, decide_eq_true_eq] at h
    have ih := sumc_succ hn hk l d (by omega) h.2
    have h1 := cnt_succ hk hn (c := d) (by omega)
    simp only [sumc]
    rw [ih, h1]
    by_cases he : k % n = d
    · have h2 := good_out l d (k % n) h.2 (by omega)
      rw [if_pos he, h2]
      have h3 : (d :: l).contains (k % n) = true := by simp [he]
      rw [h3]; simp only [if_true, Bool.false_eq_true, if_false]; omega
    · have h3 : (d :: l).contains (k % n) = l.contains (k % n) := by simp only [List.contains_cons, beq_false_of_ne he, Bool.false_or]
      rw [if_neg he, h3]; omega
theorem fr_len {n : Int} (hn : 1 ≤ n ∧ n ≤ 16) {l : List Int} (h : good n (-1) l = true) : ∀ k : Nat, ((fr n l k).length : Int) = sumc (k : Int) n l
  | 0 => by rw [show ((0 : Nat) : Int) = 0 from rfl, sumc_zero l (-1) (by omega) h]; rfl
  | k + 1 => by
    have ih := fr_len hn h k
    rw [show (((k + 1 : Nat)) : Int) = (k : Int) + 1 from rfl, sumc_succ hn (by omega) l (-1) (by omega) h]
    simp only [fr, List.length_append]
    cases hc : l.contains ((k : Int) % n) <;> simp <;> omega
theorem fr_le (n : Int) (l : List Int) : ∀ k : Nat, (fr n l k).length ≤ k
  | 0 => Nat.le_refl _
  | k + 1 => by
    have ih := fr_le n l k
    simp only [fr, List.length_append]
    cases hc : l.contains ((k : Int) % n) <;> simp <;> omega
theorem fr_mem (n : Int) (l : List Int) : ∀ (k : Nat) (x : Int), x ∈ fr n l k → 0 ≤ x ∧ x < k ∧ l.contains (x % n) = true
  | 0, x, h => by cases h
  | k + 1, x, h => by
    simp only [fr, List.mem_append] at h
    rcases h with h | h
    · have := fr_mem n l k x h
      exact ⟨this.1, by omega, this.2.2⟩
    · cases hc : l.contains ((k : Int) % n) with
      | false => rw [hc] at h; simp at h
      | true =>
        rw [hc] at h
        simp only [if_true, List.mem_singleton] at h
        subst h
        exact ⟨by omega, by omega, hc⟩
theorem fr_up (n : Int) (l : List Int) : ∀ (k : Nat), List.Pairwise (· < ·) (fr n l k)
  | 0 => List.Pairwise.nil
  | k + 1 => by
    simp only [fr]
    rw [List.pairwise_append]
    refine ⟨fr_up n l k, ?_, ?_⟩
    · cases l.contains ((k : Int) % n) <;> simp
    · intro a ha b hb
      have := fr_mem n l k a ha
      cases hc : l.contains ((k : Int) % n) with
      | false => rw [hc] at hb; simp at hb
      | true =>
        rw [hc] at hb
        simp only [if_true, List.mem_singleton] at hb
        omega
/-- The colours 0 to j-1. -/
def rgl : Nat → List Int
  | 0 => []
  | j + 1 => rgl j ++ [(j : Int)]
theorem rgl_len : ∀ j, (rgl j).length = j
  | 0 => rfl
  | j + 1 => by simp [rgl, rgl_len j]
theorem rgl_last : ∀ j, lastOf (-1) (rgl j) = (j : Int) - 1
  | 0 => rfl
  | j + 1 => by simp only [rgl]; rw [lastOf_snoc]; omega
theorem rgl_good {n : Int} : ∀ j : Nat, (j : Int) ≤ n → good n (-1) (rgl j) = true
  | 0, _ => rfl
  | j + 1, h => by
    simp only [rgl]
    rw [good_snoc, rgl_last]
    exact ⟨rgl_good j (by omega), by omega, by omega⟩
theorem rgl_mem : ∀ (j : Nat) (x : Int), 0 ≤ x → x < j → (rgl j).contains x = true
  | 0, x, h0, h1 => by omega
  | j + 1, x, h0, h1 => by
    simp only [rgl, List.contains_eq_mem, List.mem_append, List.mem_singleton, decide_eq_true_eq]
    by_cases h : x < j
    · have := rgl_mem j x h0 h
      simp only [List.contains_eq_mem, decide_eq_true_eq] at this
      exact Or.inl this
    · exact Or.inr (by omega)
theorem fr_all {n : Nat} (hn : 1 ≤ n) : ∀ k : Nat, (fr (n : Int) (rgl n) k).length = k
  | 0 => rfl
  | k + 1 => by
    simp only [fr, List.length_append]
    rw [fr_all hn k, rgl_mem n _ (Int.emod_nonneg _ (by omega)) (Int.emod_lt_of_pos _ (by omega))]
    rfl
end Go.Proofs.Ytkihoeacojcdlaa.Pure
