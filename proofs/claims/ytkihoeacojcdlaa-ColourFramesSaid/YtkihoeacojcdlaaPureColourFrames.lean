/- ColourFrames: the program's frames of some colours and their counts are the document's, in memory of their own; the list that came in stays. -/
import Derived.Test.YtkihoeacojcdlaaHx3
import Derived.Test.YtkihoeacojcdlaaQ2
namespace Go.Proofs.Ytkihoeacojcdlaa.Pure
open Go.RowKit Go.Proofs.Ytkihoeacojcdlaa.H Go.Proofs.YtkihoeacojcdlaaW.PrintWords Go.Proofs.YtkihoeacojcdlaaW.PrintLast
set_option linter.unusedVariables false
theorem frames_same (a b : Int) (l : List Int) : cofferdamref08_Frames.f a b l = colour_Frames.f a b l := rfl
theorem frames_some (a b : Int) (l : List Int) : ∃ F e, colour_Frames.f a b l = some (F, e) ∧ F.length ≤ 4096 := by
  unfold colour_Frames.f
  by_cases h : 1 ≤ a ∧ a ≤ 4096 ∧ 1 ≤ b ∧ b ≤ 16
  · rw [if_pos h]
    by_cases hg : good b (-1) l = true
    · rw [if_pos hg]
      have := fr_le b l a.toNat
      exact ⟨_, _, rfl, by omega⟩
    · rw [if_neg hg]
      exact ⟨_, _, rfl, by simp⟩
  · rw [if_neg h]
    exact ⟨_, _, rfl, by simp⟩
theorem count_same (m n c : Int) : ∃ q e, colour_Count.f m n c = some (q, e) ∧ cofferdamref08_Count.f m n c = some (q, e) := by
  unfold cofferdamref08_Count.f cofferdamref08_Frames.f
  by_cases h : 1 ≤ m ∧ m ≤ 4096 ∧ 1 ≤ n ∧ n ≤ 16
  · obtain ⟨h1, h2, h3, h4⟩ := h
    rw [if_pos ⟨h1, h2, h3, h4⟩]
    by_cases hc : 0 ≤ c ∧ c ≤ n - 1
    · have hg : good n (-1) [c] = true := by simp [good]; omega
      rw [if_pos hg, count_eq ⟨h1, h2⟩ ⟨h3, h4⟩ hc]
      refine ⟨_, _, rfl, ?_⟩
      have hl := fr_len ⟨h3, h4⟩ hg m.toNat
      have hm : ((m.toNat : Nat) : Int) = m := by omega
      rw [hm] at hl
      simp only [Option.bind_some, hl, sumc]
      simp
    · have hg : ¬ good n (-1) [c] = true := by simp [good]; omega
      rw [if_neg hg]
      refine ⟨0, 2, ?_, rfl⟩
      unfold colour_Count.f
      rw [within_eq, may_eq, wrap64_in (x := n - 1) (by omega) (by omega), within_eq, decide_eq_true ⟨h1, h2⟩, decide_eq_true ⟨h3, h4⟩, decide_eq_false hc]
      simp
  · rw [if_neg h]
    refine ⟨0, 2, ?_, rfl⟩
    unfold colour_Count.f
    rw [within_eq, may_eq]
    by_cases h1 : 1 ≤ m ∧ m ≤ 4096
    · have h2 : ¬ (1 ≤ n ∧ n ≤ 16) := fun hh => h ⟨h1.1, h1.2, hh⟩
      rw [decide_eq_true h1, decide_eq_false h2]
      simp
    · rw [decide_eq_false h1]
      simp
theorem up1 {j : Nat} (h : j < 1000000000000000000) : wrap64 ((j : Int) + 1) = ((j + 1 : Nat) : Int) := by unfold wrap64; omega
theorem eq_self_l (l : List Int) (hl : l.length < 1000000000000000000) : ∀ (t k j : Nat), j + t = l.length → t + 1 ≤ k → cofferdamref00_EqInts.l0 k l l (j : Int) = some true := by
  intro t
  induction t with
  | zero =>
    intro k j hj hk
    obtain ⟨k, rfl⟩ : ∃ q, k = q + 1 := ⟨k - 1, by omega⟩
    simp only [cofferdamref00_EqInts.l0]
    rw [if_neg (by omega)]
  | succ t ih =>
    intro k j hj hk
    obtain ⟨k, rfl⟩ : ∃ q, k = q + 1 := ⟨k - 1, by omega⟩
    simp only [cofferdamref00_EqInts.l0]
    rw [if_pos (by omega), if_pos (by omega), if_pos (by omega)]
    simp only [if_true]
    rw [up1 (by omega)]
    exact ih k (j + 1) (by omega) (by omega)
theorem eq_self (l : List Int) (hl : l.length < 1000000000000000000) (k : Nat) (hk : l.length + 1 ≤ k) : cofferdamref00_EqInts.f k l l = some true := by
  unfold cofferdamref00_EqInts.f
  rw [if_pos rfl]
  exact eq_self_l l hl l.length k 0 (by omega) hk
theorem set_mid (A B : List Int) (x v : Int) (i : Nat) (h : A.length = i) : (A ++ x :: B).set i v = A ++ v :: B := by
  subst h
  rw [List.set_append]
  simp
theorem rd_mid (A B : List Int) (x : Int) (i : Nat) (h : A.length = i) : rd (A ++ x :: B) (i : Int) = x := by
  subst h
  simp [rd, List.getD]
theorem step_list (l : List Int) (i m : Nat) (h : i < l.length) : l.take i ++ rd l (i : Int) :: List.replicate m 0 = l.take (i + 1) ++ List.replicate m 0 := by
  have e1 : rd l (i : Int) = l[i] := by simp [rd, List.getD, h]
  rw [e1, ← List.take_append_getElem h, List.append_assoc]
  rfl
theorem fr_l3 (a b : Int) (l F : List Int) (hl : l.length < 1000000000000000000) (hF : F.length ≤ 4096) : ∀ (t k j : Nat), j + t = 20 → 2 * t + 5000 ≤ k → cofferdamlaw08_ColourFrames.l3 k a b l F F (j : Int) = some true := by
  have fin : ∀ k j : Nat, 4999 ≤ k → cofferdamlaw08_ColourFrames.j5 k a b l F F (j : Int) false = some true := by
    intro k j hk
    obtain ⟨k, rfl⟩ : ∃ q, k = q + 1 := ⟨k - 1, by omega⟩
    simp only [cofferdamlaw08_ColourFrames.j5, Bool.false_eq_true, if_false]
    rw [eq_self F (by omega) k (by omega), works_true k (by omega)]
    simp
  intro t
  induction t with
  | zero =>
    intro k j hj hk
    obtain ⟨k, rfl⟩ : ∃ q, k = q + 1 := ⟨k - 1, by omega⟩
    simp only [cofferdamlaw08_ColourFrames.l3]
    rw [decide_eq_false (p := (j : Int) < 20) (by omega), fin k j (by omega)]
    simp
  | succ t ih =>
    intro k j hj hk
    obtain ⟨k, rfl⟩ : ∃ q, k = q + 2 := ⟨k - 2, by omega⟩
    by_cases hjl : j < l.length
    · obtain ⟨q, e, h1, h2⟩ := count_same a b (rd l (j : Int))
      simp only [cofferdamlaw08_ColourFrames.l3]
      rw [if_pos (by omega), decide_eq_true (p := (j : Int) < 20) (by omega)]
      simp only [cofferdamlaw08_ColourFrames.j5, if_true]
      rw [if_pos (by omega), if_pos (by omega), h1, h2]
      simp only [Option.bind_some, if_true]
      rw [up1 (by omega)]
      exact ih k (j + 1) (by omega) (by omega)
    · have := fin (k + 1) j (by omega)
      rw [cofferdamlaw08_ColourFrames.l3, if_neg (by omega)]
      exact this
theorem fr_l2 (a b : Int) (l F : List Int) (hl : l.length < 1000000000000000000) (hF : F.length ≤ 4096) : ∀ (t k j : Nat) (X : List Int), j + t = 10 → X.length ≤ 10000 + j → t + 6000 ≤ k → cofferdamlaw08_ColourFrames.l2 k a b l X F F (j : Int) = some true := by
  intro t
  induction t with
  | zero =>
    intro k j X hj hX hk
    obtain ⟨k, rfl⟩ : ∃ q, k = q + 1 := ⟨k - 1, by omega⟩
    simp only [cofferdamlaw08_ColourFrames.l2]
    rw [if_neg (by omega)]
    exact fr_l3 a b l F hl hF 20 k 0 (by omega) (by omega)
  | succ t ih =>
    intro k j X hj hX hk
    obtain ⟨k, rfl⟩ : ∃ q, k = q + 1 := ⟨k - 1, by omega⟩
    simp only [cofferdamlaw08_ColourFrames.l2]
    rw [if_pos (by omega), if_pos (by omega), up1 (by omega)]
    exact ih k (j + 1) _ (by omega) (by simp; omega) (by omega)
theorem fr_l1 (a b : Int) (l F : List Int) (hl : l.length < 1000000000000000000) (hF : F.length ≤ 4096) : ∀ (t k j : Nat) (X : List Int), j + t = X.length → X.length ≤ 4096 → t + 7000 ≤ k → cofferdamlaw08_ColourFrames.l1 k a b l X F F (j : Int) = some true := by
  intro t
  induction t with
  | zero =>
    intro k j X hj hX hk
    obtain ⟨k, rfl⟩ : ∃ q, k = q + 1 := ⟨k - 1, by omega⟩
    simp only [cofferdamlaw08_ColourFrames.l1]
    rw [if_neg (by omega)]
    exact fr_l2 a b l F hl hF 10 k 0 X (by omega) (by omega) (by omega)
  | succ t ih =>
    intro k j X hj hX hk
    obtain ⟨k, rfl⟩ : ∃ q, k = q + 1 := ⟨k - 1, by omega⟩
    simp only [cofferdamlaw08_ColourFrames.l1]
    rw [if_pos (by omega), if_pos (by omega), up1 (by omega)]
    exact ih k (j + 1) _ (by simp; omega) (by simp; omega) (by omega)
theorem fr_end (a b : Int) (l : List Int) (hl : l.length < 100000000000000000) (k : Nat) (hk : 2 * l.length + 20000 ≤ k) : cofferdamlaw08_ColourFrames.l0 k a b l (l ++ [-77, -77, -77]) ((l.length + 3 : Nat) : Int) = some true := by
  obtain ⟨k, rfl⟩ : ∃ q, k = q + 2 := ⟨k - 2, by omega⟩
  obtain ⟨F, e, h1, hF⟩ := frames_some a b l
  have ht : (l ++ [-77, -77, -77]).take ((l.length : Int).toNat) = l := by simp
  have hr0 : rd (l ++ [-77, -77, -77]) (l.length : Int) = -77 := rd_mid l [-77, -77] (-77) _ rfl
  have hr2 : rd (l ++ [-77, -77, -77]) ((l.length : Int) + 2) = -77 := by
    have := rd_mid (l ++ [-77, -77]) [] (-77) (l.length + 2) (by simp)
    simpa using this
  have hw : wrap64 ((l.length : Int) + 2) = (l.length : Int) + 2 := by clear hr0 hr2 ht; unfold wrap64; omega
  have hlen : (l ++ [-77, -77, -77]).length = l.length + 3 := by simp
  rw [cofferdamlaw08_ColourFrames.l0]
  simp only [ht, hw, hr0, hr2, hlen, frames_same, h1, Option.bind_some]
  rw [if_neg (by omega), if_pos (by omega), if_pos (by omega)]
  simp only [if_true]
  rw [eq_self F (by omega) _ (by omega), eq_self l (by omega) _ (by omega)]
  simp only [Option.bind_some, if_true]
  rw [if_pos (by omega), if_pos (by omega), if_pos (by omega)]
  simp only [cofferdamlaw08_ColourFrames.j1]
  rw [if_neg (by simp)]
  exact fr_l1 a b l F (by omega) hF F.length k 0 F (by omega) hF (by omega)
theorem set_two (A B : List Int) (x u v : Int) (i : Nat) (h : A.length = i) : ((A ++ x :: B).set i u).set i v = A ++ v :: B := by
  rw [set_mid A B x u i h, set_mid A B u v i h]
theorem rep_succ (m : Nat) : List.replicate (m + 1) (0 : Int) = 0 :: List.replicate m 0 := rfl
theorem fr_tail (a b : Int) (l : List Int) (hl : l.length < 100000000000000000) (k j : Nat) (hj : j < 3) (hk : 1 ≤ k) : cofferdamlaw08_ColourFrames.l0 k a b l (l ++ List.replicate j (-77) ++ List.replicate (3 - j) 0) ((l.length + j : Nat) : Int) = cofferdamlaw08_ColourFrames.l0 (k - 1) a b l (l ++ List.replicate (j + 1) (-77) ++ List.replicate (2 - j) 0) ((l.length + (j + 1) : Nat) : Int) := by
  obtain ⟨k, rfl⟩ : ∃ q, k = q + 1 := ⟨k - 1, by omega⟩
  rw [cofferdamlaw08_ColourFrames.l0]
  rw [if_pos (by simp; omega), if_pos (by omega), up1 (by omega)]
  simp only [Option.bind_some, Int.toNat_natCast]
  rw [if_neg (by omega)]
  rw [show 3 - j = (2 - j) + 1 by omega, rep_succ, set_mid _ _ _ _ _ (by simp), show k + 1 - 1 = k by omega]
  congr 1
  rw [List.replicate_succ']
  simp
theorem fr_l0 (a b : Int) (l : List Int) (hl : l.length < 100000000000000000) : ∀ (t k j : Nat), j + t = l.length → t + 2 * l.length + 30000 ≤ k → cofferdamlaw08_ColourFrames.l0 k a b l (l.take j ++ List.replicate (l.length + 3 - j) 0) (j : Int) = some true := by
  intro t
  induction t with
  | zero =>
    intro k j hj hk
    have hj' : j = l.length := by omega
    subst hj'
    have h0 := fr_tail a b l hl k 0 (by omega) (by omega)
    have h1 := fr_tail a b l hl (k - 1) 1 (by omega) (by omega)
    have h2 := fr_tail a b l hl (k - 2) 2 (by omega) (by omega)
    rw [show k - 1 - 1 = k - 2 by omega] at h1
    rw [h1, h2] at h0
    rw [List.take_length, show l.length + 3 - l.length = 3 by omega]
    have he := fr_end a b l hl (k - 2 - 1) (by omega)
    simp only [List.replicate] at h0 ⊢
    simp only [List.append_nil, Nat.add_zero] at h0
    rw [h0]
    simpa using he
  | succ t ih =>
    intro k j hj hk
    obtain ⟨k, rfl⟩ : ∃ q, k = q + 1 := ⟨k - 1, by omega⟩
    have hjl : j < l.length := by omega
    have hlen : (l.take j ++ List.replicate (l.length + 3 - j) 0).length = l.length + 3 := by simp; omega
    rw [cofferdamlaw08_ColourFrames.l0, hlen]
    rw [if_pos (by omega), if_pos (by omega), up1 (by omega)]
    simp only [Option.bind_some, Int.toNat_natCast]
    rw [if_pos (by omega)]
    rw [show l.length + 3 - j = (l.length + 3 - (j + 1)) + 1 by omega, rep_succ, set_two _ _ _ _ _ _ (by simp; omega), step_list l j _ hjl]
    exact ih k (j + 1) (by omega) (by omega)
theorem ColourFrames : cofferdamlaw08_ColourFrames.Pure := by
  intro a b l h0 h1 h2 h3 h4
  refine ⟨3 * l.length + 30000, ?_⟩
  have hw : wrap64 ((l.length : Int) + 3) = ((l.length + 3 : Nat) : Int) := by clear h0 h1 h4; unfold wrap64; omega
  unfold cofferdamlaw08_ColourFrames.f
  rw [hw, if_pos (by omega), if_pos (by omega)]
  have := fr_l0 a b l (by omega) l.length (3 * l.length + 30000) 0 (by omega) (by omega)
  rw [List.take_zero, List.nil_append] at this
  rw [Int.toNat_natCast]
  exact this
end Go.Proofs.Ytkihoeacojcdlaa.Pure
