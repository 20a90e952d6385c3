/- Plain law: behind as many touches as there are ways a set holds just these. -/
import Derived.Test.YtcneepffhplpiaaC5
import Derived.Test.YtcneepffhplpiaaC6
import Derived.Test.YtcneepffhplpiaaD3
namespace Go.Proofs.Ytcneepffhplpiaa.H
open Go.RowKit Go.Proofs.YtcneepffhplpiaaW.PrintWords Go.Proofs.YtcneepffhplpiaaW.PrintLast Go.Proofs.YtcneepffhplpiaaW.PrintMore
set_option linter.unusedVariables false
set_option linter.unusedSimpArgs false
set_option maxHeartbeats 4000000
def T : Nat → List Int
  | 0 => []
  | k + 1 => (1000 + 7 * (k : Int)) :: T k
theorem T_len : ∀ k, (T k).length = k
  | 0 => rfl
  | k + 1 => by simp [T, T_len k]
theorem T_lt (x : Int) : ∀ k, x ∈ T k → x < 1000 + 7 * (k : Int)
  | 0, h => by simp [T] at h
  | k + 1, h => by
    simp only [T, List.mem_cons] at h
    rcases h with h | h
    · omega
    · have := T_lt x k h; omega
theorem T_not (k : Nat) : (1000 + 7 * (k : Int)) ∉ T k := fun h => by have := T_lt _ k h; omega
theorem T_get : ∀ (k j : Nat), j < k → rd (T k) (j : Int) = 1000 + 7 * ((k - 1 - j : Nat) : Int)
  | 0, _, h => by omega
  | k + 1, 0, _ => by simp [T, rd]
  | k + 1, j + 1, h => by
    have := T_get k j (by omega)
    have e : rd (T (k + 1)) ((j + 1 : Nat) : Int) = rd (T k) (j : Int) := by simp [T, rd]
    rw [e, this]
    congr 3
    omega
theorem dd_front : ∀ (k : Nat) (h : List Int), ∃ r, dd (T k ++ h) = T k ++ r
  | 0, h => ⟨dd h, by simp [T]⟩
  | k + 1, h => by
    obtain ⟨r, hr⟩ := dd_front k h
    refine ⟨r.filter fun y => y != 1000 + 7 * (k : Int), ?_⟩
    simp only [T, List.cons_append, dd]
    rw [hr, List.filter_append, filter_ne (T_not k)]
theorem dd_T (k : Nat) : dd (T k) = T k := by
  induction k with
  | zero => rfl
  | succ k ih => simp only [T, dd]; rw [ih, filter_ne (T_not k)]
theorem take_T (k w : Nat) (h : List Int) (hk : k = w) : (dd (T k ++ h)).take w = T k := by
  obtain ⟨r, hr⟩ := dd_front k h
  rw [hr, List.take_append_of_le_length (by rw [T_len]; omega), List.take_of_length_le (by rw [T_len]; omega)]
/-- The touches of one set. -/
def TH (s : Nat) (k : Nat) : List (Int × Int) := (T k).map fun t => ((s : Int), t)
theorem TH_next (s k : Nat) : TH s (k + 1) = ((s : Int), 1000 + 7 * (k : Int)) :: TH s k := rfl
theorem hist_TH (s k : Nat) (H : List (Int × Int)) : hist (s : Int) (TH s k ++ H) = T k ++ hist (s : Int) H := by
  simp [hist, TH, List.filter_append, List.filter_map, Function.comp_def]
theorem hist_TH_other (s s' k : Nat) (h : s' ≠ s) : hist (s' : Int) (TH s k) = [] := by
  unfold hist TH
  rw [List.map_eq_nil_iff, List.filter_eq_nil_iff]
  intro p hp
  simp only [List.mem_map] at hp
  obtain ⟨t, _, rfl⟩ := hp
  simp
  omega
theorem same_l0 (l : List S39) (hl : l.length < 4611686018427387904) : ∀ (m i : Nat), i + m = l.length → cofferdamref03_Same.l0 (m + 1) l l (i : Int) = some true
  | 0, i, h => by
    unfold cofferdamref03_Same.l0
    rw [if_neg (by omega)]
  | m + 1, i, h => by
    have ih := same_l0 l hl m (i + 1) (by omega)
    unfold cofferdamref03_Same.l0
    have hw : wrap64 ((i : Int) + 1) = ((i + 1 : Nat) : Int) := by unfold wrap64; omega
    rw [if_pos (by omega), if_pos (by omega), if_pos (by omega), hw, ih]
    simp
theorem same_is (l : List S39) (hl : l.length < 4611686018427387904) : cofferdamref03_Same.f (l.length + 1) l l = some true := by
  unfold cofferdamref03_Same.f
  rw [if_pos rfl]
  exact same_l0 l hl l.length 0 (by omega)
theorem of_l0 (l : List S39) (a : Int) (hl : l.length < 4611686018427) : ∀ (m i : Nat) (o : List S39), i + m = l.length → o.length ≤ i → cofferdamlaw03_of.l0 (m + 1) l a o (i : Int) = some (o ++ (l.drop i).filter fun x => x.f0 == a)
  | 0, i, o, h, _ => by
    have hi : i = l.length := by omega
    subst hi
    unfold cofferdamlaw03_of.l0
    rw [if_neg (by omega)]
    simp
  | m + 1, i, o, h, ho => by
    have hi : i < l.length := by omega
    unfold cofferdamlaw03_of.l0
    have hw : wrap64 ((i : Int) + 1) = ((i + 1 : Nat) : Int) := by unfold wrap64; omega
    have hr : rd_T39 l (i : Int) = l[i] := by unfold rd_T39; simp [hi]
    have hd : l.drop i = l[i] :: l.drop (i + 1) := List.drop_eq_getElem_cons hi
    rw [if_pos (by omega), if_pos (by omega), hw, hr, hd]
    by_cases ha : l[i].f0 = a
    · rw [if_pos ha, if_pos (by omega), of_l0 l a hl m (i + 1) _ (by omega) (by simp; omega), List.filter_cons_of_pos (by simp [ha])]
      simp
    · rw [if_neg ha, of_l0 l a hl m (i + 1) _ (by omega) (by omega), List.filter_cons_of_neg (by simp [ha])]
theorem of_is (l : List S39) (a : Int) (hl : l.length < 4611686018427) : cofferdamlaw03_of.f (l.length + 1) l a = some (l.filter fun x => x.f0 == a) := by
  have := of_l0 l a hl l.length 0 [] (by omega) (by simp)
  simpa [cofferdamlaw03_of.f] using this
theorem LN_filter (M : List (List Int)) (s : Nat) : ∀ i, (LN M i).filter (fun x => x.f0 == (s : Int)) = if s < i then row39 s (M.getD s []) else []
  | 0 => by simp [LN]
  | i + 1 => by
    rw [LN_next, List.filter_append, LN_filter M s i]
    by_cases h : s = i
    · subst h
      rw [if_neg (by omega), if_pos (by omega), List.nil_append]
      apply List.filter_eq_self.2
      intro x hx
      simp only [row39, List.mem_map] at hx
      obtain ⟨t, _, rfl⟩ := hx
      simp
    · have e : (row39 i (M.getD i [])).filter (fun x => x.f0 == (s : Int)) = [] := by
        rw [List.filter_eq_nil_iff]
        intro x hx
        simp only [row39, List.mem_map] at hx
        obtain ⟨t, _, rfl⟩ := hx
        simp
        omega
      rw [e, List.append_nil]
      by_cases h2 : s < i
      · rw [if_pos h2, if_pos (by omega)]
      · rw [if_neg h2, if_neg (by omega)]
theorem LN_one (M : List (List Int)) (s : Nat) (n : Nat) (h : ∀ j, j < n → j ≠ s → M.getD j [] = []) : ∀ i, i ≤ n → LN M i = if s < i then row39 s (M.getD s []) else []
  | 0, _ => by simp [LN]
  | i + 1, hi => by
    rw [LN_next, LN_one M s n h i (by omega)]
    by_cases h2 : s = i
    · subst h2
      rw [if_neg (by omega), if_pos (by omega), List.nil_append]
    · rw [h i (by omega) (Ne.symm h2)]
      by_cases h3 : s < i
      · rw [if_pos h3, if_pos (by omega)]; simp [row39]
      · rw [if_neg h3, if_neg (by omega)]; simp [row39]
theorem last_set {M : List (List Int)} {H : List (Int × Int)} {n w s : Nat} (h : Last M (TH s w ++ H) n w) (hs : s < n) : M.getD s [] = T w := by
  rw [h.2 s hs, hist_TH, take_T w w _ rfl]
theorem last_miss {M : List (List Int)} {n w s k : Nat} (h : Last M (TH s k) n w) (hs : s < n) : decide (0 ≤ idx (M.getD s []) (1000 + 7 * (k : Int))) = false := by
  have e := h.2 s hs
  have e2 : hist (s : Int) (TH s k) = T k := by have := hist_TH s k []; simpa [hist] using this
  rw [e2, dd_T] at e
  rw [e]
  simp only [decide_eq_false_iff_not, idx_mem]
  exact fun hm => T_not k (List.mem_of_mem_take hm)
theorem last_lines {M : List (List Int)} {n w s : Nat} (h : Last M (TH s w) n w) (hs : s < n) : LN M M.length = row39 s (T w) := by
  have h1 := last_set (H := []) (by simpa using h) hs
  rw [LN_one M s n (fun j hj hne => ?_) M.length (Nat.le_of_eq h.1), if_pos (by rw [h.1]; exact hs), h1]
  rw [h.2 j hj, hist_TH_other s j w hne]
  simp [dd]
theorem last_of {M : List (List Int)} {H : List (Int × Int)} {n w s : Nat} (h : Last M (TH s w ++ H) n w) (hs : s < n) : (LN M M.length).filter (fun x => x.f0 == (s : Int)) = row39 s (T w) := by
  rw [LN_filter, if_pos (by rw [h.1]; exact hs), last_set h hs]
end Go.Proofs.Ytcneepffhplpiaa.H
