/- A cache in memory, and look. -/
import Derived.Test.YtcneepffhplpiaaHx2
namespace Go.Proofs.Ytcneepffhplpiaa.H
open Go.RowKit Go.Proofs.YtcneepffhplpiaaW.PrintWords Go.Proofs.YtcneepffhplpiaaW.PrintLast Go.Proofs.YtcneepffhplpiaaW.PrintMore
set_option linter.unusedVariables false
set_option linter.unusedSimpArgs false
set_option maxHeartbeats 8000000
set_option maxRecDepth 100000
def idxFrom : List Int → Int → Int → Int
  | [], _, _ => -1
  | x :: xs, t, i => if t = x then i else idxFrom xs t (i + 1)
/-- Where a tag stands in its set; below 0: it does not. -/
def idx (l : List Int) (t : Int) : Int := idxFrom l t 0
theorem rd_get {l : List Int} {i : Nat} (h : i < l.length) : rd l (i : Int) = l[i] := by
  unfold rd; simp [h]
theorem index_l0 (l : List Int) (t : Int) : ∀ (m i : Nat), i + m = l.length → l.length < 9223372036854775807 → slices_Index_uint64_uint64.l0 (m + 1) l t (l.length : Int) (i : Int) = some (idxFrom (l.drop i) t (i : Int))
  | 0, i, h, hl => by
    have hi : i = l.length := by omega
    subst hi
    simp [slices_Index_uint64_uint64.l0, idxFrom]
  | m + 1, i, h, hl => by
    have hi : i < l.length := by omega
    have ih := index_l0 l t m (i + 1) (by omega) hl
    rw [List.drop_eq_getElem_cons hi]
    unfold slices_Index_uint64_uint64.l0
    rw [if_pos (by omega), if_pos (by omega), if_pos (by omega), rd_get hi]
    have hw : wrap64 ((i : Int) + 1) = ((i + 1 : Nat) : Int) := by unfold wrap64; omega
    rw [hw, ih]
    by_cases ht : t = l[i]
    · rw [if_pos ht]; simp only [idxFrom]; rw [if_pos ht]
    · rw [if_neg ht]; simp only [idxFrom]; rw [if_neg ht]; simp
theorem index_is (l : List Int) (t : Int) (hl : l.length < 9223372036854775807) : slices_Index_uint64_uint64.f (l.length + 1) l t = some (idx l t) := by
  have := index_l0 l t l.length 0 (by omega) hl
  simpa [slices_Index_uint64_uint64.f, idx] using this
theorem idxFrom_says (t : Int) : ∀ (l : List Int) (i : Nat), (idxFrom l t i = -1 ∧ t ∉ l) ∨ ∃ k : Nat, k < l.length ∧ idxFrom l t i = ((i + k : Nat) : Int) ∧ l[k]? = some t ∧ t ∉ l.take k
  | [], i => .inl ⟨rfl, by simp⟩
  | x :: xs, i => by
    unfold idxFrom
    by_cases h : t = x
    · exact .inr ⟨0, by simp, by rw [if_pos h]; simp, by simp [h], by simp⟩
    · rw [if_neg h]
      have := idxFrom_says t xs (i + 1)
      rcases this with ⟨h1, h2⟩ | ⟨k, h1, h2, h3, h4⟩
      · exact .inl ⟨by simpa using h1, by simp [h, h2]⟩
      · exact .inr ⟨k + 1, by simp; omega, by rw [show ((i : Int) + 1) = ((i + 1 : Nat) : Int) by omega, h2]; congr 1; omega, by simpa using h3, by simp [h, h4]⟩
theorem idx_says (l : List Int) (t : Int) : (idx l t = -1 ∧ t ∉ l) ∨ ∃ k : Nat, k < l.length ∧ idx l t = (k : Int) ∧ l[k]? = some t ∧ t ∉ l.take k := by
  have := idxFrom_says t l 0
  simpa [idx] using this
def Bl (w : World) (g : Nat) (t : TypeId) (cs : Array Value) : Prop := w.heap[g]? = some (.cells cs t (0, 0))
theorem Bl.later {w w' : World} {g : Nat} {t : TypeId} {cs : Array Value} (h : Bl w g t cs) (hb : Below w.heap.size w w') : Bl w' g t cs := blk_grown h (grown_of_below hb none) (by simp)
theorem Bl.free {w : World} {g : Nat} {t : TypeId} {cs : Array Value} (h : Bl w g t cs) : ∀ i, w.frozen? ⟨g, i, none⟩ = false := fun i => blk_frozen h i
def nilV : Value := .slice none 0 0
/-- The sets' rows: each its own. -/
def Rows (w : World) (base : Nat) (vs : List Value) (M : List (List Int)) : Prop :=
  vs.length = M.length ∧ (∀ i, i < M.length → w.ownsRow base 31 1 (vs.getD i nilV) (M.getD i []).length (nums .u64 (M.getD i []))) ∧
  (∀ i j k, i < M.length → j < M.length → i ≠ j → (vs.getD i nilV).ownBlock = some k → (vs.getD j nilV).ownBlock ≠ some k)
def Foot (c b : Nat) (vs : List Value) (k : Nat) : Prop := k = c ∨ k = b ∨ ∃ i, i < vs.length ∧ (vs.getD i nilV).ownBlock = some k
/-- A cache that New made: its box c, its sets' row b, the sets' rows vs, their tags M. -/
structure St (w : World) (base c b : Nat) (wy : Int) (vs : List Value) (M : List (List Int)) : Prop where
  hc : Bl w c 58 #[.slice (some ⟨b, 0, none⟩) M.length M.length, .int .i64 wy]
  hb : Bl w b 23 vs.toArray
  rows : Rows w base vs M
  bc : base ≤ c
  bb : base ≤ b
  small : M.length ≤ 4096
  wy1 : 1 ≤ wy
  wy16 : wy ≤ 16
  lens : ∀ i, i < M.length → ((M.getD i []).length : Int) ≤ wy
/-- What look tells of a set and a tag. -/
def lk (M : List (List Int)) (s t : Int) : Int := if 0 ≤ s ∧ s < M.length then idx (M.getD s.toNat []) t else 0
def lkE (M : List (List Int)) (s : Int) : Int := if 0 ≤ s ∧ s < M.length then 0 else 2
theorem own_C {w : World} {base n : Nat} {v : Value} {l : List Int} (h : w.ownsRow base 31 1 v n (nums .u64 l)) (hn : n = l.length) : ∃ A c, v = .slice A l.length c ∧ l.length ≤ c ∧ Kd.C (Kd.int .u64) w A l.length l := by
  subst hn
  exact Kd.R_reads (Kd.R_of_own (enc := Value.int .u64) (h1 := fun _ => rfl) (ok := fun _ => True) h (fun _ _ => trivial))
theorem look_any (w : World) (base c b : Nat) (wy : Int) (vs : List Value) (M : List (List Int)) (s t : Int) (h : St w base c b wy vs M) :
    Calls Try.prog 22 #[.pointer (some ⟨c, 0, none⟩), .int .i64 s, .int .u64 t] w fun e w' => e = .returned (.tuple #[.int .i64 (lk M s t), .int .i64 (lkE M s)]) ∧ Drawn0 w w' := by
  have hc0 : w.cell? ⟨c, 0, none⟩ = some (.slice (some ⟨b, 0, none⟩) M.length M.length) := blk_cell h.hc 0
  have hc1 : w.cell? ⟨c, 1, none⟩ = some (.int .i64 wy) := blk_cell h.hc 1
  have hw0 : wy ≠ 0 := by have := h.wy1; omega
  have hM := h.small
  by_cases h0 : s < 0
  · have e1 : lk M s t = 0 := if_neg (by omega)
    have e2 : lkE M s = 2 := if_neg (by omega)
    rw [e1, e2]
    clear e1 e2 h
    go_enter Try.func22, Try.ntmps22
    go_wp2_with fail
    go_ret2
    exact ⟨rfl, Drawn0.refl _⟩
  · by_cases h1 : s < M.length
    · obtain ⟨n, rfl⟩ := Int.eq_ofNat_of_zero_le (by omega : 0 ≤ s)
      have hn : n < M.length := by omega
      have e1 : lk M (n : Int) t = idx (M.getD n []) t := by unfold lk; rw [if_pos (by omega)]; rfl
      have e2 : lkE M (n : Int) = 0 := if_pos (by omega)
      rw [e1, e2]
      obtain ⟨A, cc, hv, hcc, hC⟩ := own_C (h.rows.2.1 n hn) rfl
      have hvs : w.cell? ⟨b, n, none⟩ = some (vs.getD n nilV) := by
        have hl : n < vs.length := by rw [h.rows.1]; exact hn
        refine (blk_cell h.hb n).trans ?_
        simp [hl]
      rw [hv] at hvs
      have hl16 : (M.getD n []).length < 9223372036854775807 := by have := h.lens n hn; have := h.wy16; omega
      have hI := index_is (M.getD n []) t hl16
      generalize hr : idx (M.getD n []) t = r at hI
      generalize M.getD n [] = L at hI hvs hC hcc hl16 hr
      have HI := Aside0.mk hI
      have HC := Aside0.mk hC
      clear e1 e2 h hI hC hv hr
      go_enter Try.func22, Try.ntmps22
      go_wp2_with fail
      refine (slices_Index_uint64_uint64.calls _ _ _ _ _ _ _ HC.out hcc HI.out).mono ?_
      rintro e w1 ⟨rfl, hd⟩
      go_wp2_with fail
      go_ret2
      exact ⟨rfl, hd⟩
    · have e1 : lk M s t = 0 := if_neg (by omega)
      have e2 : lkE M s = 2 := if_neg (by omega)
      rw [e1, e2]
      clear e1 e2 h
      go_enter Try.func22, Try.ntmps22
      go_wp2_with fail
      go_ret2
      exact ⟨rfl, Drawn0.refl _⟩
end Go.Proofs.Ytcneepffhplpiaa.H
