/- Lists compared; two areas side by side; works. -/
import Derived.Test.YtlfgkdgjekbkgaaDoorC5
namespace Go.Proofs.YtlfgkdgjekbkgaaDoor.H
open Go.RowKit Go.Proofs.YtlfgkdgjekbkgaaDoorW.PrintWords Go.Proofs.YtlfgkdgjekbkgaaDoorW.PrintLast Go.Proofs.YtlfgkdgjekbkgaaDoorW.PrintMore
set_option linter.unusedVariables false
set_option linter.unusedSimpArgs false
set_option maxHeartbeats 8000000
set_option maxRecDepth 100000
theorem own_C {w : World} {base n : Nat} {v : Value} {l : List Int} (h : w.ownsRow base 3 1 v n (nums .i64 l)) (hn : n = l.length) : ∃ A c, v = .slice A l.length c ∧ l.length ≤ c ∧ Kd.C (Kd.int .i64) w A l.length l := by
  subst hn
  exact Kd.R_reads (Kd.R_of_own (enc := Value.int .i64) (h1 := fun _ => rfl) (ok := fun _ => True) h (fun _ _ => trivial))
theorem rd_get {l : List Int} {i : Nat} (h : i < l.length) : rd l (i : Int) = l[i] := by
  unfold rd; simp [h]
theorem eq_l0 (l : List Int) : ∀ (m i : Nat), i + m = l.length → l.length < 9223372036854775807 → cofferdamref00_EqInts.l0 (m + 1) l l (i : Int) = some true
  | 0, i, h, hl => by
    have hi : i = l.length := by omega
    subst hi
    simp [cofferdamref00_EqInts.l0]
  | m + 1, i, h, hl => by
    have ih := eq_l0 l m (i + 1) (by omega) hl
    unfold cofferdamref00_EqInts.l0
    rw [if_pos (by omega), if_pos (by omega), if_pos (by omega), if_pos rfl]
    have hw : wrap64 ((i : Int) + 1) = ((i + 1 : Nat) : Int) := by unfold wrap64; omega
    rw [hw, ih]
theorem eq_same (l : List Int) (hl : l.length < 9223372036854775807) : cofferdamref00_EqInts.f (l.length + 1) l l = some true := by
  unfold cofferdamref00_EqInts.f
  rw [if_pos rfl]
  exact eq_l0 l l.length 0 (by omega) hl
/-- Two lists that are alike, compared. -/
theorem eq_any (w : World) (b1 b2 : Nat) (v1 v2 : Value) (l : List Int) (hl : l.length < 9223372036854775807) (h1 : w.ownsRow b1 3 1 v1 l.length (nums .i64 l)) (h2 : w.ownsRow b2 3 1 v2 l.length (nums .i64 l)) :
    Calls Tryd.prog 15 #[v1, v2] w fun e w' => e = .returned (.bool true) ∧ Drawn0 w w' := by
  obtain ⟨A1, c1, rfl, hc1, hC1⟩ := own_C h1 rfl
  obtain ⟨A2, c2, rfl, hc2, hC2⟩ := own_C h2 rfl
  exact cofferdamref00_EqInts.calls _ _ _ _ _ _ _ _ _ hC1 hc1 hC2 hc2 (eq_same l hl)
theorem apart {w : World} {base c b base' c' b' : Nat} {T T' : List Bool} (h : SP w base c b T) (h' : SQ w base' c' b' T') : ∀ k, Foot c b k → ¬ Foot c' b' k := by
  have key : ∀ {k : Nat} {t t' : TypeId} {cs cs' : Array Value}, Bl w k t cs → Bl w k t' cs' → t = t' := by
    intro k t t' cs cs' h1 h2
    unfold Bl at h1 h2
    rw [h1] at h2
    injection h2 with h2
    injection h2
  rintro k (rfl | rfl) (rfl | rfl)
  · exact absurd (key h.hc h'.hc) (by decide)
  · exact absurd (key h.hc h'.hb) (by decide)
  · exact absurd (key h.hb h'.hc) (by decide)
  · exact absurd (key h.hb h'.hb) (by decide)
theorem SP.foot0 {w : World} {base c b : Nat} {T : List Bool} (h : SP w base c b T) : ¬ Foot c b 0 := fun hk => by have := (h.lt hk).1; have := h.pos; omega
theorem take_at (w : World) (base c b : Nat) (T : List Bool) (k : Nat) (h : SP w base c b T) (hf : fr T = k) (hk : k < T.length) :
    Calls Tryd.prog 8 #[.pointer (some ⟨c, 0, none⟩)] w fun e w' => e = .returned (.tuple #[.int .i64 (k : Int), .int .i64 0]) ∧ SP w' base c b (T.set k true) ∧ Below base w w' := by
  refine (take_any w base c b T h).mono fun e w' hp => ?_
  obtain ⟨he, hs, _, hb⟩ := hp
  rw [hf, if_pos hk, if_pos hk] at he
  rw [hf] at hs
  exact ⟨he, hs, hb⟩
theorem take_full (w : World) (base c b : Nat) (T : List Bool) (h : SP w base c b T) (hf : fr T = T.length) :
    Calls Tryd.prog 8 #[.pointer (some ⟨c, 0, none⟩)] w fun e w' => e = .returned (.tuple #[.int .i64 0, .int .i64 4]) ∧ SP w' base c b T ∧ Below base w w' := by
  refine (take_any w base c b T h).mono fun e w' hp => ?_
  obtain ⟨he, hs, _, hb⟩ := hp
  rw [hf, if_neg (Nat.lt_irrefl _), if_neg (Nat.lt_irrefl _)] at he
  rw [hf, List.set_eq_of_length_le (Nat.le_refl _)] at hs
  exact ⟨he, hs, hb⟩
theorem give_at (w : World) (base c b : Nat) (T : List Bool) (k : Nat) (h : SP w base c b T) (hb : bt T k = true) :
    Calls Tryd.prog 10 #[.pointer (some ⟨c, 0, none⟩), .int .i64 (k : Int)] w fun e w' => e = .returned (.int .i64 0) ∧ SP w' base c b (T.set k false) ∧ Below base w w' := by
  refine (give_any w base c b T (k : Int) h).mono fun e w' hp => ?_
  obtain ⟨he, hs, _, hbl⟩ := hp
  have hc : 0 ≤ (k : Int) ∧ bt T (k : Int).toNat = true := ⟨by omega, by simpa using hb⟩
  unfold gvE at he
  unfold gvT at hs
  rw [if_pos hc] at he hs
  exact ⟨he, hs, hbl⟩
theorem give_no (w : World) (base c b : Nat) (T : List Bool) (s : Int) (h : SP w base c b T) (hb : ¬ (0 ≤ s ∧ bt T s.toNat = true)) :
    Calls Tryd.prog 10 #[.pointer (some ⟨c, 0, none⟩), .int .i64 s] w fun e w' => e = .returned (.int .i64 91) ∧ SP w' base c b T ∧ Below base w w' := by
  refine (give_any w base c b T s h).mono fun e w' hp => ?_
  obtain ⟨he, hs, _, hbl⟩ := hp
  unfold gvE at he
  unfold gvT at hs
  rw [if_neg hb] at he hs
  exact ⟨he, hs, hbl⟩
theorem own_below {w w' : World} {base n : Nat} {v : Value} {xs : List Value} (h : w.ownsRow base 3 1 v n xs) (hb : Below w.heap.size w w') : w'.ownsRow base 3 1 v n xs := pw_own_below h hb
theorem below_base {B : Nat} {w w' w2 : World} (hb : Below B w w') (hd : Below w'.heap.size w' w2) (hB : B ≤ w.heap.size) : Below B w w2 := hb.trans (hd.mono (Nat.le_trans hB hb.size))
theorem works_yes (w : World) (hT : Tb w) : Calls Tryd.prog 17 #[] w fun e w' => e = .returned (.bool true) ∧ Below w.heap.size w w' := by
  have HT := Aside0.mk hT
  clear hT
  go_enter Tryd.func17, Tryd.ntmps17
  go_wp2_with fail
  refine (new_ok 3 _ (by decide) HT.out).mono ?_
  rintro e w1 ⟨c, b, rfl, hs, hb⟩
  have HS := Aside0.mk hs
  have HB := Aside0.mk hb
  clear hs hb
  go_wp2_with fail
  refine (take_at _ _ _ _ _ 0 HS.out (by decide) (by decide)).mono ?_
  rintro e w2 ⟨rfl, hs, hb⟩
  have HS2 := Aside0.mk hs
  have HB2 := Aside0.mk (HB.out.trans hb)
  clear hs hb HS HB
  go_wp2_with fail
  refine (take_at _ _ _ _ _ 1 HS2.out (by decide) (by decide)).mono ?_
  rintro e w3 ⟨rfl, hs, hb⟩
  have HS3 := Aside0.mk hs
  have HB3 := Aside0.mk (HB2.out.trans hb)
  clear hs hb HS2 HB2
  go_wp2_with fail
  refine (give_at _ _ _ _ _ 0 HS3.out (by decide)).mono ?_
  rintro e w4 ⟨rfl, hs, hb⟩
  have HS4 := Aside0.mk hs
  have HB4 := Aside0.mk (HB3.out.trans hb)
  clear hs hb HS3 HB3
  go_wp2_with fail
  refine (take_at _ _ _ _ _ 0 HS4.out (by decide) (by decide)).mono ?_
  rintro e w5 ⟨rfl, hs, hb⟩
  have HS5 := Aside0.mk hs
  have HB5 := Aside0.mk (HB4.out.trans hb)
  clear hs hb HS4 HB4
  go_wp2_with fail
  refine (free_any _ _ _ _ _ HS5.out).mono ?_
  rintro e w6 ⟨rfl, hd⟩
  have HS6 := Aside0.mk (HS5.out.later hd.below)
  have HB6 := Aside0.mk (below_base HB5.out hd.below (Nat.le_refl _))
  clear hd HS5 HB5
  have hfv : (3 : Int) - ((U [true, true, false] 3).length : Int) = 1 := by decide
  go_wp2_with fail
  refine (used_any _ _ _ _ _ HS6.out).mono ?_
  rintro e w7 ⟨v, rfl, ho, hb⟩
  have HO := Aside0.mk ho
  have HB7 := Aside0.mk (below_base HB6.out hb (Nat.le_refl _))
  clear ho hb HB6 HS6
  go_wp2_with fail
  have hO : w7.ownsRow w6.heap.size 3 1 v [(0 : Int), 1].length (nums .i64 [(0 : Int), 1]) := HO.out
  have hL : (w7.alloc (.cells #[.int .i64 0, .int .i64 1] 3)).ownsRow w7.heap.size 3 1 (.slice (some ⟨w7.heap.size, 0, none⟩) 2 2) [(0 : Int), 1].length (nums .i64 [(0 : Int), 1]) := own_lit w7 w7.heap.size 3 .i64 [(0 : Int), 1] (Nat.le_refl _) (by decide)
  refine (eq_any _ _ _ _ _ [(0 : Int), 1] (by decide) (own_below hO (below_alloc (Below.refl _ _) _)) hL).mono ?_
  rintro e w8 ⟨rfl, hd⟩
  have HB8 := Aside0.mk (below_base (below_base HB7.out (below_alloc (Below.refl _ _) (.cells #[.int .i64 0, .int .i64 1] 3)) (Nat.le_refl _)) hd.below (Nat.le_refl _))
  clear hd HB7 HO hO hL
  go_wp2_with fail
  go_ret
  exact ⟨rfl, HB8.out⟩
end Go.Proofs.YtlfgkdgjekbkgaaDoor.H
