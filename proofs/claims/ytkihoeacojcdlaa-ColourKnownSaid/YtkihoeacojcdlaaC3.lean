/- Contract of the reference's Frames: it comes to the same as colour.Frames. -/
import Derived.Test.YtkihoeacojcdlaaC2
namespace Go.Proofs.Ytkihoeacojcdlaa.H
open Go.RowKit Go.Proofs.YtkihoeacojcdlaaW.PrintWords Go.Proofs.YtkihoeacojcdlaaW.PrintLast Go.Proofs.YtkihoeacojcdlaaW.PrintMore
set_option linter.unusedVariables false
set_option linter.unusedSimpArgs false
theorem rwithin_yes (a b c : Int) (w : World) (h1 : b ≤ a) (h2 : a ≤ c) : Calls Try.prog 28 #[.int .i64 a, .int .i64 b, .int .i64 c] w fun e w' => e = .returned (.bool true) ∧ w' = w := by
  go_enter Try.func28, Try.ntmps28
  go_wp2
  go_ret
  exact ⟨rfl, rfl⟩
theorem rwithin_no (a b c : Int) (w : World) (h : a < b ∨ c < a) : Calls Try.prog 28 #[.int .i64 a, .int .i64 b, .int .i64 c] w fun e w' => e = .returned (.bool false) ∧ w' = w := by
  by_cases h1 : b ≤ a
  · have h2 : ¬ a ≤ c := by omega
    have h5 : decide (a ≤ c) = false := decide_eq_false h2
    clear h
    go_enter Try.func28, Try.ntmps28
    go_wp2
    go_ret
    exact ⟨rfl, rfl⟩
  · clear h
    go_enter Try.func28, Try.ntmps28
    go_wp2
    go_ret
    exact ⟨rfl, rfl⟩
theorem rcol_yes (a : Int) (w : World) (h1 : 1 ≤ a) (h2 : a ≤ 16) : Calls Try.prog 26 #[.int .i64 a] w fun e w' => e = .returned (.bool true) ∧ w' = w := by
  go_enter Try.func26, Try.ntmps26
  go_wp2_with (go_at_call 28; refine (rwithin_yes _ _ _ _ h1 h2).mono ?_; rintro e w' ⟨rfl, hw⟩; subst w')
  go_ret
  exact ⟨rfl, rfl⟩
theorem rcol_no (a : Int) (w : World) (h : a < 1 ∨ 16 < a) : Calls Try.prog 26 #[.int .i64 a] w fun e w' => e = .returned (.bool false) ∧ w' = w := by
  go_enter Try.func26, Try.ntmps26
  go_wp2_with (go_at_call 28; refine (rwithin_no _ _ _ _ h).mono ?_; rintro e w' ⟨rfl, hw⟩; subst w')
  go_ret
  exact ⟨rfl, rfl⟩
theorem good_len {n : Int} : ∀ (l : List Int) (last : Int), good n last l = true → last < n → (l.length : Int) ≤ n - 1 - last
  | [], last, _, h => by simp; omega
  | d :: l, last, h, _ => by
    simp only [good, Bool.and_eq_true, decide_eq_true_eq] at h
    have := good_len l d h.2 h.1.2
    simp only [List.length_cons]
    omega
theorem good_le {n : Int} : ∀ (l : List Int) (last : Int), good n last l = true → ∀ x, x ∈ l → x ≤ lastOf last l
  | [], _, _, x, hx => by cases hx
  | d :: l, last, h, x, hx => by
    simp only [good, Bool.and_eq_true, decide_eq_true_eq] at h
    simp only [lastOf]
    rcases List.mem_cons.1 hx with rfl | hx
    · exact good_lo l _ h.2
    · exact good_le l d h.2 x hx
theorem last_take (l : List Int) (k : Nat) (h0 : 0 < k) (hk : k ≤ l.length) : lastOf (-1) (l.take k) = rd l ((k : Int) - 1) := by
  obtain ⟨j, rfl⟩ : ∃ j, k = j + 1 := ⟨k - 1, by omega⟩
  rw [take_snoc' l j (by omega), lastOf_snoc]
  congr 1
  omega
theorem good_take {n : Int} {l : List Int} (h : good n (-1) l = true) (k : Nat) : good n (-1) (l.take k) = true := good_mono (l.take k) (l.drop k) (-1) (by rw [List.take_append_drop]; exact h)
theorem good_at {n : Int} {l : List Int} (h : good n (-1) l = true) (k : Nat) (hk : k < l.length) : lastOf (-1) (l.take k) < rd l (k : Int) ∧ rd l (k : Int) < n := by
  have := good_take h (k + 1)
  rw [take_snoc' l k hk, good_snoc] at this
  exact this.2
theorem good_new {n : Int} {l : List Int} (h : good n (-1) l = true) (k : Nat) (hk : k < l.length) : (l.take k).contains (rd l (k : Int)) = false := by
  cases hc : (l.take k).contains (rd l (k : Int)) with
  | false => rfl
  | true =>
    have hm : rd l (k : Int) ∈ l.take k := by simpa using hc
    have := good_le _ _ (good_take h k) _ hm
    have := (good_at h k hk).1
    omega
/-- What the inner loop has gathered of the frame j behind i colours. -/
def fri (n : Int) (l : List Int) (j i : Nat) : List Int := fr n l j ++ (if (l.take i).contains ((j : Int) % n) = true then [(j : Int)] else [])
theorem fri_zero (n : Int) (l : List Int) (j : Nat) : fri n l j 0 = fr n l j := by simp [fri]
theorem fri_all (n : Int) (l : List Int) (j : Nat) : fri n l j l.length = fr n l (j + 1) := by simp [fri, fr]
theorem fri_hit {n : Int} {l : List Int} {j i : Nat} (h : good n (-1) l = true) (hi : i < l.length) (he : (j : Int) % n = rd l (i : Int)) : fri n l j (i + 1) = fri n l j i ++ [(j : Int)] := by
  have h1 := good_new h i hi
  unfold fri
  rw [he, h1, take_snoc' l i hi]
  simp
theorem fri_miss {n : Int} {l : List Int} {j i : Nat} (hi : i < l.length) (he : ¬ (j : Int) % n = rd l (i : Int)) : fri n l j (i + 1) = fri n l j i := by
  unfold fri
  rw [take_snoc' l i hi]
  simp [he]
theorem fri_len (n : Int) (l : List Int) (j i : Nat) : (fri n l j i).length ≤ j + 1 := by
  have := fr_len n l j
  unfold fri
  rw [List.length_append]
  split <;> simp <;> omega
theorem Fr_good' {m n : Int} {l : List Int} {w w' : World} {v : Value} (h : good n (-1) l = true) (ho : w'.ownsRow w.heap.size 3 1 v (fr n l m.toNat).length (nums .i64 (fr n l m.toNat))) (hb : Below w.heap.size w w') : Fr m n l v w w' (.returned (.tuple #[v, .int .i64 0])) := by
  unfold Fr
  rw [if_pos h, if_pos h]
  exact ⟨rfl, ho, hb⟩
set_option maxHeartbeats 4000000 in
set_option maxRecDepth 100000 in
theorem rframes_no (m n : Int) (A : Option Addr) (c : Nat) (l : List Int) (w : World) (hb : ¬ (1 ≤ m ∧ m ≤ 4096 ∧ 1 ≤ n ∧ n ≤ 16)) :
    Calls Try.prog 21 #[.int .i64 m, .int .i64 n, .slice A l.length c] w fun e w' => e = .returned (.tuple #[.slice none 0 0, .int .i64 2]) ∧ Below w.heap.size w w' := by
  by_cases h1 : 1 ≤ m ∧ m ≤ 4096
  · have h3 : n < 1 ∨ 16 < n := by omega
    go_enter Try.func21, Try.ntmps21
    go_wp2_with (first | (go_at_call 28; refine (rwithin_yes _ _ _ _ h1.1 h1.2).mono ?_; rintro e w' ⟨rfl, hw⟩; subst w') | (go_at_call 26; refine (rcol_no _ _ h3).mono ?_; rintro e w' ⟨rfl, hw⟩; subst w'))
    go_ret2
    exact ⟨rfl, Below.refl _ _⟩
  · have h3 : m < 1 ∨ 4096 < m := by omega
    go_enter Try.func21, Try.ntmps21
    go_wp2_with (first | (go_at_call 28; refine (rwithin_no _ _ _ _ h3).mono ?_; rintro e w' ⟨rfl, hw⟩; subst w'))
    go_ret2
    exact ⟨rfl, Below.refl _ _⟩
set_option maxHeartbeats 4000000 in
set_option maxRecDepth 100000 in
theorem rframes_yes (m n : Int) (A : Option Addr) (c : Nat) (l : List Int) (w : World) (h1 : 1 ≤ m) (h2 : m ≤ 4096) (h3 : 1 ≤ n) (h4 : n ≤ 16) (hr : Kd.C (Kd.int .i64) w A l.length l) :
    Calls Try.prog 21 #[.int .i64 m, .int .i64 n, .slice A l.length c] w (FrAny m n l w) := by
  have hR := Aside0.mk (Kd.reads_of_C (d := (0 : Int)) hr)
  have hmax : l.length ≤ 9223372036854775807 := (hR.out).2.1
  clear hr
  by_cases hlen : (l.length : Int) ≤ n
  · go_enter Try.func21, Try.ntmps21
    go_wp2_with (first | (go_at_call 28; refine (rwithin_yes _ _ _ _ h1 h2).mono ?_; rintro e w' ⟨rfl, hw⟩; subst w') | (go_at_call 26; refine (rcol_yes _ _ h3 h4).mono ?_; rintro e w' ⟨rfl, hw⟩; subst w'))
    go_loopw [8] (fun v8 wr => ∃ k : Nat, k ≤ l.length ∧ v8 = .int .i64 k ∧ Aside0 (good n (-1) (l.take k) = true) ∧ Aside0 (Below w.heap.size w wr)) (fun v8 _ => l.length - (intOf v8).toNat)
    case atStart => exact ⟨0, Nat.zero_le _, rfl, ⟨rfl⟩, ⟨Below.refl _ _⟩⟩
    case round =>
      obtain ⟨k, hk, rfl, hg, hB⟩ := hrel
      by_cases hlt : k < l.length
      · obtain ⟨ad, rfl, hcell⟩ := (hR.out).2.2 (by omega)
        have hce : wr.cell? (ad.add k) = some (.int .i64 (rd l (k : Int))) := by
          have := pw_cell_below hB.out (hcell k hlt)
          simpa [rd] using this
        by_cases hin : 0 ≤ rd l (k : Int) ∧ rd l (k : Int) ≤ n - 1
        · obtain ⟨i1, i2⟩ := hin
          by_cases hk0 : 0 < k
          · have hcp : wr.cell? (ad.add (k - 1)) = some (.int .i64 (rd l ((k : Int) - 1))) := by
              have := pw_cell_below hB.out (hcell (k - 1) (by omega))
              have e : ((k : Int) - 1).toNat = k - 1 := by omega
              simpa [rd, e] using this
            have e1 : ((k : Int) - 1).toNat = k - 1 := by omega
            have hlast := Aside0.mk (last_take l k hk0 hk)
            clear hcell
            by_cases hgt : rd l ((k : Int) - 1) < rd l (k : Int)
            · have hg' : Aside0 (good n (-1) (l.take (k + 1)) = true) := ⟨by rw [take_snoc' l k hlt, good_snoc]; exact ⟨hg.out, by rw [hlast.out]; exact hgt, by omega⟩⟩
              go_wp2
              go_quiet ((go_at_call 28; exact Calls.quiet_of_same (rwithin_yes _ _ _ _ i1 i2)))
              go_wp2
              go_roundw
              case rel => exact ⟨k + 1, by omega, by go_num, hg', ⟨pw_below_drewN hB.out _⟩⟩
              case measure => simp [intOf]; omega
            · have hbad : Aside0 (good n (-1) l = false) := ⟨good_stop hlt (by rw [hlast.out]; omega)⟩
              go_wp2
              go_quiet ((go_at_call 28; exact Calls.quiet_of_same (rwithin_yes _ _ _ _ i1 i2)))
              go_wp2
              go_ret2
              exact ⟨_, Fr_bad hbad.out (pw_below_drewN hB.out _)⟩
          · have hg' : Aside0 (good n (-1) (l.take (k + 1)) = true) := ⟨by
              have hk00 : k = 0 := by omega
              subst hk00
              rw [take_snoc' l 0 hlt, good_snoc]
              exact ⟨rfl, by show (-1 : Int) < rd l ((0 : Nat) : Int); omega, by omega⟩⟩
            have hd : decide (0 < (k : Int)) = false := decide_eq_false (by omega)
            have hk1 : (k : Int) ≤ 0 := by omega
            clear hcell
            go_wp2
            go_quiet ((go_at_call 28; exact Calls.quiet_of_same (rwithin_yes _ _ _ _ i1 i2)))
            go_wp2
            go_roundw
            case rel => exact ⟨k + 1, by omega, by go_num, hg', ⟨pw_below_drewN hB.out _⟩⟩
            case measure => simp [intOf]; omega
        · have hout : rd l (k : Int) < 0 ∨ n - 1 < rd l (k : Int) := by omega
          have hbad : Aside0 (good n (-1) l = false) := ⟨good_stop hlt (by have := good_lo _ _ hg.out; omega)⟩
          clear hcell hin
          go_wp2
          go_quiet ((go_at_call 28; exact Calls.quiet_of_same (rwithin_no _ _ _ _ hout)))
          go_wp2
          go_ret2
          exact ⟨_, Fr_bad hbad.out (pw_below_drewN hB.out _)⟩
      · have hkl : k = l.length := by omega
        have hgl : Aside0 (good n (-1) l = true) := ⟨by have := hg.out; rw [hkl, List.take_length] at this; exact this⟩
        clear hg hkl
        obtain ⟨wo, rfl⟩ : ∃ wo : World, wo = wr := ⟨_, rfl⟩
        obtain ⟨M, rfl⟩ : ∃ M : Nat, m = (M : Int) := ⟨m.toNat, by omega⟩
        go_wp2
        go_loopw [9, 10, 11] (fun v9 v10 v11 wr => ∃ j : Nat, j ≤ M ∧ v10 = .int .i64 j ∧ Aside0 (wr.ownsRow w.heap.size 3 1 v9 (fr n l j).length (nums .i64 (fr n l j))) ∧ Aside0 (Below w.heap.size w wr)) (fun _ v10 _ _ => M - (intOf v10).toNat)
        case atStart => exact ⟨0, Nat.zero_le _, rfl, ⟨own_nil _ _ _ _⟩, hB⟩
        case round =>
          obtain ⟨j, hj, rfl, ho, hB2⟩ := hrel
          clear hB
          by_cases hjm : j < M
          · have hmod : 0 ≤ (j : Int) % n ∧ (j : Int) % n < n := ⟨Int.emod_nonneg _ (by omega), Int.emod_lt_of_pos _ (by omega)⟩
            obtain ⟨q0, q1⟩ := hmod
            obtain ⟨wp, rfl⟩ : ∃ wp : World, wp = wr := ⟨_, rfl⟩
            go_wp2
            go_loopw [9, 11] (fun v9 v11 wr => ∃ i : Nat, i ≤ l.length ∧ v11 = .int .i64 i ∧ Aside0 (wr.ownsRow w.heap.size 3 1 v9 (fri n l j i).length (nums .i64 (fri n l j i))) ∧ Aside0 (Below w.heap.size w wr)) (fun _ v11 _ => l.length - (intOf v11).toNat)
            case atStart => exact ⟨0, Nat.zero_le _, rfl, ⟨by rw [fri_zero]; exact ho.out⟩, hB2⟩
            case round =>
              obtain ⟨i, hi, rfl, ho3, hB3⟩ := hrel
              clear ho hB2
              have hfl := fri_len n l j i
              by_cases hil : i < l.length
              · obtain ⟨ad, rfl, hcell⟩ := (hR.out).2.2 (by omega)
                have hce : wr.cell? (ad.add i) = some (.int .i64 (rd l (i : Int))) := by
                  have := pw_cell_below hB3.out (hcell i hil)
                  simpa [rd] using this
                clear hcell
                by_cases hit : (j : Int) % n = rd l (i : Int)
                · have hy : Aside0 (fri n l j (i + 1) = fri n l j i ++ [(j : Int)]) := ⟨fri_hit hgl.out hil hit⟩
                  have hb : ((j : Int) % n == rd l (i : Int)) = true := beq_iff_eq.2 hit
                  have hln : Aside0 (((fri n l j i).length + 1) * 8 ≤ 140737488355328) := ⟨by omega⟩
                  clear hit
                  go_wp2
                  go_quiet (fail)
                  generalize hW : World.drewN wr _ = W2
                  have HO2 : Aside0 (W2.ownsRow w.heap.size 3 1 u9 (fri n l j i).length (nums .i64 (fri n l j i))) := ⟨by rw [← hW]; exact pw_own_below ho3.out (pw_below_drewN (Below.refl _ _) _)⟩
                  have HB2 : Aside0 (Below w.heap.size w W2) := ⟨by rw [← hW]; exact pw_below_drewN hB3.out _⟩
                  have hbs : Aside0 (w.heap.size ≤ W2.heap.size) := ⟨HB2.out.size⟩
                  clear hW ho3 hB3
                  go_wp2_with (at_builtin; refine print_append_num (w0 := w) w.heap.size rfl (.tmp 75) (.tmp 77) 31 3 .i64 8 rfl Try.underlying31 myInfo3 (by decide) _ (fri n l j i) (j : Int) rfl rfl HO2.out HB2.out hbs.out hln.out ?_; intro v1 w1 ho1 hb1 hg1 hat1; clear hg1 hat1; have HO := Aside0.mk ho1; have H1 := Aside0.mk hb1; clear ho1 hb1)
                  go_roundw
                  case rel => exact ⟨i + 1, by omega, by go_num, ⟨by rw [hy.out]; exact HO.out⟩, H1⟩
                  case measure => simp [intOf]; omega
                · have hy : Aside0 (fri n l j (i + 1) = fri n l j i) := ⟨fri_miss hil hit⟩
                  have hb : ((j : Int) % n == rd l (i : Int)) = false := beq_eq_false_iff_ne.2 hit
                  clear hit
                  go_wp2
                  go_quiet (fail)
                  go_wp2
                  go_roundw
                  case rel => exact ⟨i + 1, by omega, by go_num, ⟨by rw [hy.out]; exact pw_own_below ho3.out (pw_below_drewN (Below.refl _ _) _)⟩, ⟨pw_below_drewN hB3.out _⟩⟩
                  case measure => simp [intOf]; omega
              · have hil' : i = l.length := by omega
                subst hil'
                have hy : Aside0 (fri n l j l.length = fr n l (j + 1)) := ⟨fri_all n l j⟩
                go_wp2
                go_roundw
                case rel => exact ⟨j + 1, by omega, by go_num, ⟨by rw [← hy.out]; exact ho3.out⟩, hB3⟩
                case measure => simp [intOf]; omega
          · have hjl : j = M := by omega
            subst hjl
            go_wp2
            go_ret2
            exact ⟨_, Fr_good' hgl.out (by have := ho.out; simpa using this) hB2.out⟩
  · have hbad : Aside0 (good n (-1) l = false) := ⟨by
      cases h : good n (-1) l with
      | false => rfl
      | true => have := good_len l (-1) h (by omega); omega⟩
    go_enter Try.func21, Try.ntmps21
    go_wp2_with (first | (go_at_call 28; refine (rwithin_yes _ _ _ _ h1 h2).mono ?_; rintro e w' ⟨rfl, hw⟩; subst w') | (go_at_call 26; refine (rcol_yes _ _ h3 h4).mono ?_; rintro e w' ⟨rfl, hw⟩; subst w'))
    go_ret2
    exact ⟨_, Fr_bad hbad.out (Below.refl _ _)⟩
end Go.Proofs.Ytkihoeacojcdlaa.H
