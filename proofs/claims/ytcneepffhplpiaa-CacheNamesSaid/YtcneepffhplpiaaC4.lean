/- New, made, Has, Count, awake by their contracts. -/
import Derived.Test.YtcneepffhplpiaaC3
namespace Go.Proofs.Ytcneepffhplpiaa.H
open Go.RowKit Go.Proofs.YtcneepffhplpiaaW.PrintWords Go.Proofs.YtcneepffhplpiaaW.PrintLast Go.Proofs.YtcneepffhplpiaaW.PrintMore
set_option linter.unusedVariables false
set_option linter.unusedSimpArgs false
set_option maxHeartbeats 8000000
set_option maxRecDepth 100000
theorem make56 (m : Nat) (hm : m ≤ 4096) : ∀ W : World, (Instr.makeSlice 56 (.int .i64 (m : Int)) (.int .i64 (m : Int))).run Try.prog W = .ok (.slice (some ⟨W.heap.size, 0, none⟩) m m) (W.alloc (.cells (madeCells #[nilV] m) 23)) :=
  fun W => run_make_row' 56 23 nilV 24 Try.underlying56 (by kernel_rfl) rfl .i64 .i64 m (by omega) (by omega) W
theorem made_list (m : Nat) : madeCells #[nilV] m = (List.replicate m nilV).toArray := by
  apply Array.ext
  · simp [madeCells]
  · intro i h1 h2
    simp [madeCells, Nat.mod_one]
def emp (n : Nat) : List (List Int) := List.replicate n []
theorem emp_get (n i : Nat) : (emp n).getD i [] = [] := by
  unfold emp
  by_cases h : i < n <;> simp [h]
theorem nil_get (n i : Nat) : (List.replicate n nilV).getD i nilV = nilV := by
  by_cases h : i < n <;> simp [h]
theorem St_new (w : World) (n : Nat) (wy : Int) (hn : n ≤ 4096) (h1 : 1 ≤ wy) (h2 : wy ≤ 16) :
    St ((w.alloc (.cells (madeCells #[nilV] n) 23)).alloc (.cells #[.slice (some ⟨w.heap.size, 0, none⟩) n n, .int .i64 wy] 58)) w.heap.size (w.heap.size + 1) w.heap.size wy (List.replicate n nilV) (emp n) := by
  have hb : Bl (w.alloc (.cells (madeCells #[nilV] n) 23)) w.heap.size 23 (List.replicate n nilV).toArray := by
    have := heap_alloc_new w (.cells (madeCells #[nilV] n) 23)
    rw [made_list] at this
    rw [made_list]
    exact this
  have hsz : (w.alloc (.cells (madeCells #[nilV] n) 23)).heap.size = w.heap.size + 1 := by simp only [World.alloc, Array.size_push]
  have hl : (emp n).length = n := by simp [emp]
  refine ⟨?_, hb.later (below_alloc (Below.refl _ _) _), ⟨by simp [emp], fun i hi => ?_, fun i j k hi hj hij hk => ?_⟩, by omega, Nat.le_refl _, by rw [hl]; exact hn, h1, h2, fun i hi => ?_⟩
  · have := heap_alloc_new (w.alloc (.cells (madeCells #[nilV] n) 23)) (.cells #[.slice (some ⟨w.heap.size, 0, none⟩) n n, .int .i64 wy] 58)
    rw [hsz] at this
    rw [hl]
    exact this
  · rw [emp_get, nil_get]
    exact own_nil _ _ _ _
  · rw [nil_get] at hk
    simp [nilV, Value.ownBlock] at hk
  · rw [emp_get]
    simp
    omega
theorem new_ok (n : Nat) (wy : Int) (w : World) (h1 : 1 ≤ n) (h2 : n ≤ 4096) (hz : bits .and .i64 (n : Int) ((n : Int) - 1) = 0) (h3 : 1 ≤ wy) (h4 : wy ≤ 16) :
    Calls Try.prog 16 #[.int .i64 (n : Int), .int .i64 wy] w fun e w' => ∃ c b, e = .returned (.tuple #[.pointer (some ⟨c, 0, none⟩), .int .i64 0]) ∧ St w' w.heap.size c b wy (List.replicate n nilV) (emp n) ∧ Below w.heap.size w w' := by
  have HS := Aside0.mk (St_new w n wy h2 h3 h4)
  have hmk := make56 n h2
  have HB := Aside0.mk (below_alloc (below_alloc (Below.refl w.heap.size w) (.cells (madeCells #[nilV] n) 23)) (.cells #[.slice (some ⟨w.heap.size, 0, none⟩) n n, .int .i64 wy] 58))
  have g1 : (1 : Int) ≤ (n : Int) := by omega
  have g2 : (n : Int) ≤ 4096 := by omega
  have hw : IntKind.i64.wrap ((n : Int) - 1) = (n : Int) - 1 := IntWalk.i64_in _ (by omega)
  clear h1 h2
  go_enter Try.func16, Try.ntmps16
  go_wp2_with fail
  go_ret2
  exact ⟨_, _, rfl, HS.out, HB.out⟩
theorem within_is (x m : Int) (h0 : 0 < m) (h1 : m ≤ 4611686018427387904) : cofferdamref00_Within.f x m = some (x % m) := by
  unfold cofferdamref00_Within.f
  rw [if_neg (by omega)]
  have hr0 := Int.emod_nonneg x (show m ≠ 0 by omega)
  have hr1 := Int.emod_lt_of_pos x h0
  have ht := Int.tmod_eq_emod (a := x) (b := m)
  by_cases hd : 0 ≤ x ∨ m ∣ x
  · rw [if_pos hd] at ht
    rw [if_neg (by omega)]
    congr 1
    omega
  · rw [if_neg hd] at ht
    have hne : x % m ≠ 0 := fun e => hd (.inr (Int.dvd_of_emod_eq_zero e))
    have ha : ((m.natAbs : Nat) : Int) = m := by omega
    rw [ha] at ht
    rw [ht, if_pos (by omega)]
    congr 1
    unfold wrap64
    omega
def two (k : Int) : Nat := if k = 0 then 1 else if k = 1 then 2 else if k = 2 then 4 else if k = 3 then 8 else 16
theorem made_any (K W : Int) (w : World) :
    Calls Try.prog 8 #[.int .i64 K, .int .i64 W] w fun e w' => ∃ c b, e = .returned (.tuple #[.pointer (some ⟨c, 0, none⟩), .int .i64 (two (K % 5) : Nat), .int .i64 (1 + W % 8)]) ∧ St w' w.heap.size c b (1 + W % 8) (List.replicate (two (K % 5)) nilV) (emp (two (K % 5))) ∧ Below w.heap.size w w' := by
  have hk0 : 0 ≤ K % 5 := Int.emod_nonneg _ (by omega)
  have hk1 : K % 5 < 5 := Int.emod_lt_of_pos _ (by omega)
  have hw0 : 0 ≤ W % 8 := Int.emod_nonneg _ (by omega)
  have hw1 : W % 8 < 8 := Int.emod_lt_of_pos _ (by omega)
  have HK := Aside0.mk (within_is K 5 (by omega) (by omega))
  have HW := Aside0.mk (within_is W 8 (by omega) (by omega))
  generalize W % 8 = y at hw0 hw1 HW ⊢
  generalize K % 5 = k at hk0 hk1 HK ⊢
  have hy : IntKind.i64.wrap (1 + y) = 1 + y := IntWalk.i64_in _ (by omega)
  have hc : k = 0 ∨ k = 1 ∨ k = 2 ∨ k = 3 ∨ k = 4 := by omega
  clear hk0 hk1
  rcases hc with rfl | rfl | rfl | rfl | rfl
  · have hz : bits .and .i64 ((1 : Nat) : Int) (((1 : Nat) : Int) - 1) = 0 := by kernel_rfl
    have HN := Aside0.mk (fun w => new_ok 1 (1 + y) w (by omega) (by omega) hz (by omega) (by omega))
    clear hz
    go_enter Try.func8, Try.ntmps8
    go_wp2_with fail
    refine (cofferdamref00_Within.calls K 5 _ _ HK.out).mono ?_
    rintro e w1 ⟨rfl, nd, rfl⟩
    go_wp2_with fail
    refine (cofferdamref00_Within.calls W 8 _ _ HW.out).mono ?_
    rintro e w2 ⟨rfl, nd2, rfl⟩
    go_wp2_with fail
    refine (HN.out _).mono ?_
    rintro e w3 ⟨c, b, rfl, hS, hB⟩
    have HS := Aside0.mk hS
    have HB := Aside0.mk hB
    clear hS hB
    go_wp2_with fail
    go_ret3
    exact ⟨_, _, rfl, HS.out, below_step (pw_below_drewN (Below.refl w.heap.size w) (nd + nd2)) HB.out⟩
  · have hz : bits .and .i64 ((2 : Nat) : Int) (((2 : Nat) : Int) - 1) = 0 := by kernel_rfl
    have HN := Aside0.mk (fun w => new_ok 2 (1 + y) w (by omega) (by omega) hz (by omega) (by omega))
    clear hz
    go_enter Try.func8, Try.ntmps8
    go_wp2_with fail
    refine (cofferdamref00_Within.calls K 5 _ _ HK.out).mono ?_
    rintro e w1 ⟨rfl, nd, rfl⟩
    go_wp2_with fail
    refine (cofferdamref00_Within.calls W 8 _ _ HW.out).mono ?_
    rintro e w2 ⟨rfl, nd2, rfl⟩
    go_wp2_with fail
    refine (HN.out _).mono ?_
    rintro e w3 ⟨c, b, rfl, hS, hB⟩
    have HS := Aside0.mk hS
    have HB := Aside0.mk hB
    clear hS hB
    go_wp2_with fail
    go_ret3
    exact ⟨_, _, rfl, HS.out, below_step (pw_below_drewN (Below.refl w.heap.size w) (nd + nd2)) HB.out⟩
  · have hz : bits .and .i64 ((4 : Nat) : Int) (((4 : Nat) : Int) - 1) = 0 := by kernel_rfl
    have HN := Aside0.mk (fun w => new_ok 4 (1 + y) w (by omega) (by omega) hz (by omega) (by omega))
    clear hz
    go_enter Try.func8, Try.ntmps8
    go_wp2_with fail
    refine (cofferdamref00_Within.calls K 5 _ _ HK.out).mono ?_
    rintro e w1 ⟨rfl, nd, rfl⟩
    go_wp2_with fail
    refine (cofferdamref00_Within.calls W 8 _ _ HW.out).mono ?_
    rintro e w2 ⟨rfl, nd2, rfl⟩
    go_wp2_with fail
    refine (HN.out _).mono ?_
    rintro e w3 ⟨c, b, rfl, hS, hB⟩
    have HS := Aside0.mk hS
    have HB := Aside0.mk hB
    clear hS hB
    go_wp2_with fail
    go_ret3
    exact ⟨_, _, rfl, HS.out, below_step (pw_below_drewN (Below.refl w.heap.size w) (nd + nd2)) HB.out⟩
  · have hz : bits .and .i64 ((8 : Nat) : Int) (((8 : Nat) : Int) - 1) = 0 := by kernel_rfl
    have HN := Aside0.mk (fun w => new_ok 8 (1 + y) w (by omega) (by omega) hz (by omega) (by omega))
    clear hz
    go_enter Try.func8, Try.ntmps8
    go_wp2_with fail
    refine (cofferdamref00_Within.calls K 5 _ _ HK.out).mono ?_
    rintro e w1 ⟨rfl, nd, rfl⟩
    go_wp2_with fail
    refine (cofferdamref00_Within.calls W 8 _ _ HW.out).mono ?_
    rintro e w2 ⟨rfl, nd2, rfl⟩
    go_wp2_with fail
    refine (HN.out _).mono ?_
    rintro e w3 ⟨c, b, rfl, hS, hB⟩
    have HS := Aside0.mk hS
    have HB := Aside0.mk hB
    clear hS hB
    go_wp2_with fail
    go_ret3
    exact ⟨_, _, rfl, HS.out, below_step (pw_below_drewN (Below.refl w.heap.size w) (nd + nd2)) HB.out⟩
  · have hz : bits .and .i64 ((16 : Nat) : Int) (((16 : Nat) : Int) - 1) = 0 := by kernel_rfl
    have HN := Aside0.mk (fun w => new_ok 16 (1 + y) w (by omega) (by omega) hz (by omega) (by omega))
    clear hz
    go_enter Try.func8, Try.ntmps8
    go_wp2_with fail
    refine (cofferdamref00_Within.calls K 5 _ _ HK.out).mono ?_
    rintro e w1 ⟨rfl, nd, rfl⟩
    go_wp2_with fail
    refine (cofferdamref00_Within.calls W 8 _ _ HW.out).mono ?_
    rintro e w2 ⟨rfl, nd2, rfl⟩
    go_wp2_with fail
    refine (HN.out _).mono ?_
    rintro e w3 ⟨c, b, rfl, hS, hB⟩
    have HS := Aside0.mk hS
    have HB := Aside0.mk hB
    clear hS hB
    go_wp2_with fail
    go_ret3
    exact ⟨_, _, rfl, HS.out, below_step (pw_below_drewN (Below.refl w.heap.size w) (nd + nd2)) HB.out⟩
theorem has_off (w : World) (base c b : Nat) (wy : Int) (vs : List Value) (M : List (List Int)) (s t : Int) (h : St w base c b wy vs M) (hs : ¬ (0 ≤ s ∧ s < M.length)) :
    Calls Try.prog 19 #[.pointer (some ⟨c, 0, none⟩), .int .i64 s, .int .u64 t] w fun e w' => e = .returned (.tuple #[.bool false, .int .i64 2]) ∧ Drawn0 w w' := by
  have HL := Aside0.mk (look_any w base c b wy vs M s t h)
  have e1 : lk M s t = 0 := if_neg hs
  have e2 : lkE M s = 2 := if_neg hs
  rw [e1, e2] at HL
  clear e1 e2 h hs
  go_enter Try.func19, Try.ntmps19
  go_wp2_with fail
  refine HL.out.mono ?_
  rintro e w1 ⟨rfl, hd⟩
  go_wp2_with fail
  go_ret2
  exact ⟨rfl, hd⟩
theorem has_on (w : World) (base c b : Nat) (wy : Int) (vs : List Value) (M : List (List Int)) (n : Nat) (t : Int) (h : St w base c b wy vs M) (hn : n < M.length) :
    Calls Try.prog 19 #[.pointer (some ⟨c, 0, none⟩), .int .i64 (n : Int), .int .u64 t] w fun e w' => e = .returned (.tuple #[.bool (decide (0 ≤ idx (M.getD n []) t)), .int .i64 0]) ∧ Drawn0 w w' := by
  have HL := Aside0.mk (look_any w base c b wy vs M (n : Int) t h)
  have e1 : lk M (n : Int) t = idx (M.getD n []) t := by unfold lk; rw [if_pos (by omega)]; rfl
  have e2 : lkE M (n : Int) = 0 := if_pos (by omega)
  rw [e1, e2] at HL
  clear e1 e2 h hn
  generalize idx (M.getD n []) t = r at HL ⊢
  go_enter Try.func19, Try.ntmps19
  go_wp2_with fail
  refine HL.out.mono ?_
  rintro e w1 ⟨rfl, hd⟩
  go_wp2_with fail
  go_ret2
  exact ⟨rfl, hd⟩
def cnt (M : List (List Int)) : Nat := (M.map List.length).sum
theorem cnt_take (M : List (List Int)) {i : Nat} (hi : i < M.length) : cnt (M.take (i + 1)) = cnt (M.take i) + (M.getD i []).length := by
  unfold cnt
  rw [List.take_succ_eq_append_getElem hi, List.map_append, List.sum_append]
  simp [hi]
theorem cnt_le (M : List (List Int)) (h : ∀ i, i < M.length → (M.getD i []).length ≤ 16) : ∀ i, i ≤ M.length → cnt (M.take i) ≤ 16 * i
  | 0, _ => by simp [cnt]
  | i + 1, hi => by
    rw [cnt_take M (by omega)]
    have := cnt_le M h i (by omega)
    have := h i (by omega)
    omega
theorem count_any (w : World) (base c b : Nat) (wy : Int) (vs : List Value) (M : List (List Int)) (h : St w base c b wy vs M) :
    Calls Try.prog 21 #[.pointer (some ⟨c, 0, none⟩)] w fun e w' => e = .returned (.int .i64 (cnt M : Nat)) ∧ Drawn0 w w' := by
  have hc0 : w.cell? ⟨c, 0, none⟩ = some (.slice (some ⟨b, 0, none⟩) M.length M.length) := blk_cell h.hc 0
  have hM := h.small
  have hl : ∀ i, i < M.length → (M.getD i []).length ≤ 16 := fun i hi => by have := h.lens i hi; have := h.wy16; omega
  have HL := Aside0.mk (cnt_le M hl)
  have hv : ∀ i, i < M.length → ∃ A cc, w.cell? ⟨b, i, none⟩ = some (.slice A (M.getD i []).length cc) := fun i hi => by
    obtain ⟨A, cc, hv⟩ := own_slice (h.rows.2.1 i hi)
    refine ⟨A, cc, (blk_cell h.hb i).trans ?_⟩
    rw [← hv]
    simp [show i < vs.length by rw [h.rows.1]; exact hi]
  have HV := Aside0.mk hv
  clear hl hv h
  go_enter Try.func21, Try.ntmps21
  go_wp2_with fail
  go_loopw [3, 13] (fun v3 v13 wr => ∃ i : Nat, i ≤ M.length ∧ v13 = .int .i64 i ∧ v3 = .int .i64 (cnt (M.take i) : Nat) ∧ Aside0 (Drawn0 w wr)) (fun _ v13 _ => M.length - (intOf v13).toNat)
  case atStart => exact ⟨0, by omega, rfl, rfl, ⟨Drawn0.refl _⟩⟩
  case round =>
    obtain ⟨i, hi, rfl, rfl, hD⟩ := hrel
    by_cases hlt : i < M.length
    · obtain ⟨A, cc, hvs⟩ := HV.out i hlt
      have hvs := pw_cell_below hD.out.below hvs
      have hct := cnt_take M hlt
      have hcl := HL.out (i + 1) (by omega)
      generalize (M.getD i []).length = m at hvs hct
      have hs : IntKind.i64.wrap ((cnt (M.take i) : Nat) + (m : Int)) = ((cnt (M.take (i + 1)) : Nat) : Int) := by
        rw [hct]
        have e : (((cnt (M.take i) : Nat) : Int) + (m : Int)) = ((cnt (M.take i) + m : Nat) : Int) := by omega
        rw [e]
        exact IntWalk.i64_in _ (by omega)
      clear hct hcl
      go_wp2_with fail
      go_roundw
      case rel => exact ⟨i + 1, by omega, by go_num, by first | rfl | go_num, hD⟩
      case measure => simp [intOf]; omega
    · have hiM : i = M.length := by omega
      subst hiM
      rw [List.take_length]
      go_wp2_with fail
      go_ret
      exact ⟨rfl, hD.out⟩
theorem awake_any (w : World) : Calls Try.prog 9 #[] w fun e w' => e = .returned (.bool true) ∧ Below w.heap.size w w' := by
  have hz : bits .and .i64 ((2 : Nat) : Int) (((2 : Nat) : Int) - 1) = 0 := by kernel_rfl
  have HN := Aside0.mk (new_ok 2 2 w (by omega) (by omega) hz (by omega) (by omega))
  clear hz
  go_enter Try.func9, Try.ntmps9
  go_wp2_with fail
  refine HN.out.mono ?_
  rintro e w1 ⟨c, b, rfl, hS, hB⟩
  have HS : Aside0 (St w1 w.heap.size c b 2 (List.replicate 2 nilV) [[], []]) := ⟨hS⟩
  have HB := Aside0.mk hB
  clear hS hB HN
  go_wp2_with fail
  refine (touch_on _ _ c b 2 _ _ 1 7 HS.out (by decide)).mono ?_
  rintro e w2 ⟨vs', rfl, hS, _, _, hB⟩
  have hx : decide (0 ≤ idx ((([[], []] : List (List Int))).getD 1 []) 7) = false := by decide
  rw [hx]
  have hM : (([[], []] : List (List Int)).set 1 (tl 2 (([[], []] : List (List Int)).getD 1 []) 7)) = [[], [7]] := by decide
  have HS' : Aside0 (St w2 w.heap.size c b 2 vs' [[], [7]]) := ⟨by rw [← hM]; exact hS⟩
  have HB' := Aside0.mk (HB.out.trans hB)
  clear hS hB HS HB hx hM
  have HS := HS'
  have HB := HB'
  clear HS' HB'
  go_wp2_with fail
  refine (touch_on _ _ c b 2 _ _ 1 8 HS.out (by decide)).mono ?_
  rintro e w3 ⟨vs', rfl, hS, _, _, hB⟩
  have hx : decide (0 ≤ idx ((([[], [7]] : List (List Int))).getD 1 []) 8) = false := by decide
  rw [hx]
  have hM : (([[], [7]] : List (List Int)).set 1 (tl 2 (([[], [7]] : List (List Int)).getD 1 []) 8)) = [[], [8, 7]] := by decide
  have HS' : Aside0 (St w3 w.heap.size c b 2 vs' [[], [8, 7]]) := ⟨by rw [← hM]; exact hS⟩
  have HB' := Aside0.mk (HB.out.trans hB)
  clear hS hB HS HB hx hM
  have HS := HS'
  have HB := HB'
  clear HS' HB'
  go_wp2_with fail
  refine (touch_on _ _ c b 2 _ _ 1 7 HS.out (by decide)).mono ?_
  rintro e w4 ⟨vs', rfl, hS, _, _, hB⟩
  have hx : decide (0 ≤ idx ((([[], [8, 7]] : List (List Int))).getD 1 []) 7) = true := by decide
  rw [hx]
  have hM : (([[], [8, 7]] : List (List Int)).set 1 (tl 2 (([[], [8, 7]] : List (List Int)).getD 1 []) 7)) = [[], [7, 8]] := by decide
  have HS' : Aside0 (St w4 w.heap.size c b 2 vs' [[], [7, 8]]) := ⟨by rw [← hM]; exact hS⟩
  have HB' := Aside0.mk (HB.out.trans hB)
  clear hS hB HS HB hx hM
  have HS := HS'
  have HB := HB'
  clear HS' HB'
  go_wp2_with fail
  refine (touch_on _ _ c b 2 _ _ 1 9 HS.out (by decide)).mono ?_
  rintro e w5 ⟨vs', rfl, hS, _, _, hB⟩
  have hx : decide (0 ≤ idx ((([[], [7, 8]] : List (List Int))).getD 1 []) 9) = false := by decide
  rw [hx]
  have hM : (([[], [7, 8]] : List (List Int)).set 1 (tl 2 (([[], [7, 8]] : List (List Int)).getD 1 []) 9)) = [[], [9, 7]] := by decide
  have HS' : Aside0 (St w5 w.heap.size c b 2 vs' [[], [9, 7]]) := ⟨by rw [← hM]; exact hS⟩
  have HB' := Aside0.mk (HB.out.trans hB)
  clear hS hB HS HB hx hM
  have HS := HS'
  have HB := HB'
  clear HS' HB'
  go_wp2_with fail
  refine (has_on _ _ c b 2 _ _ 1 8 HS.out (by decide)).mono ?_
  rintro e w6 ⟨rfl, hd⟩
  have HS6 := Aside0.mk (HS.out.later hd.below)
  have HB6 := Aside0.mk (below_step HB.out hd.below)
  clear HS HB hd
  have hx : decide (0 ≤ idx ((([[], [9, 7]] : List (List Int))).getD 1 []) 8) = false := by decide
  rw [hx]
  go_wp2_with fail
  refine (has_on _ _ c b 2 _ _ 1 7 HS6.out (by decide)).mono ?_
  rintro e w7 ⟨rfl, hd⟩
  have HS7 := Aside0.mk (HS6.out.later hd.below)
  have HB7 := Aside0.mk (below_step HB6.out hd.below)
  clear HS6 HB6 hd
  have hx2 : decide (0 ≤ idx ((([[], [9, 7]] : List (List Int))).getD 1 []) 7) = true := by decide
  rw [hx2]
  go_wp2_with fail
  refine (count_any _ _ c b 2 _ _ HS7.out).mono ?_
  rintro e w8 ⟨rfl, hd⟩
  have HB8 := Aside0.mk (below_step HB7.out hd.below)
  have hct : cnt ([[], [9, 7]] : List (List Int)) = 2 := by decide
  rw [hct]
  clear HS7 HB7 hd
  go_wp2_with fail
  go_ret
  exact ⟨rfl, HB8.out⟩
end Go.Proofs.Ytcneepffhplpiaa.H
