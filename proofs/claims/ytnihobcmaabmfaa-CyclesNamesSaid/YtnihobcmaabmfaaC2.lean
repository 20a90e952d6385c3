/- Contracts of the counter's methods. -/
import Derived.Test.YtnihobcmaabmfaaC1
namespace Go.Proofs.Ytnihobcmaabmfaa.H
open Go.RowKit Go.Proofs.YtnihobcmaabmfaaW.PrintWords Go.Proofs.YtnihobcmaabmfaaW.PrintLast Go.Proofs.YtnihobcmaabmfaaW.PrintMore
set_option linter.unusedVariables false
set_option linter.unusedSimpArgs false
set_option maxHeartbeats 1000000

theorem none_nil (w : World) : Calls Try.prog 28 #[.pointer none] w fun e w' => e = .returned (.bool true) ∧ w' = w := by
  go_enter Try.func28, Try.ntmps28
  go_wp2
  go_ret
  exact ⟨rfl, rfl⟩
theorem none_zero (g : Nat) (p n d : Int) (w : World) (hc : Cn 58 w g 0 p n d) : Calls Try.prog 28 #[.pointer (some ⟨g, 0, none⟩)] w fun e w' => e = .returned (.bool true) ∧ w' = w := by
  obtain ⟨c0, _, _, _, _, _⟩ := hc.cells
  clear hc
  go_enter Try.func28, Try.ntmps28
  go_wp2
  go_ret
  exact ⟨rfl, rfl⟩
theorem none_no (g : Nat) (s p n d : Int) (w : World) (hc : Cn 58 w g s p n d) (hs : 1 ≤ s) : Calls Try.prog 28 #[.pointer (some ⟨g, 0, none⟩)] w fun e w' => e = .returned (.bool false) ∧ w' = w := by
  obtain ⟨c0, _, _, _, _, _⟩ := hc.cells
  clear hc
  have hz : (s == 0) = false := by simp; omega
  go_enter Try.func28, Try.ntmps28
  go_wp2
  go_ret
  exact ⟨rfl, rfl⟩

theorem now_none (v : Value) (w : World) (h0 : Calls Try.prog 28 #[v] w fun e w' => e = .returned (.bool true) ∧ w' = w) : Calls Try.prog 10 #[v] w fun e w' => e = .returned (.int .u64 0) ∧ w' = w := by
  have H0 := Aside0.mk h0
  clear h0
  go_enter Try.func10, Try.ntmps10
  go_wp2_with (go_at_call 28; refine (H0.out).mono ?_; rintro e w' ⟨rfl, hw⟩; subst w')
  go_ret
  exact ⟨rfl, rfl⟩

theorem number_none (v : Value) (w : World) (h0 : Calls Try.prog 28 #[v] w fun e w' => e = .returned (.bool true) ∧ w' = w) : Calls Try.prog 12 #[v] w fun e w' => e = .returned (.int .u64 0) ∧ w' = w := by
  have H0 := Aside0.mk h0
  clear h0
  go_enter Try.func12, Try.ntmps12
  go_wp2_with (go_at_call 28; refine (H0.out).mono ?_; rintro e w' ⟨rfl, hw⟩; subst w')
  go_ret
  exact ⟨rfl, rfl⟩

theorem left_none (v : Value) (w : World) (h0 : Calls Try.prog 28 #[v] w fun e w' => e = .returned (.bool true) ∧ w' = w) : Calls Try.prog 13 #[v] w fun e w' => e = .returned (.int .u64 0) ∧ w' = w := by
  have H0 := Aside0.mk h0
  clear h0
  go_enter Try.func13, Try.ntmps13
  go_wp2_with (go_at_call 28; refine (H0.out).mono ?_; rintro e w' ⟨rfl, hw⟩; subst w')
  go_ret
  exact ⟨rfl, rfl⟩

theorem spend_none (v : Value) (x : Int) (w : World) (h0 : Calls Try.prog 28 #[v] w fun e w' => e = .returned (.bool true) ∧ w' = w) : Calls Try.prog 16 #[v, .int .u64 x] w fun e w' => e = .returned (.int .i64 1) ∧ w' = w := by
  have H0 := Aside0.mk h0
  clear h0
  go_enter Try.func16, Try.ntmps16
  go_wp2_with (go_at_call 28; refine (H0.out).mono ?_; rintro e w' ⟨rfl, hw⟩; subst w')
  go_ret
  exact ⟨rfl, rfl⟩

theorem switch_none (v : Value) (x : Int) (w : World) (h0 : Calls Try.prog 28 #[v] w fun e w' => e = .returned (.bool true) ∧ w' = w) : Calls Try.prog 18 #[v, .int .u64 x] w fun e w' => e = .returned (.int .i64 1) ∧ w' = w := by
  have H0 := Aside0.mk h0
  clear h0
  go_enter Try.func18, Try.ntmps18
  go_wp2_with (go_at_call 28; refine (H0.out).mono ?_; rintro e w' ⟨rfl, hw⟩; subst w')
  go_ret
  exact ⟨rfl, rfl⟩

theorem now_any (g : Nat) (s p n d : Int) (w : World) (hc : Cn 58 w g s p n d) (h1 : 1 ≤ s) : Calls Try.prog 10 #[.pointer (some ⟨g, 0, none⟩)] w fun e w' => e = .returned (.int .u64 (nowv s p n d)) ∧ Drawn0 w w' := by
  obtain ⟨c0, c1, c2, c3, f2, f3⟩ := hc.cells
  have HC := Aside0.mk hc
  clear hc
  go_enter Try.func10, Try.ntmps10
  go_wp2_with (go_at_call 28; refine (none_no g s p n d _ (by exact HC.out) h1).mono ?_; rintro e w' ⟨rfl, hw⟩; subst w')
  go_quiet (fail)
  go_wp2
  go_ret
  exact ⟨rfl, ⟨⟨_, rfl⟩⟩⟩

theorem number_any (g : Nat) (s p n d : Int) (w : World) (hc : Cn 58 w g s p n d) (h1 : 1 ≤ s) : Calls Try.prog 12 #[.pointer (some ⟨g, 0, none⟩)] w fun e w' => e = .returned (.int .u64 n) ∧ w' = w := by
  obtain ⟨c0, c1, c2, c3, f2, f3⟩ := hc.cells
  have HC := Aside0.mk hc
  clear hc
  go_enter Try.func12, Try.ntmps12
  go_wp2_with (first | (go_at_call 28; refine (none_no g s p n d _ (by exact HC.out) h1).mono ?_; rintro e w' ⟨rfl, hw⟩; subst w'))
  go_ret
  exact ⟨rfl, rfl⟩

theorem rnow_any (g : Nat) (s p n d : Int) (w : World) (hc : Cn 35 w g s p n d) (h1 : 1 ≤ s) : Calls Try.prog 11 #[.pointer (some ⟨g, 0, none⟩)] w fun e w' => e = .returned (.int .u64 (nowv s p n d)) ∧ Drawn0 w w' := by
  obtain ⟨c0, c1, c2, c3, f2, f3⟩ := hc.cells
  have HC := Aside0.mk hc
  clear hc
  go_enter Try.func11, Try.ntmps11
  go_wp2
  go_quiet (fail)
  go_wp2
  go_ret
  exact ⟨rfl, ⟨⟨_, rfl⟩⟩⟩

theorem left_end (g : Nat) (s p n d : Int) (w : World) (hc : Cn 58 w g s p n d) (h1 : 1 ≤ s) (h2 : s ≤ 4194304) (h3 : 0 ≤ d) (h4 : d ≤ s) (h5 : 0 ≤ n) (hn : 1099511627776 ≤ n) : Calls Try.prog 13 #[.pointer (some ⟨g, 0, none⟩)] w fun e w' => e = .returned (.int .u64 0) ∧ w' = w := by
  obtain ⟨c0, c1, c2, c3, f2, f3⟩ := hc.cells
  have HC := Aside0.mk hc
  clear hc
  go_enter Try.func13, Try.ntmps13
  go_wp2_with (first | (go_at_call 28; refine (none_no g s p n d _ (by exact HC.out) h1).mono ?_; rintro e w' ⟨rfl, hw⟩; subst w'))
  go_ret
  exact ⟨rfl, rfl⟩

theorem left_in (g : Nat) (s p n d : Int) (w : World) (hc : Cn 58 w g s p n d) (h1 : 1 ≤ s) (h2 : s ≤ 4194304) (h3 : 0 ≤ d) (h4 : d ≤ s) (h5 : 0 ≤ n) (hn : n < 1099511627776) : Calls Try.prog 13 #[.pointer (some ⟨g, 0, none⟩)] w fun e w' => e = .returned (.int .u64 (s - d)) ∧ Drawn0 w w' := by
  obtain ⟨c0, c1, c2, c3, f2, f3⟩ := hc.cells
  have HC := Aside0.mk hc
  clear hc
  go_enter Try.func13, Try.ntmps13
  go_wp2_with (go_at_call 28; refine (none_no g s p n d _ (by exact HC.out) h1).mono ?_; rintro e w' ⟨rfl, hw⟩; subst w')
  go_quiet (fail)
  go_wp2
  go_ret
  exact ⟨rfl, ⟨⟨_, rfl⟩⟩⟩

theorem rleft_end (g : Nat) (s p n d : Int) (w : World) (hc : Cn 35 w g s p n d) (h1 : 1 ≤ s) (h2 : s ≤ 4194304) (h3 : 0 ≤ d) (h4 : d ≤ s) (h5 : 0 ≤ n) (hn : (n == 1099511627776) = true) : Calls Try.prog 14 #[.pointer (some ⟨g, 0, none⟩)] w fun e w' => e = .returned (.int .u64 0) ∧ w' = w := by
  obtain ⟨c0, c1, c2, c3, f2, f3⟩ := hc.cells
  have HC := Aside0.mk hc
  clear hc
  go_enter Try.func14, Try.ntmps14
  go_wp2
  go_ret
  exact ⟨rfl, rfl⟩

theorem rleft_in (g : Nat) (s p n d : Int) (w : World) (hc : Cn 35 w g s p n d) (h1 : 1 ≤ s) (h2 : s ≤ 4194304) (h3 : 0 ≤ d) (h4 : d ≤ s) (h5 : 0 ≤ n) (hn : (n == 1099511627776) = false) : Calls Try.prog 14 #[.pointer (some ⟨g, 0, none⟩)] w fun e w' => e = .returned (.int .u64 (s - d)) ∧ Drawn0 w w' := by
  obtain ⟨c0, c1, c2, c3, f2, f3⟩ := hc.cells
  have HC := Aside0.mk hc
  clear hc
  go_enter Try.func14, Try.ntmps14
  go_wp2
  go_quiet (fail)
  go_wp2
  go_ret
  exact ⟨rfl, ⟨⟨_, rfl⟩⟩⟩

theorem left_any (g : Nat) (s p n d : Int) (w : World) (hc : Cn 58 w g s p n d) (h1 : 1 ≤ s) (h2 : s ≤ 4194304) (h3 : 0 ≤ d) (h4 : d ≤ s) (h5 : 0 ≤ n) : Calls Try.prog 13 #[.pointer (some ⟨g, 0, none⟩)] w fun e w' => e = .returned (.int .u64 (leftv s n d)) ∧ Drawn0 w w' := by
  unfold leftv
  by_cases hn : 1099511627776 ≤ n
  · rw [if_pos hn]
    exact (left_end g s p n d w hc h1 h2 h3 h4 h5 hn).mono fun e w' h => ⟨h.1, by rw [h.2]; exact Drawn0.refl _⟩
  · rw [if_neg hn]
    exact left_in g s p n d w hc h1 h2 h3 h4 h5 (by omega)
theorem rleft_any (g : Nat) (s p n d : Int) (w : World) (hc : Cn 35 w g s p n d) (h1 : 1 ≤ s) (h2 : s ≤ 4194304) (h3 : 0 ≤ d) (h4 : d ≤ s) (h5 : 0 ≤ n) (h6 : n ≤ 1099511627776) : Calls Try.prog 14 #[.pointer (some ⟨g, 0, none⟩)] w fun e w' => e = .returned (.int .u64 (leftv s n d)) ∧ Drawn0 w w' := by
  unfold leftv
  by_cases hn : 1099511627776 ≤ n
  · rw [if_pos hn]
    exact (rleft_end g s p n d w hc h1 h2 h3 h4 h5 (by simp; omega)).mono fun e w' h => ⟨h.1, by rw [h.2]; exact Drawn0.refl _⟩
  · rw [if_neg hn]
    exact rleft_in g s p n d w hc h1 h2 h3 h4 h5 (by simp; omega)

theorem spend_ok (g : Nat) (s p n d x : Int) (w : World) (hc : Cn 58 w g s p n d) (h1 : 1 ≤ s) (h2 : s ≤ 4194304) (h3 : 0 ≤ d) (h4 : d ≤ s) (h5 : 0 ≤ n) (h7 : 0 ≤ x) (hx : x ≤ leftv s n d) : Calls Try.prog 16 #[.pointer (some ⟨g, 0, none⟩), .int .u64 x] w fun e w' => e = .returned (.int .i64 0) ∧ Cn 58 w' g s p n (d + x) ∧ w.grownBy w' (some g) := by
  obtain ⟨c0, c1, c2, c3, f2, f3⟩ := hc.cells
  have HC := Aside0.mk hc
  clear hc
  have hb : d + x ≤ s := by unfold leftv at hx; split at hx <;> omega
  go_enter Try.func16, Try.ntmps16
  go_wp2_with (first | (go_at_call 28; refine (none_no g s p n d _ (by exact HC.out) h1).mono ?_; rintro e w' ⟨rfl, hw⟩; subst w') | (go_at_call 13; refine (left_any g s p n d _ (by exact HC.out) h1 h2 h3 h4 h5).mono ?_; rintro e w' ⟨rfl, hd⟩; obtain ⟨k, rfl⟩ := hd))
  go_ret
  exact ⟨rfl, (HC.out.drewN _).set3 _, only_setCell (p := ⟨g, 3, none⟩) (only_drewN (World.grownBy.refl _ _) _) (.inl rfl) _⟩

theorem spend_no (g : Nat) (s p n d x : Int) (w : World) (hc : Cn 58 w g s p n d) (h1 : 1 ≤ s) (h2 : s ≤ 4194304) (h3 : 0 ≤ d) (h4 : d ≤ s) (h5 : 0 ≤ n) (h7 : 0 ≤ x) (hx : leftv s n d < x) : Calls Try.prog 16 #[.pointer (some ⟨g, 0, none⟩), .int .u64 x] w fun e w' => e = .returned (.int .i64 50) ∧ Cn 58 w' g s p n d ∧ w.grownBy w' (some g) := by
  obtain ⟨c0, c1, c2, c3, f2, f3⟩ := hc.cells
  have HC := Aside0.mk hc
  clear hc
  go_enter Try.func16, Try.ntmps16
  go_wp2_with (first | (go_at_call 28; refine (none_no g s p n d _ (by exact HC.out) h1).mono ?_; rintro e w' ⟨rfl, hw⟩; subst w') | (go_at_call 13; refine (left_any g s p n d _ (by exact HC.out) h1 h2 h3 h4 h5).mono ?_; rintro e w' ⟨rfl, hd⟩; obtain ⟨k, rfl⟩ := hd))
  go_ret
  exact ⟨rfl, HC.out.drewN _, only_drewN (World.grownBy.refl _ _) _⟩

theorem rspend_ok (g : Nat) (s p n d x : Int) (w : World) (hc : Cn 35 w g s p n d) (h1 : 1 ≤ s) (h2 : s ≤ 4194304) (h3 : 0 ≤ d) (h4 : d ≤ s) (h5 : 0 ≤ n) (h7 : 0 ≤ x) (h6 : n ≤ 1099511627776) (hx : x ≤ leftv s n d) : Calls Try.prog 17 #[.pointer (some ⟨g, 0, none⟩), .int .u64 x] w fun e w' => e = .returned (.int .i64 0) ∧ Cn 35 w' g s p n (d + x) ∧ w.grownBy w' (some g) := by
  obtain ⟨c0, c1, c2, c3, f2, f3⟩ := hc.cells
  have HC := Aside0.mk hc
  clear hc
  have hb : d + x ≤ s := by unfold leftv at hx; split at hx <;> omega
  go_enter Try.func17, Try.ntmps17
  go_wp2_with (go_at_call 14; refine (rleft_any g s p n d _ (by exact HC.out) h1 h2 h3 h4 h5 h6).mono ?_; rintro e w' ⟨rfl, hd⟩; obtain ⟨k, rfl⟩ := hd)
  go_ret
  exact ⟨rfl, (HC.out.drewN _).set3 _, only_setCell (p := ⟨g, 3, none⟩) (only_drewN (World.grownBy.refl _ _) _) (.inl rfl) _⟩

theorem rspend_no (g : Nat) (s p n d x : Int) (w : World) (hc : Cn 35 w g s p n d) (h1 : 1 ≤ s) (h2 : s ≤ 4194304) (h3 : 0 ≤ d) (h4 : d ≤ s) (h5 : 0 ≤ n) (h7 : 0 ≤ x) (h6 : n ≤ 1099511627776) (hx : leftv s n d < x) : Calls Try.prog 17 #[.pointer (some ⟨g, 0, none⟩), .int .u64 x] w fun e w' => e = .returned (.int .i64 50) ∧ Cn 35 w' g s p n d ∧ w.grownBy w' (some g) := by
  obtain ⟨c0, c1, c2, c3, f2, f3⟩ := hc.cells
  have HC := Aside0.mk hc
  clear hc
  go_enter Try.func17, Try.ntmps17
  go_wp2_with (go_at_call 14; refine (rleft_any g s p n d _ (by exact HC.out) h1 h2 h3 h4 h5 h6).mono ?_; rintro e w' ⟨rfl, hd⟩; obtain ⟨k, rfl⟩ := hd)
  go_ret
  exact ⟨rfl, HC.out.drewN _, only_drewN (World.grownBy.refl _ _) _⟩

theorem switch_halt (g : Nat) (s p n d x : Int) (w : World) (hc : Cn 58 w g s p n d) (h1 : 1 ≤ s) (h2 : s ≤ 4194304) (h3 : 0 ≤ d) (h4 : d ≤ s) (h5 : 0 ≤ n) (h7 : 0 ≤ x) (hn : 1099511627776 ≤ n) : Calls Try.prog 18 #[.pointer (some ⟨g, 0, none⟩), .int .u64 x] w fun e w' => e = .returned (.int .i64 51) ∧ Cn 58 w' g s p n d ∧ w.grownBy w' (some g) := by
  obtain ⟨c0, c1, c2, c3, f2, f3⟩ := hc.cells
  have HC := Aside0.mk hc
  clear hc
  go_enter Try.func18, Try.ntmps18
  go_wp2_with (go_at_call 28; refine (none_no g s p n d _ (by exact HC.out) h1).mono ?_; rintro e w' ⟨rfl, hw⟩; subst w')
  go_ret
  exact ⟨rfl, HC.out, World.grownBy.refl _ _⟩

theorem switch_no (g : Nat) (s p n d x : Int) (w : World) (hc : Cn 58 w g s p n d) (h1 : 1 ≤ s) (h2 : s ≤ 4194304) (h3 : 0 ≤ d) (h4 : d ≤ s) (h5 : 0 ≤ n) (h7 : 0 ≤ x) (hn : n < 1099511627776) (hx : p < x) : Calls Try.prog 18 #[.pointer (some ⟨g, 0, none⟩), .int .u64 x] w fun e w' => e = .returned (.int .i64 50) ∧ Cn 58 w' g s p n d ∧ w.grownBy w' (some g) := by
  obtain ⟨c0, c1, c2, c3, f2, f3⟩ := hc.cells
  have HC := Aside0.mk hc
  clear hc
  go_enter Try.func18, Try.ntmps18
  go_wp2_with (go_at_call 28; refine (none_no g s p n d _ (by exact HC.out) h1).mono ?_; rintro e w' ⟨rfl, hw⟩; subst w')
  go_ret
  exact ⟨rfl, HC.out, World.grownBy.refl _ _⟩

theorem switch_ok (g : Nat) (s p n d x : Int) (w : World) (hc : Cn 58 w g s p n d) (h1 : 1 ≤ s) (h2 : s ≤ 4194304) (h3 : 0 ≤ d) (h4 : d ≤ s) (h5 : 0 ≤ n) (h7 : 0 ≤ x) (hn : n < 1099511627776) (hx : x ≤ p) : Calls Try.prog 18 #[.pointer (some ⟨g, 0, none⟩), .int .u64 x] w fun e w' => e = .returned (.int .i64 0) ∧ Cn 58 w' g s p (n + 1) 0 ∧ w.grownBy w' (some g) := by
  obtain ⟨c0, c1, c2, c3, f2, f3⟩ := hc.cells
  have HC := Aside0.mk hc
  clear hc
  go_enter Try.func18, Try.ntmps18
  go_wp2_with (go_at_call 28; refine (none_no g s p n d _ (by exact HC.out) h1).mono ?_; rintro e w' ⟨rfl, hw⟩; subst w')
  go_ret
  exact ⟨rfl, (HC.out.set2 _).set3 _, only_setCell (p := ⟨g, 3, none⟩) (only_setCell (p := ⟨g, 2, none⟩) (World.grownBy.refl _ _) (.inl rfl) _) (.inl rfl) _⟩

theorem rswitch_halt (g : Nat) (s p n d x : Int) (w : World) (hc : Cn 35 w g s p n d) (h1 : 1 ≤ s) (h2 : s ≤ 4194304) (h3 : 0 ≤ d) (h4 : d ≤ s) (h5 : 0 ≤ n) (h7 : 0 ≤ x) (hn : (n == 1099511627776) = true) : Calls Try.prog 19 #[.pointer (some ⟨g, 0, none⟩), .int .u64 x] w fun e w' => e = .returned (.int .i64 51) ∧ Cn 35 w' g s p n d ∧ w.grownBy w' (some g) := by
  obtain ⟨c0, c1, c2, c3, f2, f3⟩ := hc.cells
  have HC := Aside0.mk hc
  clear hc
  go_enter Try.func19, Try.ntmps19
  go_wp2
  go_ret
  exact ⟨rfl, HC.out, World.grownBy.refl _ _⟩

theorem rswitch_no (g : Nat) (s p n d x : Int) (w : World) (hc : Cn 35 w g s p n d) (h1 : 1 ≤ s) (h2 : s ≤ 4194304) (h3 : 0 ≤ d) (h4 : d ≤ s) (h5 : 0 ≤ n) (h7 : 0 ≤ x) (hn : n < 1099511627776) (hq : (n == 1099511627776) = false) (hx : p < x) : Calls Try.prog 19 #[.pointer (some ⟨g, 0, none⟩), .int .u64 x] w fun e w' => e = .returned (.int .i64 50) ∧ Cn 35 w' g s p n d ∧ w.grownBy w' (some g) := by
  obtain ⟨c0, c1, c2, c3, f2, f3⟩ := hc.cells
  have HC := Aside0.mk hc
  clear hc
  go_enter Try.func19, Try.ntmps19
  go_wp2
  go_ret
  exact ⟨rfl, HC.out, World.grownBy.refl _ _⟩

theorem rswitch_ok (g : Nat) (s p n d x : Int) (w : World) (hc : Cn 35 w g s p n d) (h1 : 1 ≤ s) (h2 : s ≤ 4194304) (h3 : 0 ≤ d) (h4 : d ≤ s) (h5 : 0 ≤ n) (h7 : 0 ≤ x) (hn : n < 1099511627776) (hq : (n == 1099511627776) = false) (hx : x ≤ p) : Calls Try.prog 19 #[.pointer (some ⟨g, 0, none⟩), .int .u64 x] w fun e w' => e = .returned (.int .i64 0) ∧ Cn 35 w' g s p (n + 1) 0 ∧ w.grownBy w' (some g) := by
  obtain ⟨c0, c1, c2, c3, f2, f3⟩ := hc.cells
  have HC := Aside0.mk hc
  clear hc
  go_enter Try.func19, Try.ntmps19
  go_wp2
  go_ret
  exact ⟨rfl, (HC.out.set2 _).set3 _, only_setCell (p := ⟨g, 3, none⟩) (only_setCell (p := ⟨g, 2, none⟩) (World.grownBy.refl _ _) (.inl rfl) _) (.inl rfl) _⟩
end Go.Proofs.Ytnihobcmaabmfaa.H
