/- The law CyclesPlays by its contracts. -/
import Derived.Test.YtnihobcmaabmfaaC2
namespace Go.Proofs.Ytnihobcmaabmfaa.H
open Go.RowKit Go.Proofs.YtnihobcmaabmfaaW.PrintWords Go.Proofs.YtnihobcmaabmfaaW.PrintLast Go.Proofs.YtnihobcmaabmfaaW.PrintMore
set_option linter.unusedVariables false
set_option linter.unusedSimpArgs false
set_option maxHeartbeats 4000000
theorem Cn.q {t : TypeId} {w : World} {g : Nat} {s p n d : Int} (h : Aside0 (Cn t w g s p n d)) (k : Nat) : Cn t (w.drewN k) g s p n d := h.out
theorem quiet_of {P : Program} {f : FuncId} {args : Array Value} {w : World} {n : Nat} {v : Value}
    (h : Calls P f args (w.drewN n) fun e w' => e = .returned v ∧ Drawn0 (w.drewN n) w') : Calls P f args (w.drewN n) fun e w'' => e = .returned v ∧ ∃ m, w'' = w.drewN m :=
  Calls.quiet_of (h.mono fun _ _ ⟨he, hd⟩ => ⟨he, hd.out⟩)
theorem Cn.fact {t : TypeId} {w : World} {g : Nat} {s p n d : Int} (h : Cn t w g s p n d) : Aside0 (Cn t w g s p n d) := ⟨h⟩
theorem may_of {s p : Int} (h : mayB s p = true) : 1 ≤ s ∧ s ≤ 4194304 ∧ p ≤ 4194304 := by simp [mayB] at h; omega
set_option maxRecDepth 100000
theorem awake_yes (w : World) : Calls Try.prog 9 #[] w fun e w' => e = .returned (.bool true) ∧ Below w.heap.size w w' := by
  go_enter Try.func9, Try.ntmps9
  go_wp2_with fail
  refine (new_ok 100 10 2 w (by decide) (by decide)).mono ?_
  rintro e w1 ⟨rfl, hc, hb⟩
  have HB := Aside0.mk hb
  have HC := Aside0.mk hc
  clear hb hc
  go_wp2_with fail
  refine (spend_ok w.heap.size 100 10 2 0 60 w1 HC.out (by decide) (by decide) (by decide) (by decide) (by decide) (by decide) (by decide)).mono ?_
  rintro e w2 ⟨rfl, hc, ho⟩
  have HB2 := Aside0.mk (below_only HB.out ho (Nat.le_refl _))
  have HC2 := Aside0.mk hc
  clear hc ho HB HC
  go_wp2_with fail
  refine (spend_no w.heap.size 100 10 2 60 41 w2 HC2.out (by decide) (by decide) (by decide) (by decide) (by decide) (by decide) (by decide)).mono ?_
  rintro e w3 ⟨rfl, hc, ho⟩
  have HB3 := Aside0.mk (below_only HB2.out ho (Nat.le_refl _))
  have HC3 := Aside0.mk hc
  clear hc ho HB2 HC2
  go_wp2_with fail
  refine (left_in w.heap.size 100 10 2 60 w3 HC3.out (by decide) (by decide) (by decide) (by decide) (by decide) (by decide)).mono ?_
  rintro e w4 ⟨rfl, hd⟩
  have HB4 := Aside0.mk (below_step HB3.out hd.below)
  have HC4 := Aside0.mk (HC3.out.below hd.below)
  clear hd HB3 HC3
  go_wp2_with fail
  refine (switch_ok w.heap.size 100 10 2 60 10 w4 HC4.out (by decide) (by decide) (by decide) (by decide) (by decide) (by decide) (by decide) (by decide)).mono ?_
  rintro e w5 ⟨rfl, hc, ho⟩
  have HB5 := Aside0.mk (below_only HB4.out ho (Nat.le_refl _))
  have HC5 := Aside0.mk hc
  clear hc ho HB4 HC4
  go_wp2_with fail
  refine (now_any w.heap.size 100 10 3 0 w5 HC5.out (by decide)).mono ?_
  rintro e w6 ⟨rfl, hd⟩
  have hn : nowv 100 10 3 0 = 330 := by kernel_rfl
  rw [hn]
  have HB6 := Aside0.mk (below_step HB5.out hd.below)
  have HC6 := Aside0.mk (HC5.out.below hd.below)
  clear hd HB5 HC5 hn
  go_wp2_with fail
  refine (left_in w.heap.size 100 10 3 0 w6 HC6.out (by decide) (by decide) (by decide) (by decide) (by decide) (by decide)).mono ?_
  rintro e w7 ⟨rfl, hd⟩
  have HB7 := Aside0.mk (below_step HB6.out hd.below)
  have HC7 := Aside0.mk (HC6.out.below hd.below)
  clear hd HB6 HC6
  go_wp2_with fail
  refine (number_any w.heap.size 100 10 3 0 w7 HC7.out (by decide)).mono ?_
  rintro e w8 ⟨rfl, hw⟩
  subst w8
  go_wp2_with fail
  go_ret
  exact ⟨rfl, HB7.out⟩
def wm (k : Int) : Int := if Int.tmod k 2 < 0 then Int.tmod k 2 + 2 else Int.tmod k 2
theorem within_two (k : Int) (w : World) (h : -9223372036854775808 ≤ k ∧ k ≤ 9223372036854775807) : Calls Try.prog 15 #[.int .i64 k, .int .i64 2] w fun e w' => e = .returned (.int .i64 (wm k)) ∧ w' = w := by
  obtain ⟨h0, h1⟩ := h
  have b0 : -2 < Int.tmod k 2 := by have := Int.lt_tmod_of_pos k (show (0:Int) < 2 by decide); omega
  have b1 : Int.tmod k 2 < 2 := Int.tmod_lt_of_pos k (by decide)
  by_cases hn : Int.tmod k 2 < 0
  · have H := Aside0.mk (show wm k = Int.tmod k 2 + 2 from if_pos hn)
    go_enter Try.func15, Try.ntmps15
    go_wp2
    go_ret
    exact ⟨by rw [H.out]; rfl, rfl⟩
  · have H := Aside0.mk (show wm k = Int.tmod k 2 from if_neg hn)
    go_enter Try.func15, Try.ntmps15
    go_wp2
    go_ret
    exact ⟨by rw [H.out]; rfl, rfl⟩
end Go.Proofs.Ytnihobcmaabmfaa.H
