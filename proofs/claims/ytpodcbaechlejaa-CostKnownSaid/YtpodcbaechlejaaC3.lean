/- Contract of cost.Most over a contract of 'asked'. -/
import Derived.Test.YtpodcbaechlejaaC2
namespace Go.Proofs.Ytpodcbaechlejaa.H
open Go.RowKit Go.Proofs.YtpodcbaechlejaaW.PrintWords Go.Proofs.YtpodcbaechlejaaW.PrintLast Go.Proofs.YtpodcbaechlejaaW.PrintMore
set_option linter.unusedVariables false
set_option linter.unusedSimpArgs false

attribute [local go_sem] max2_int max_two
/-- The greatest of the first k kinds. -/
def mxs (m fault step disk user limit nodes : Int) : Nat → Int
  | 0 => 0
  | k + 1 => mx (mxs m fault step disk user limit nodes k) (bd m fault step disk user limit nodes k)
def mst (m fault step disk image user limit nodes : Int) : Int := IntKind.u64.wrap (IntKind.u64.wrap (IntKind.u64.wrap image * m) + mxs m fault step disk user limit nodes 11)
theorem mx_lt {a b : Int} (h : a < b) : mx a b = b := by unfold mx; rw [if_pos h]
theorem mx_ge {a b : Int} (h : ¬ a < b) : mx a b = a := by unfold mx; rw [if_neg h]
theorem u64_v {a b : Int} (h : a = b) : Value.int .u64 a = Value.int .u64 b := by rw [h]
def bdv (m fault step disk user limit nodes : Int) (k : Nat) : Int := bd m fault step disk user limit nodes k
set_option maxHeartbeats 8000000 in
set_option maxRecDepth 100000 in
theorem most_no (l1 llc m fault step disk image user limit nodes : Int) (t : Int) (ht : (t != 0) = true) (w : World) (hask : ∀ w : World, Calls Try.prog 25 #[.agg #[.int .u64 l1, .int .u64 llc, .int .u64 m, .int .u64 fault, .int .u64 step, .int .u64 disk], .agg #[.int .i64 image, .int .i64 user, .int .i64 limit, .int .i64 nodes]] w fun e w' => e = .returned (.int .i64 t) ∧ Below w.heap.size w w') :
    Calls Try.prog 17 #[.agg #[.int .u64 l1, .int .u64 llc, .int .u64 m, .int .u64 fault, .int .u64 step, .int .u64 disk], .agg #[.int .i64 image, .int .i64 user, .int .i64 limit, .int .i64 nodes]] w fun e w' => e = .returned (.tuple #[.int .u64 0, .int .i64 t]) ∧ Below w.heap.size w w' := by
  have hu24 := Try.underlying24
  have hu35 := Try.underlying35
  have HASK := Aside0.mk hask
  clear hask
  go_enter Try.func17, Try.ntmps17
  go_wp2_with (first | (go_at_call 25; refine (HASK.out _).mono ?_; rintro e w1 ⟨rfl, hb1⟩; obtain ⟨hc, hf⟩ := bcell hb1))
  go_ret2
  exact ⟨rfl, below_then (below_alloc (below_alloc (Below.refl w.heap.size w) (.cells #[.int .u64 l1, .int .u64 llc, .int .u64 m, .int .u64 fault, .int .u64 step, .int .u64 disk] 24)) (.cells #[.int .i64 image, .int .i64 user, .int .i64 limit, .int .i64 nodes] 35)) (by simp; omega) (by assumption)⟩
set_option maxHeartbeats 8000000 in
set_option maxRecDepth 100000 in
theorem most_ok (l1 llc m fault step disk image user limit nodes : Int) (w : World) (hask : ∀ w : World, Calls Try.prog 25 #[.agg #[.int .u64 l1, .int .u64 llc, .int .u64 m, .int .u64 fault, .int .u64 step, .int .u64 disk], .agg #[.int .i64 image, .int .i64 user, .int .i64 limit, .int .i64 nodes]] w fun e w' => e = .returned (.int .i64 0) ∧ Below w.heap.size w w') :
    Calls Try.prog 17 #[.agg #[.int .u64 l1, .int .u64 llc, .int .u64 m, .int .u64 fault, .int .u64 step, .int .u64 disk], .agg #[.int .i64 image, .int .i64 user, .int .i64 limit, .int .i64 nodes]] w fun e w' => e = .returned (.tuple #[.int .u64 (mst m fault step disk image user limit nodes), .int .i64 0]) ∧ Below w.heap.size w w' := by
  have hu24 := Try.underlying24
  have hu35 := Try.underlying35
  have HASK := Aside0.mk hask
  clear hask
  go_enter Try.func17, Try.ntmps17
  go_wp2_with (first | (go_at_call 25; refine (HASK.out _).mono ?_; rintro e w1 ⟨rfl, hb1⟩; obtain ⟨hc, hf⟩ := bcell hb1) | (go_at_call 26; refine (bounds_any l1 llc m fault step disk image user limit nodes _).mono ?_; rintro e w2 ⟨gc, gs, gm, gp, ga, gf, hm, hu, rfl, hbw, hb2⟩; obtain ⟨hc2, hf2⟩ := bcell hb2; have HW := Aside0.mk hbw; clear hbw))
  have hbel0 := Aside0.mk (below_then (below_then (below_alloc (below_alloc (Below.refl w.heap.size w) (.cells #[.int .u64 l1, .int .u64 llc, .int .u64 m, .int .u64 fault, .int .u64 step, .int .u64 disk] 24)) (.cells #[.int .i64 image, .int .i64 user, .int .i64 limit, .int .i64 nodes] 35)) (by simp; omega) hb1) (by have := hb1.size; simp at this; omega) hb2)
  have hsz1 := hb1.size
  have hsz2 := hb2.size
  simp at hsz1
  have k0 : w2.cell? ⟨w.heap.size + 1, 0, none⟩ = some (.int .i64 image) := by rw [hc2 _ _ (by omega), hc _ _ (by simp)]; simp
  have k1 : w2.cell? ⟨w.heap.size, 2, none⟩ = some (.int .u64 m) := by rw [hc2 _ _ (by omega), hc _ _ (by simp; omega)]; simp
  have K0 := Aside0.mk k0
  have K1 := Aside0.mk k1
  have hlt2 : w.heap.size + 1 < w2.heap.size := by omega
  clear hc hf hc2 hf2 hb1 hb2 k0 k1 hsz1 hsz2
  go_loopw [7, 19] (fun v7 v19 wr => ∃ k : Nat, k ≤ 11 ∧ v19 = .int .i64 k ∧ Aside0 (v7 = .int .u64 (mxs m fault step disk user limit nodes k)) ∧ Aside0 (BW l1 llc m fault step disk image user limit nodes gc gs gm gp ga gf hm hu wr) ∧ Aside0 (Below w2.heap.size w2 wr)) (fun _ v19 _ => 11 - (intOf v19).toNat)
  case atStart => exact ⟨0, Nat.zero_le _, rfl, ⟨rfl⟩, HW, ⟨Below.refl _ _⟩⟩
  case round =>
    obtain ⟨k, hk, rfl, hv, HW, hbel⟩ := hrel
    have hk5 : k = 0 ∨ k = 1 ∨ k = 2 ∨ k = 3 ∨ k = 4 ∨ k = 5 ∨ k = 6 ∨ k = 7 ∨ k = 8 ∨ k = 9 ∨ k = 10 ∨ k = 11 := by omega
    rcases hk5 with rfl | rfl | rfl | rfl | rfl | rfl | rfl | rfl | rfl | rfl | rfl | rfl
    · have ik : ∀ w : World, (Instr.index 53 (.agg #[(.func (.func 31) #[] #[]), (.func (.func 32) #[] #[(.pointer (some ⟨gm, 0, none⟩))]), (.func (.func 33) #[] #[(.pointer (some ⟨ga, 0, none⟩)), (.pointer (some ⟨gm, 0, none⟩))]), (.func (.func 34) #[] #[(.pointer (some ⟨gm, 0, none⟩)), (.pointer (some ⟨gs, 0, none⟩)), (.pointer (some ⟨ga, 0, none⟩))]), (.func (.func 29) #[] #[(.pointer (some ⟨gm, 0, none⟩))]), (.func (.func 30) #[] #[(.pointer (some ⟨gp, 0, none⟩))]), (.func (.func 35) #[] #[(.pointer (some ⟨gc, 0, none⟩)), (.pointer (some ⟨gm, 0, none⟩))]), (.func (.func 36) #[] #[(.pointer (some ⟨hm, 0, none⟩)), (.pointer (some ⟨hu, 0, none⟩))]), (.func (.func 37) #[] #[(.pointer (some ⟨gm, 0, none⟩)), (.pointer (some ⟨gc, 0, none⟩)), (.pointer (some ⟨gf, 0, none⟩))]), (.func (.func 38) #[] #[(.pointer (some ⟨gm, 0, none⟩)), (.pointer (some ⟨gc, 0, none⟩)), (.pointer (some ⟨gf, 0, none⟩))]), (.func (.func 31) #[] #[])]) (.int .i64 0)).run Try.prog w = .ok (.func (.func 31) #[] #[]) w := fun _ => by kernel_rfl
      have hX := Aside0.mk (show mxs m fault step disk user limit nodes (0 + 1) = mx (mxs m fault step disk user limit nodes 0) 0 from rfl)
      obtain ⟨X, hX0⟩ : ∃ X, mxs m fault step disk user limit nodes 0 = X := ⟨_, rfl⟩
      rw [hX0] at hX hv
      clear hX0
      obtain rfl := hv.out
      by_cases hlt : X < 0
      · have hMx := Aside0.mk (show mx X 0 = 0 from mx_lt hlt)
        go_wp2_with (first | (go_at_call 31; refine (clo31 l1 llc m fault step disk image user limit nodes gc gs gm gp ga gf hm hu _ HW.out).mono ?_; rintro e w' ⟨rfl, rfl⟩))
        refine ⟨⟨1, by omega, rfl, ⟨u64_v (by rw [hX.out, hMx.out])⟩, ⟨HW.out⟩, ⟨hbel.out⟩⟩, by simp [intOf]⟩
      · have hMx := Aside0.mk (show mx X 0 = X from mx_ge hlt)
        go_wp2_with (first | (go_at_call 31; refine (clo31 l1 llc m fault step disk image user limit nodes gc gs gm gp ga gf hm hu _ HW.out).mono ?_; rintro e w' ⟨rfl, rfl⟩))
        refine ⟨⟨1, by omega, rfl, ⟨u64_v (by rw [hX.out, hMx.out])⟩, ⟨HW.out⟩, ⟨hbel.out⟩⟩, by simp [intOf]⟩
    · have ik : ∀ w : World, (Instr.index 53 (.agg #[(.func (.func 31) #[] #[]), (.func (.func 32) #[] #[(.pointer (some ⟨gm, 0, none⟩))]), (.func (.func 33) #[] #[(.pointer (some ⟨ga, 0, none⟩)), (.pointer (some ⟨gm, 0, none⟩))]), (.func (.func 34) #[] #[(.pointer (some ⟨gm, 0, none⟩)), (.pointer (some ⟨gs, 0, none⟩)), (.pointer (some ⟨ga, 0, none⟩))]), (.func (.func 29) #[] #[(.pointer (some ⟨gm, 0, none⟩))]), (.func (.func 30) #[] #[(.pointer (some ⟨gp, 0, none⟩))]), (.func (.func 35) #[] #[(.pointer (some ⟨gc, 0, none⟩)), (.pointer (some ⟨gm, 0, none⟩))]), (.func (.func 36) #[] #[(.pointer (some ⟨hm, 0, none⟩)), (.pointer (some ⟨hu, 0, none⟩))]), (.func (.func 37) #[] #[(.pointer (some ⟨gm, 0, none⟩)), (.pointer (some ⟨gc, 0, none⟩)), (.pointer (some ⟨gf, 0, none⟩))]), (.func (.func 38) #[] #[(.pointer (some ⟨gm, 0, none⟩)), (.pointer (some ⟨gc, 0, none⟩)), (.pointer (some ⟨gf, 0, none⟩))]), (.func (.func 31) #[] #[])]) (.int .i64 1)).run Try.prog w = .ok (.func (.func 32) #[] #[(.pointer (some ⟨gm, 0, none⟩))]) w := fun _ => by kernel_rfl
      have hX := Aside0.mk (show mxs m fault step disk user limit nodes (1 + 1) = mx (mxs m fault step disk user limit nodes 1) (bd1 m) from rfl)
      obtain ⟨X, hX0⟩ : ∃ X, mxs m fault step disk user limit nodes 1 = X := ⟨_, rfl⟩
      rw [hX0] at hX hv
      clear hX0
      obtain rfl := hv.out
      by_cases hlt : X < (bd1 m)
      · have hMx := Aside0.mk (show mx X (bd1 m) = (bd1 m) from mx_lt hlt)
        go_wp2_with (first | (go_at_call 32; refine (clo32 l1 llc m fault step disk image user limit nodes gc gs gm gp ga gf hm hu _ HW.out).mono ?_; rintro e w' ⟨rfl, rfl⟩))
        refine ⟨⟨2, by omega, rfl, ⟨u64_v (by rw [hX.out, hMx.out])⟩, ⟨HW.out⟩, ⟨hbel.out⟩⟩, by simp [intOf]⟩
      · have hMx := Aside0.mk (show mx X (bd1 m) = X from mx_ge hlt)
        go_wp2_with (first | (go_at_call 32; refine (clo32 l1 llc m fault step disk image user limit nodes gc gs gm gp ga gf hm hu _ HW.out).mono ?_; rintro e w' ⟨rfl, rfl⟩))
        refine ⟨⟨2, by omega, rfl, ⟨u64_v (by rw [hX.out, hMx.out])⟩, ⟨HW.out⟩, ⟨hbel.out⟩⟩, by simp [intOf]⟩
    · have ik : ∀ w : World, (Instr.index 53 (.agg #[(.func (.func 31) #[] #[]), (.func (.func 32) #[] #[(.pointer (some ⟨gm, 0, none⟩))]), (.func (.func 33) #[] #[(.pointer (some ⟨ga, 0, none⟩)), (.pointer (some ⟨gm, 0, none⟩))]), (.func (.func 34) #[] #[(.pointer (some ⟨gm, 0, none⟩)), (.pointer (some ⟨gs, 0, none⟩)), (.pointer (some ⟨ga, 0, none⟩))]), (.func (.func 29) #[] #[(.pointer (some ⟨gm, 0, none⟩))]), (.func (.func 30) #[] #[(.pointer (some ⟨gp, 0, none⟩))]), (.func (.func 35) #[] #[(.pointer (some ⟨gc, 0, none⟩)), (.pointer (some ⟨gm, 0, none⟩))]), (.func (.func 36) #[] #[(.pointer (some ⟨hm, 0, none⟩)), (.pointer (some ⟨hu, 0, none⟩))]), (.func (.func 37) #[] #[(.pointer (some ⟨gm, 0, none⟩)), (.pointer (some ⟨gc, 0, none⟩)), (.pointer (some ⟨gf, 0, none⟩))]), (.func (.func 38) #[] #[(.pointer (some ⟨gm, 0, none⟩)), (.pointer (some ⟨gc, 0, none⟩)), (.pointer (some ⟨gf, 0, none⟩))]), (.func (.func 31) #[] #[])]) (.int .i64 2)).run Try.prog w = .ok (.func (.func 33) #[] #[(.pointer (some ⟨ga, 0, none⟩)), (.pointer (some ⟨gm, 0, none⟩))]) w := fun _ => by kernel_rfl
      have hX := Aside0.mk (show mxs m fault step disk user limit nodes (2 + 1) = mx (mxs m fault step disk user limit nodes 2) (bd2 m (al m step limit)) from rfl)
      obtain ⟨X, hX0⟩ : ∃ X, mxs m fault step disk user limit nodes 2 = X := ⟨_, rfl⟩
      rw [hX0] at hX hv
      clear hX0
      obtain rfl := hv.out
      by_cases hlt : X < (bd2 m (al m step limit))
      · have hMx := Aside0.mk (show mx X (bd2 m (al m step limit)) = (bd2 m (al m step limit)) from mx_lt hlt)
        go_wp2_with (first | (go_at_call 33; refine (clo33 l1 llc m fault step disk image user limit nodes gc gs gm gp ga gf hm hu _ HW.out).mono ?_; rintro e w' ⟨rfl, rfl⟩))
        refine ⟨⟨3, by omega, rfl, ⟨u64_v (by rw [hX.out, hMx.out])⟩, ⟨HW.out⟩, ⟨hbel.out⟩⟩, by simp [intOf]⟩
      · have hMx := Aside0.mk (show mx X (bd2 m (al m step limit)) = X from mx_ge hlt)
        go_wp2_with (first | (go_at_call 33; refine (clo33 l1 llc m fault step disk image user limit nodes gc gs gm gp ga gf hm hu _ HW.out).mono ?_; rintro e w' ⟨rfl, rfl⟩))
        refine ⟨⟨3, by omega, rfl, ⟨u64_v (by rw [hX.out, hMx.out])⟩, ⟨HW.out⟩, ⟨hbel.out⟩⟩, by simp [intOf]⟩
    · have ik : ∀ w : World, (Instr.index 53 (.agg #[(.func (.func 31) #[] #[]), (.func (.func 32) #[] #[(.pointer (some ⟨gm, 0, none⟩))]), (.func (.func 33) #[] #[(.pointer (some ⟨ga, 0, none⟩)), (.pointer (some ⟨gm, 0, none⟩))]), (.func (.func 34) #[] #[(.pointer (some ⟨gm, 0, none⟩)), (.pointer (some ⟨gs, 0, none⟩)), (.pointer (some ⟨ga, 0, none⟩))]), (.func (.func 29) #[] #[(.pointer (some ⟨gm, 0, none⟩))]), (.func (.func 30) #[] #[(.pointer (some ⟨gp, 0, none⟩))]), (.func (.func 35) #[] #[(.pointer (some ⟨gc, 0, none⟩)), (.pointer (some ⟨gm, 0, none⟩))]), (.func (.func 36) #[] #[(.pointer (some ⟨hm, 0, none⟩)), (.pointer (some ⟨hu, 0, none⟩))]), (.func (.func 37) #[] #[(.pointer (some ⟨gm, 0, none⟩)), (.pointer (some ⟨gc, 0, none⟩)), (.pointer (some ⟨gf, 0, none⟩))]), (.func (.func 38) #[] #[(.pointer (some ⟨gm, 0, none⟩)), (.pointer (some ⟨gc, 0, none⟩)), (.pointer (some ⟨gf, 0, none⟩))]), (.func (.func 31) #[] #[])]) (.int .i64 3)).run Try.prog w = .ok (.func (.func 34) #[] #[(.pointer (some ⟨gm, 0, none⟩)), (.pointer (some ⟨gs, 0, none⟩)), (.pointer (some ⟨ga, 0, none⟩))]) w := fun _ => by kernel_rfl
      have hX := Aside0.mk (show mxs m fault step disk user limit nodes (3 + 1) = mx (mxs m fault step disk user limit nodes 3) (bd3 m nodes (al m step limit)) from rfl)
      obtain ⟨X, hX0⟩ : ∃ X, mxs m fault step disk user limit nodes 3 = X := ⟨_, rfl⟩
      rw [hX0] at hX hv
      clear hX0
      obtain rfl := hv.out
      by_cases hlt : X < (bd3 m nodes (al m step limit))
      · have hMx := Aside0.mk (show mx X (bd3 m nodes (al m step limit)) = (bd3 m nodes (al m step limit)) from mx_lt hlt)
        go_wp2_with (first | (go_at_call 34; refine (clo34 l1 llc m fault step disk image user limit nodes gc gs gm gp ga gf hm hu _ HW.out).mono ?_; rintro e w' ⟨rfl, rfl⟩))
        refine ⟨⟨4, by omega, rfl, ⟨u64_v (by rw [hX.out, hMx.out])⟩, ⟨HW.out⟩, ⟨hbel.out⟩⟩, by simp [intOf]⟩
      · have hMx := Aside0.mk (show mx X (bd3 m nodes (al m step limit)) = X from mx_ge hlt)
        go_wp2_with (first | (go_at_call 34; refine (clo34 l1 llc m fault step disk image user limit nodes gc gs gm gp ga gf hm hu _ HW.out).mono ?_; rintro e w' ⟨rfl, rfl⟩))
        refine ⟨⟨4, by omega, rfl, ⟨u64_v (by rw [hX.out, hMx.out])⟩, ⟨HW.out⟩, ⟨hbel.out⟩⟩, by simp [intOf]⟩
    · have ik : ∀ w : World, (Instr.index 53 (.agg #[(.func (.func 31) #[] #[]), (.func (.func 32) #[] #[(.pointer (some ⟨gm, 0, none⟩))]), (.func (.func 33) #[] #[(.pointer (some ⟨ga, 0, none⟩)), (.pointer (some ⟨gm, 0, none⟩))]), (.func (.func 34) #[] #[(.pointer (some ⟨gm, 0, none⟩)), (.pointer (some ⟨gs, 0, none⟩)), (.pointer (some ⟨ga, 0, none⟩))]), (.func (.func 29) #[] #[(.pointer (some ⟨gm, 0, none⟩))]), (.func (.func 30) #[] #[(.pointer (some ⟨gp, 0, none⟩))]), (.func (.func 35) #[] #[(.pointer (some ⟨gc, 0, none⟩)), (.pointer (some ⟨gm, 0, none⟩))]), (.func (.func 36) #[] #[(.pointer (some ⟨hm, 0, none⟩)), (.pointer (some ⟨hu, 0, none⟩))]), (.func (.func 37) #[] #[(.pointer (some ⟨gm, 0, none⟩)), (.pointer (some ⟨gc, 0, none⟩)), (.pointer (some ⟨gf, 0, none⟩))]), (.func (.func 38) #[] #[(.pointer (some ⟨gm, 0, none⟩)), (.pointer (some ⟨gc, 0, none⟩)), (.pointer (some ⟨gf, 0, none⟩))]), (.func (.func 31) #[] #[])]) (.int .i64 4)).run Try.prog w = .ok (.func (.func 29) #[] #[(.pointer (some ⟨gm, 0, none⟩))]) w := fun _ => by kernel_rfl
      have hX := Aside0.mk (show mxs m fault step disk user limit nodes (4 + 1) = mx (mxs m fault step disk user limit nodes 4) (bd4 m) from rfl)
      obtain ⟨X, hX0⟩ : ∃ X, mxs m fault step disk user limit nodes 4 = X := ⟨_, rfl⟩
      rw [hX0] at hX hv
      clear hX0
      obtain rfl := hv.out
      by_cases hlt : X < (bd4 m)
      · have hMx := Aside0.mk (show mx X (bd4 m) = (bd4 m) from mx_lt hlt)
        go_wp2_with (first | (go_at_call 29; refine (clo29 l1 llc m fault step disk image user limit nodes gc gs gm gp ga gf hm hu _ HW.out).mono ?_; rintro e w' ⟨rfl, rfl⟩))
        refine ⟨⟨5, by omega, rfl, ⟨u64_v (by rw [hX.out, hMx.out])⟩, ⟨HW.out⟩, ⟨hbel.out⟩⟩, by simp [intOf]⟩
      · have hMx := Aside0.mk (show mx X (bd4 m) = X from mx_ge hlt)
        go_wp2_with (first | (go_at_call 29; refine (clo29 l1 llc m fault step disk image user limit nodes gc gs gm gp ga gf hm hu _ HW.out).mono ?_; rintro e w' ⟨rfl, rfl⟩))
        refine ⟨⟨5, by omega, rfl, ⟨u64_v (by rw [hX.out, hMx.out])⟩, ⟨HW.out⟩, ⟨hbel.out⟩⟩, by simp [intOf]⟩
    · have ik : ∀ w : World, (Instr.index 53 (.agg #[(.func (.func 31) #[] #[]), (.func (.func 32) #[] #[(.pointer (some ⟨gm, 0, none⟩))]), (.func (.func 33) #[] #[(.pointer (some ⟨ga, 0, none⟩)), (.pointer (some ⟨gm, 0, none⟩))]), (.func (.func 34) #[] #[(.pointer (some ⟨gm, 0, none⟩)), (.pointer (some ⟨gs, 0, none⟩)), (.pointer (some ⟨ga, 0, none⟩))]), (.func (.func 29) #[] #[(.pointer (some ⟨gm, 0, none⟩))]), (.func (.func 30) #[] #[(.pointer (some ⟨gp, 0, none⟩))]), (.func (.func 35) #[] #[(.pointer (some ⟨gc, 0, none⟩)), (.pointer (some ⟨gm, 0, none⟩))]), (.func (.func 36) #[] #[(.pointer (some ⟨hm, 0, none⟩)), (.pointer (some ⟨hu, 0, none⟩))]), (.func (.func 37) #[] #[(.pointer (some ⟨gm, 0, none⟩)), (.pointer (some ⟨gc, 0, none⟩)), (.pointer (some ⟨gf, 0, none⟩))]), (.func (.func 38) #[] #[(.pointer (some ⟨gm, 0, none⟩)), (.pointer (some ⟨gc, 0, none⟩)), (.pointer (some ⟨gf, 0, none⟩))]), (.func (.func 31) #[] #[])]) (.int .i64 5)).run Try.prog w = .ok (.func (.func 30) #[] #[(.pointer (some ⟨gp, 0, none⟩))]) w := fun _ => by kernel_rfl
      have hX := Aside0.mk (show mxs m fault step disk user limit nodes (5 + 1) = mx (mxs m fault step disk user limit nodes 5) (bd5 (pg m step)) from rfl)
      obtain ⟨X, hX0⟩ : ∃ X, mxs m fault step disk user limit nodes 5 = X := ⟨_, rfl⟩
      rw [hX0] at hX hv
      clear hX0
      obtain rfl := hv.out
      by_cases hlt : X < (bd5 (pg m step))
      · have hMx := Aside0.mk (show mx X (bd5 (pg m step)) = (bd5 (pg m step)) from mx_lt hlt)
        go_wp2_with (first | (go_at_call 30; refine (clo30 l1 llc m fault step disk image user limit nodes gc gs gm gp ga gf hm hu _ HW.out).mono ?_; rintro e w' ⟨rfl, rfl⟩))
        refine ⟨⟨6, by omega, rfl, ⟨u64_v (by rw [hX.out, hMx.out])⟩, ⟨HW.out⟩, ⟨hbel.out⟩⟩, by simp [intOf]⟩
      · have hMx := Aside0.mk (show mx X (bd5 (pg m step)) = X from mx_ge hlt)
        go_wp2_with (first | (go_at_call 30; refine (clo30 l1 llc m fault step disk image user limit nodes gc gs gm gp ga gf hm hu _ HW.out).mono ?_; rintro e w' ⟨rfl, rfl⟩))
        refine ⟨⟨6, by omega, rfl, ⟨u64_v (by rw [hX.out, hMx.out])⟩, ⟨HW.out⟩, ⟨hbel.out⟩⟩, by simp [intOf]⟩
    · have ik : ∀ w : World, (Instr.index 53 (.agg #[(.func (.func 31) #[] #[]), (.func (.func 32) #[] #[(.pointer (some ⟨gm, 0, none⟩))]), (.func (.func 33) #[] #[(.pointer (some ⟨ga, 0, none⟩)), (.pointer (some ⟨gm, 0, none⟩))]), (.func (.func 34) #[] #[(.pointer (some ⟨gm, 0, none⟩)), (.pointer (some ⟨gs, 0, none⟩)), (.pointer (some ⟨ga, 0, none⟩))]), (.func (.func 29) #[] #[(.pointer (some ⟨gm, 0, none⟩))]), (.func (.func 30) #[] #[(.pointer (some ⟨gp, 0, none⟩))]), (.func (.func 35) #[] #[(.pointer (some ⟨gc, 0, none⟩)), (.pointer (some ⟨gm, 0, none⟩))]), (.func (.func 36) #[] #[(.pointer (some ⟨hm, 0, none⟩)), (.pointer (some ⟨hu, 0, none⟩))]), (.func (.func 37) #[] #[(.pointer (some ⟨gm, 0, none⟩)), (.pointer (some ⟨gc, 0, none⟩)), (.pointer (some ⟨gf, 0, none⟩))]), (.func (.func 38) #[] #[(.pointer (some ⟨gm, 0, none⟩)), (.pointer (some ⟨gc, 0, none⟩)), (.pointer (some ⟨gf, 0, none⟩))]), (.func (.func 31) #[] #[])]) (.int .i64 6)).run Try.prog w = .ok (.func (.func 35) #[] #[(.pointer (some ⟨gc, 0, none⟩)), (.pointer (some ⟨gm, 0, none⟩))]) w := fun _ => by kernel_rfl
      have hX := Aside0.mk (show mxs m fault step disk user limit nodes (6 + 1) = mx (mxs m fault step disk user limit nodes 6) (bd6 m step) from rfl)
      obtain ⟨X, hX0⟩ : ∃ X, mxs m fault step disk user limit nodes 6 = X := ⟨_, rfl⟩
      rw [hX0] at hX hv
      clear hX0
      obtain rfl := hv.out
      by_cases hlt : X < (bd6 m step)
      · have hMx := Aside0.mk (show mx X (bd6 m step) = (bd6 m step) from mx_lt hlt)
        go_wp2_with (first | (go_at_call 35; refine (clo35 l1 llc m fault step disk image user limit nodes gc gs gm gp ga gf hm hu _ HW.out).mono ?_; rintro e w' ⟨rfl, rfl⟩))
        refine ⟨⟨7, by omega, rfl, ⟨u64_v (by rw [hX.out, hMx.out])⟩, ⟨HW.out⟩, ⟨hbel.out⟩⟩, by simp [intOf]⟩
      · have hMx := Aside0.mk (show mx X (bd6 m step) = X from mx_ge hlt)
        go_wp2_with (first | (go_at_call 35; refine (clo35 l1 llc m fault step disk image user limit nodes gc gs gm gp ga gf hm hu _ HW.out).mono ?_; rintro e w' ⟨rfl, rfl⟩))
        refine ⟨⟨7, by omega, rfl, ⟨u64_v (by rw [hX.out, hMx.out])⟩, ⟨HW.out⟩, ⟨hbel.out⟩⟩, by simp [intOf]⟩
    · have ik : ∀ w : World, (Instr.index 53 (.agg #[(.func (.func 31) #[] #[]), (.func (.func 32) #[] #[(.pointer (some ⟨gm, 0, none⟩))]), (.func (.func 33) #[] #[(.pointer (some ⟨ga, 0, none⟩)), (.pointer (some ⟨gm, 0, none⟩))]), (.func (.func 34) #[] #[(.pointer (some ⟨gm, 0, none⟩)), (.pointer (some ⟨gs, 0, none⟩)), (.pointer (some ⟨ga, 0, none⟩))]), (.func (.func 29) #[] #[(.pointer (some ⟨gm, 0, none⟩))]), (.func (.func 30) #[] #[(.pointer (some ⟨gp, 0, none⟩))]), (.func (.func 35) #[] #[(.pointer (some ⟨gc, 0, none⟩)), (.pointer (some ⟨gm, 0, none⟩))]), (.func (.func 36) #[] #[(.pointer (some ⟨hm, 0, none⟩)), (.pointer (some ⟨hu, 0, none⟩))]), (.func (.func 37) #[] #[(.pointer (some ⟨gm, 0, none⟩)), (.pointer (some ⟨gc, 0, none⟩)), (.pointer (some ⟨gf, 0, none⟩))]), (.func (.func 38) #[] #[(.pointer (some ⟨gm, 0, none⟩)), (.pointer (some ⟨gc, 0, none⟩)), (.pointer (some ⟨gf, 0, none⟩))]), (.func (.func 31) #[] #[])]) (.int .i64 7)).run Try.prog w = .ok (.func (.func 36) #[] #[(.pointer (some ⟨hm, 0, none⟩)), (.pointer (some ⟨hu, 0, none⟩))]) w := fun _ => by kernel_rfl
      have hX := Aside0.mk (show mxs m fault step disk user limit nodes (7 + 1) = mx (mxs m fault step disk user limit nodes 7) (mx (bd4 m) (bd5 (pg m step))) from rfl)
      obtain ⟨X, hX0⟩ : ∃ X, mxs m fault step disk user limit nodes 7 = X := ⟨_, rfl⟩
      rw [hX0] at hX hv
      clear hX0
      obtain rfl := hv.out
      by_cases hlt : X < (mx (bd4 m) (bd5 (pg m step)))
      · have hMx := Aside0.mk (show mx X (mx (bd4 m) (bd5 (pg m step))) = (mx (bd4 m) (bd5 (pg m step))) from mx_lt hlt)
        go_wp2_with (first | (go_at_call 36; refine (clo36 l1 llc m fault step disk image user limit nodes gc gs gm gp ga gf hm hu _ HW.out).mono ?_; rintro e w' ⟨rfl, nd, rfl⟩))
        refine ⟨⟨8, by omega, rfl, ⟨u64_v (by rw [hX.out, hMx.out])⟩, ⟨bw_drew HW.out _⟩, ⟨pw_below_drewN hbel.out _⟩⟩, by simp [intOf]⟩
      · have hMx := Aside0.mk (show mx X (mx (bd4 m) (bd5 (pg m step))) = X from mx_ge hlt)
        go_wp2_with (first | (go_at_call 36; refine (clo36 l1 llc m fault step disk image user limit nodes gc gs gm gp ga gf hm hu _ HW.out).mono ?_; rintro e w' ⟨rfl, nd, rfl⟩))
        refine ⟨⟨8, by omega, rfl, ⟨u64_v (by rw [hX.out, hMx.out])⟩, ⟨bw_drew HW.out _⟩, ⟨pw_below_drewN hbel.out _⟩⟩, by simp [intOf]⟩
    · have ik : ∀ w : World, (Instr.index 53 (.agg #[(.func (.func 31) #[] #[]), (.func (.func 32) #[] #[(.pointer (some ⟨gm, 0, none⟩))]), (.func (.func 33) #[] #[(.pointer (some ⟨ga, 0, none⟩)), (.pointer (some ⟨gm, 0, none⟩))]), (.func (.func 34) #[] #[(.pointer (some ⟨gm, 0, none⟩)), (.pointer (some ⟨gs, 0, none⟩)), (.pointer (some ⟨ga, 0, none⟩))]), (.func (.func 29) #[] #[(.pointer (some ⟨gm, 0, none⟩))]), (.func (.func 30) #[] #[(.pointer (some ⟨gp, 0, none⟩))]), (.func (.func 35) #[] #[(.pointer (some ⟨gc, 0, none⟩)), (.pointer (some ⟨gm, 0, none⟩))]), (.func (.func 36) #[] #[(.pointer (some ⟨hm, 0, none⟩)), (.pointer (some ⟨hu, 0, none⟩))]), (.func (.func 37) #[] #[(.pointer (some ⟨gm, 0, none⟩)), (.pointer (some ⟨gc, 0, none⟩)), (.pointer (some ⟨gf, 0, none⟩))]), (.func (.func 38) #[] #[(.pointer (some ⟨gm, 0, none⟩)), (.pointer (some ⟨gc, 0, none⟩)), (.pointer (some ⟨gf, 0, none⟩))]), (.func (.func 31) #[] #[])]) (.int .i64 8)).run Try.prog w = .ok (.func (.func 37) #[] #[(.pointer (some ⟨gm, 0, none⟩)), (.pointer (some ⟨gc, 0, none⟩)), (.pointer (some ⟨gf, 0, none⟩))]) w := fun _ => by kernel_rfl
      have hX := Aside0.mk (show mxs m fault step disk user limit nodes (8 + 1) = mx (mxs m fault step disk user limit nodes 8) (bd8 m fault disk (fm step disk user)) from rfl)
      obtain ⟨X, hX0⟩ : ∃ X, mxs m fault step disk user limit nodes 8 = X := ⟨_, rfl⟩
      rw [hX0] at hX hv
      clear hX0
      obtain rfl := hv.out
      by_cases hlt : X < (bd8 m fault disk (fm step disk user))
      · have hMx := Aside0.mk (show mx X (bd8 m fault disk (fm step disk user)) = (bd8 m fault disk (fm step disk user)) from mx_lt hlt)
        go_wp2_with (first | (go_at_call 37; refine (clo37 l1 llc m fault step disk image user limit nodes gc gs gm gp ga gf hm hu _ HW.out).mono ?_; rintro e w' ⟨rfl, rfl⟩))
        refine ⟨⟨9, by omega, rfl, ⟨u64_v (by rw [hX.out, hMx.out])⟩, ⟨HW.out⟩, ⟨hbel.out⟩⟩, by simp [intOf]⟩
      · have hMx := Aside0.mk (show mx X (bd8 m fault disk (fm step disk user)) = X from mx_ge hlt)
        go_wp2_with (first | (go_at_call 37; refine (clo37 l1 llc m fault step disk image user limit nodes gc gs gm gp ga gf hm hu _ HW.out).mono ?_; rintro e w' ⟨rfl, rfl⟩))
        refine ⟨⟨9, by omega, rfl, ⟨u64_v (by rw [hX.out, hMx.out])⟩, ⟨HW.out⟩, ⟨hbel.out⟩⟩, by simp [intOf]⟩
    · have ik : ∀ w : World, (Instr.index 53 (.agg #[(.func (.func 31) #[] #[]), (.func (.func 32) #[] #[(.pointer (some ⟨gm, 0, none⟩))]), (.func (.func 33) #[] #[(.pointer (some ⟨ga, 0, none⟩)), (.pointer (some ⟨gm, 0, none⟩))]), (.func (.func 34) #[] #[(.pointer (some ⟨gm, 0, none⟩)), (.pointer (some ⟨gs, 0, none⟩)), (.pointer (some ⟨ga, 0, none⟩))]), (.func (.func 29) #[] #[(.pointer (some ⟨gm, 0, none⟩))]), (.func (.func 30) #[] #[(.pointer (some ⟨gp, 0, none⟩))]), (.func (.func 35) #[] #[(.pointer (some ⟨gc, 0, none⟩)), (.pointer (some ⟨gm, 0, none⟩))]), (.func (.func 36) #[] #[(.pointer (some ⟨hm, 0, none⟩)), (.pointer (some ⟨hu, 0, none⟩))]), (.func (.func 37) #[] #[(.pointer (some ⟨gm, 0, none⟩)), (.pointer (some ⟨gc, 0, none⟩)), (.pointer (some ⟨gf, 0, none⟩))]), (.func (.func 38) #[] #[(.pointer (some ⟨gm, 0, none⟩)), (.pointer (some ⟨gc, 0, none⟩)), (.pointer (some ⟨gf, 0, none⟩))]), (.func (.func 31) #[] #[])]) (.int .i64 9)).run Try.prog w = .ok (.func (.func 38) #[] #[(.pointer (some ⟨gm, 0, none⟩)), (.pointer (some ⟨gc, 0, none⟩)), (.pointer (some ⟨gf, 0, none⟩))]) w := fun _ => by kernel_rfl
      have hX := Aside0.mk (show mxs m fault step disk user limit nodes (9 + 1) = mx (mxs m fault step disk user limit nodes 9) (bd9 m fault disk (fm step disk user)) from rfl)
      obtain ⟨X, hX0⟩ : ∃ X, mxs m fault step disk user limit nodes 9 = X := ⟨_, rfl⟩
      rw [hX0] at hX hv
      clear hX0
      obtain rfl := hv.out
      by_cases hlt : X < (bd9 m fault disk (fm step disk user))
      · have hMx := Aside0.mk (show mx X (bd9 m fault disk (fm step disk user)) = (bd9 m fault disk (fm step disk user)) from mx_lt hlt)
        go_wp2_with (first | (go_at_call 38; refine (clo38 l1 llc m fault step disk image user limit nodes gc gs gm gp ga gf hm hu _ HW.out).mono ?_; rintro e w' ⟨rfl, rfl⟩))
        refine ⟨⟨10, by omega, rfl, ⟨u64_v (by rw [hX.out, hMx.out])⟩, ⟨HW.out⟩, ⟨hbel.out⟩⟩, by simp [intOf]⟩
      · have hMx := Aside0.mk (show mx X (bd9 m fault disk (fm step disk user)) = X from mx_ge hlt)
        go_wp2_with (first | (go_at_call 38; refine (clo38 l1 llc m fault step disk image user limit nodes gc gs gm gp ga gf hm hu _ HW.out).mono ?_; rintro e w' ⟨rfl, rfl⟩))
        refine ⟨⟨10, by omega, rfl, ⟨u64_v (by rw [hX.out, hMx.out])⟩, ⟨HW.out⟩, ⟨hbel.out⟩⟩, by simp [intOf]⟩
    · have ik : ∀ w : World, (Instr.index 53 (.agg #[(.func (.func 31) #[] #[]), (.func (.func 32) #[] #[(.pointer (some ⟨gm, 0, none⟩))]), (.func (.func 33) #[] #[(.pointer (some ⟨ga, 0, none⟩)), (.pointer (some ⟨gm, 0, none⟩))]), (.func (.func 34) #[] #[(.pointer (some ⟨gm, 0, none⟩)), (.pointer (some ⟨gs, 0, none⟩)), (.pointer (some ⟨ga, 0, none⟩))]), (.func (.func 29) #[] #[(.pointer (some ⟨gm, 0, none⟩))]), (.func (.func 30) #[] #[(.pointer (some ⟨gp, 0, none⟩))]), (.func (.func 35) #[] #[(.pointer (some ⟨gc, 0, none⟩)), (.pointer (some ⟨gm, 0, none⟩))]), (.func (.func 36) #[] #[(.pointer (some ⟨hm, 0, none⟩)), (.pointer (some ⟨hu, 0, none⟩))]), (.func (.func 37) #[] #[(.pointer (some ⟨gm, 0, none⟩)), (.pointer (some ⟨gc, 0, none⟩)), (.pointer (some ⟨gf, 0, none⟩))]), (.func (.func 38) #[] #[(.pointer (some ⟨gm, 0, none⟩)), (.pointer (some ⟨gc, 0, none⟩)), (.pointer (some ⟨gf, 0, none⟩))]), (.func (.func 31) #[] #[])]) (.int .i64 10)).run Try.prog w = .ok (.func (.func 31) #[] #[]) w := fun _ => by kernel_rfl
      have hX := Aside0.mk (show mxs m fault step disk user limit nodes (10 + 1) = mx (mxs m fault step disk user limit nodes 10) 0 from rfl)
      obtain ⟨X, hX0⟩ : ∃ X, mxs m fault step disk user limit nodes 10 = X := ⟨_, rfl⟩
      rw [hX0] at hX hv
      clear hX0
      obtain rfl := hv.out
      by_cases hlt : X < 0
      · have hMx := Aside0.mk (show mx X 0 = 0 from mx_lt hlt)
        go_wp2_with (first | (go_at_call 31; refine (clo31 l1 llc m fault step disk image user limit nodes gc gs gm gp ga gf hm hu _ HW.out).mono ?_; rintro e w' ⟨rfl, rfl⟩))
        refine ⟨⟨11, by omega, rfl, ⟨u64_v (by rw [hX.out, hMx.out])⟩, ⟨HW.out⟩, ⟨hbel.out⟩⟩, by simp [intOf]⟩
      · have hMx := Aside0.mk (show mx X 0 = X from mx_ge hlt)
        go_wp2_with (first | (go_at_call 31; refine (clo31 l1 llc m fault step disk image user limit nodes gc gs gm gp ga gf hm hu _ HW.out).mono ?_; rintro e w' ⟨rfl, rfl⟩))
        refine ⟨⟨11, by omega, rfl, ⟨u64_v (by rw [hX.out, hMx.out])⟩, ⟨HW.out⟩, ⟨hbel.out⟩⟩, by simp [intOf]⟩
    · have j0 : wr.cell? ⟨w.heap.size + 1, 0, none⟩ = some (.int .i64 image) := (hbel.out.cell (p := ⟨w.heap.size + 1, 0, none⟩) hlt2).trans K0.out
      have j1 : wr.cell? ⟨w.heap.size, 2, none⟩ = some (.int .u64 m) := (hbel.out.cell (p := ⟨w.heap.size, 2, none⟩) (Nat.lt_of_succ_lt hlt2)).trans K1.out
      obtain rfl := hv.out
      go_wp2
      go_ret2
      exact ⟨rfl, hbel0.out.trans (hbel.out.mono (by omega))⟩
theorem most_any (l1 llc m fault step disk image user limit nodes : Int) (t : Int) (w : World) (hask : ∀ w : World, Calls Try.prog 25 #[.agg #[.int .u64 l1, .int .u64 llc, .int .u64 m, .int .u64 fault, .int .u64 step, .int .u64 disk], .agg #[.int .i64 image, .int .i64 user, .int .i64 limit, .int .i64 nodes]] w fun e w' => e = .returned (.int .i64 t) ∧ Below w.heap.size w w') :
    Calls Try.prog 17 #[.agg #[.int .u64 l1, .int .u64 llc, .int .u64 m, .int .u64 fault, .int .u64 step, .int .u64 disk], .agg #[.int .i64 image, .int .i64 user, .int .i64 limit, .int .i64 nodes]] w fun e w' => e = .returned (.tuple #[.int .u64 (if t = 0 then mst m fault step disk image user limit nodes else 0), .int .i64 t]) ∧ Below w.heap.size w w' := by
  by_cases h : t = 0
  · subst h
    rw [if_pos rfl]
    exact most_ok l1 llc m fault step disk image user limit nodes w hask
  · rw [if_neg h]
    exact most_no l1 llc m fault step disk image user limit nodes t (by rw [bne_iff_ne]; exact h) w hask
end Go.Proofs.Ytpodcbaechlejaa.H
