/- ColourKnown: the chapter's examples come to what it says. -/
import Derived.Test.YtkihoeacojcdlaaHx2

namespace Go.Proofs.Ytkihoeacojcdlaa.H
open Go.RowKit Go.Proofs.YtkihoeacojcdlaaW.PrintWords Go.Proofs.YtkihoeacojcdlaaW.PrintLast Go.Proofs.YtkihoeacojcdlaaW.PrintMore
set_option linter.unusedVariables false
theorem info23 : (Try.prog.info? 23).map (fun i => (i.zero, i.size, i.bytes)) = some (some (.int .i64 0), 1, 8) := by kernel_rfl
def kc : Array Value := #[.int .i64 3, .int .i64 1023, .int .i64 4, .int .i64 3, .int .i64 1024, .int .i64 4, .int .i64 4, .int .i64 0, .int .i64 4, .int .i64 0, .int .i64 (-1), .int .i64 4, .int .i64 0, .int .i64 9223372036854775807, .int .i64 16, .int .i64 0, .int .i64 0, .int .i64 0, .int .i64 0, .int .i64 0, .int .i64 17, .int .i64 15, .int .i64 255, .int .i64 16, .int .i64 0, .int .i64 4095, .int .i64 1, .int .i64 0, .int .i64 4096, .int .i64 1]
def ke : List Int := [0, 2, 2, 2, 2, 2, 2, 0, 0, 2]
def kt (k : Nat) : List Int := ke.take k
theorem ReadsRow_nil (w : World) : Kd.C (Kd.int .i64) w none 0 [] := (Kd.R_reads' (Kd.R_nil (Kd.int .i64) 3 w 0 (fun _ => True))).2.2
theorem C_new (w : World) (xs : List Int) (h : xs.length ≤ 1000) : Kd.C (Kd.int .i64) (w.alloc (.cells (nums .i64 xs).toArray 3)) (some ⟨w.heap.size, 0, none⟩) xs.length xs :=
  (Kd.R_reads' (Kd.R_of_own (ok := fun _ => True) (h1 := fun _ => rfl) (own_lit w 0 3 .i64 xs (by omega) (by omega)) (fun _ _ => trivial))).2.2
set_option maxHeartbeats 4000000 in
set_option maxRecDepth 100000 in
theorem known (w : World) : Calls Try.prog 8 #[] w fun e w' => e = .returned (.bool true) ∧ Below w.heap.size w w' := by
  go_enter Try.func8, Try.ntmps8
  go_wp2_with fail
  go_loopw [1, 51] (fun v1 v51 wr => ∃ k : Nat, k ≤ 10 ∧ v51 = .int .i64 k ∧ Aside0 (wr.ownsRow (w.heap.size + 1) 23 1 v1 (kt k).length (nums .i64 (kt k))) ∧ Aside0 (Below (w.heap.size + 1) (w.alloc (.cells kc 37)) wr)) (fun _ v51 _ => 10 - (intOf v51).toNat)
  case atStart => exact ⟨0, by omega, rfl, ⟨own_nil _ _ _ _⟩, ⟨Below.refl _ _⟩⟩
  case round =>
    obtain ⟨k, hk, rfl, ho, hB⟩ := hrel
    have hc0 : ∀ o, wr.cell? ⟨w.heap.size, o, none⟩ = kc[o]? := fun o => by
      have h := hB.out.cell (p := ⟨w.heap.size, o, none⟩) (by simp)
      rw [h]
      exact cell_of_row _ w.heap.size o kc 37 (0, 0) (heap_alloc_new w _)
    have hc := Aside0.mk hc0
    clear hc0
    by_cases h10 : k = 10
    · subst h10
      have hf := ho.out.form (by decide)
      obtain ⟨g, cap, rfl, hg1, hg2⟩ := hf
      have HBw : Aside0 (Below w.heap.size w wr) := ⟨((Below.refl _ _).alloc (Nat.le_refl _) _).trans (hB.out.mono (Nat.le_succ _))⟩
      have e0 : wr.cell? ⟨g, 0, none⟩ = some (.int .i64 0) := (own_at ho.out 0 (by decide) (by decide)).1
      have e1 : wr.cell? ⟨g, 1, none⟩ = some (.int .i64 2) := (own_at ho.out 1 (by decide) (by decide)).1
      have e2 : wr.cell? ⟨g, 2, none⟩ = some (.int .i64 2) := (own_at ho.out 2 (by decide) (by decide)).1
      have e3 : wr.cell? ⟨g, 3, none⟩ = some (.int .i64 2) := (own_at ho.out 3 (by decide) (by decide)).1
      have e4 : wr.cell? ⟨g, 4, none⟩ = some (.int .i64 2) := (own_at ho.out 4 (by decide) (by decide)).1
      have e5 : wr.cell? ⟨g, 5, none⟩ = some (.int .i64 2) := (own_at ho.out 5 (by decide) (by decide)).1
      have e6 : wr.cell? ⟨g, 6, none⟩ = some (.int .i64 2) := (own_at ho.out 6 (by decide) (by decide)).1
      have e7 : wr.cell? ⟨g, 7, none⟩ = some (.int .i64 0) := (own_at ho.out 7 (by decide) (by decide)).1
      have e8 : wr.cell? ⟨g, 8, none⟩ = some (.int .i64 0) := (own_at ho.out 8 (by decide) (by decide)).1
      have e9 : wr.cell? ⟨g, 9, none⟩ = some (.int .i64 2) := (own_at ho.out 9 (by decide) (by decide)).1
      have hcap : 10 ≤ cap := by have := (Kd.R_reads' (Kd.R_of_own (ok := fun _ => True) (h1 := fun _ => rfl) (xs := kt 10) ho.out (fun _ _ => trivial))).2.1; simpa [kt, ke] using this
      clear ho hB hc hk
      go_wp2_with fail
      refine (colour_Of.calls 10 17 0 2 wr (by kernel_rfl)).mono ?_
      rintro e x1 ⟨rfl, hd⟩
      have HB1 : Aside0 (Below w.heap.size w x1) := ⟨below_step HBw.out hd.below⟩
      clear hd HBw
      go_wp2_with fail
      refine (colour_Of.calls (-1) 4 0 2 x1 (by kernel_rfl)).mono ?_
      rintro e x2 ⟨rfl, hd⟩
      have HB2 : Aside0 (Below w.heap.size w x2) := ⟨below_step HB1.out hd.below⟩
      clear hd HB1
      go_wp2_with fail
      refine (colour_Of.calls 4096 4 0 2 x2 (by kernel_rfl)).mono ?_
      rintro e x3 ⟨rfl, hd⟩
      have HB3 : Aside0 (Below w.heap.size w x3) := ⟨below_step HB2.out hd.below⟩
      clear hd HB2
      go_wp2_with fail
      refine (colour_Index.calls 4096 4 0 2 x3 (by kernel_rfl)).mono ?_
      rintro e x4 ⟨rfl, hd⟩
      have HB4 : Aside0 (Below w.heap.size w x4) := ⟨below_step HB3.out hd.below⟩
      clear hd HB3
      go_wp2_with fail
      refine (colour_Count.calls 3 4 3 0 0 x4 (by kernel_rfl)).mono ?_
      rintro e x5 ⟨rfl, hd⟩
      have HB5 : Aside0 (Below w.heap.size w x5) := ⟨below_step HB4.out hd.below⟩
      clear hd HB4
      go_wp2_with fail
      refine (colour_Count.calls 10 4 4 0 2 x5 (by kernel_rfl)).mono ?_
      rintro e x6 ⟨rfl, hd⟩
      have HB6 : Aside0 (Below w.heap.size w x6) := ⟨below_step HB5.out hd.below⟩
      clear hd HB5
      go_wp2_with fail
      refine (colour_Count.calls 0 4 0 0 2 x6 (by kernel_rfl)).mono ?_
      rintro e x7 ⟨rfl, hd⟩
      have HB7 : Aside0 (Below w.heap.size w x7) := ⟨below_step HB6.out hd.below⟩
      clear hd HB6
      go_wp2_with fail
      refine (colour_Frames.calls 10 4 none 0 [] [] 0 x7 (ReadsRow_nil _) (by decide) (by kernel_rfl)).mono ?_
      rintro e x8 ⟨v8, rfl, hv, hb⟩
      obtain ⟨A8, c8, rfl⟩ := Kd.R_slice hv
      have HB8 : Aside0 (Below w.heap.size w x8) := ⟨below_step HB7.out hb⟩
      clear hv hb HB7
      go_wp2_with fail
      refine (colour_Frames.calls 10 4 (some ⟨x8.heap.size, 0, none⟩) 2 [3, 1] [] 2 _ (C_new x8 [3, 1] (by decide)) (by decide) (by kernel_rfl)).mono ?_
      rintro e x9 ⟨v9, rfl, hv, hb⟩
      have HB9 : Aside0 (Below w.heap.size w x9) := ⟨below_step (below_alloc HB8.out _) hb⟩
      clear hv hb HB8
      go_wp2_with fail
      refine (colour_Frames.calls 10 4 (some ⟨x9.heap.size, 0, none⟩) 2 [1, 1] [] 2 _ (C_new x9 [1, 1] (by decide)) (by decide) (by kernel_rfl)).mono ?_
      rintro e x10 ⟨v10, rfl, hv, hb⟩
      have HB10 : Aside0 (Below w.heap.size w x10) := ⟨below_step (below_alloc HB9.out _) hb⟩
      clear hv hb HB9
      go_wp2_with fail
      refine (colour_Frames.calls 10 4 (some ⟨x10.heap.size, 0, none⟩) 1 [4] [] 2 _ (C_new x10 [4] (by decide)) (by decide) (by kernel_rfl)).mono ?_
      rintro e x11 ⟨v11, rfl, hv, hb⟩
      have HB11 : Aside0 (Below w.heap.size w x11) := ⟨below_step (below_alloc HB10.out _) hb⟩
      clear hv hb HB10
      go_wp2_with fail
      refine (colour_Set.calls 1048576 0 0 10 x11 (by kernel_rfl)).mono ?_
      rintro e x12 ⟨rfl, hd⟩
      have HB12 : Aside0 (Below w.heap.size w x12) := ⟨below_step HB11.out hd.below⟩
      clear hd HB11
      go_wp2_with fail
      refine (colour_Set.calls 0 0 0 2 x12 (by kernel_rfl)).mono ?_
      rintro e x13 ⟨rfl, hd⟩
      have HB13 : Aside0 (Below w.heap.size w x13) := ⟨below_step HB12.out hd.below⟩
      clear hd HB12
      go_wp2_with fail
      refine (colour_Owner.calls 64 4 0 2 x13 (by kernel_rfl)).mono ?_
      rintro e x14 ⟨rfl, hd⟩
      have HB14 : Aside0 (Below w.heap.size w x14) := ⟨below_step HB13.out hd.below⟩
      clear hd HB13
      go_wp2_with fail
      refine (colour_Owner.calls (-1) 4 0 2 x14 (by kernel_rfl)).mono ?_
      rintro e x15 ⟨rfl, hd⟩
      have HB15 : Aside0 (Below w.heap.size w x15) := ⟨below_step HB14.out hd.below⟩
      clear hd HB14
      go_wp2_with fail
      refine (cofferdamlaw08_works.calls 10 true x15 (by kernel_rfl)).mono ?_
      rintro e x ⟨rfl, hb⟩
      have HB : Aside0 (Below w.heap.size w x) := ⟨below_step HB15.out hb⟩
      clear hb HB15
      go_wp2_with fail
      go_ret
      exact ⟨rfl, HB.out⟩
    · have h0 : k = 0 ∨ k = 1 ∨ k = 2 ∨ k = 3 ∨ k = 4 ∨ k = 5 ∨ k = 6 ∨ k = 7 ∨ k = 8 ∨ k = 9 := by omega
      clear h10 hk
      have hs : w.heap.size + 1 ≤ wr.heap.size := by have := hB.out.size; simpa using this
      rcases h0 with rfl | rfl | rfl | rfl | rfl | rfl | rfl | rfl | rfl | rfl
      · have e0 : wr.cell? ⟨w.heap.size, 0, none⟩ = some (.int .i64 3) := hc.out 0; have e1 : wr.cell? ⟨w.heap.size, 1, none⟩ = some (.int .i64 1023) := hc.out 1; have e2 : wr.cell? ⟨w.heap.size, 2, none⟩ = some (.int .i64 4) := hc.out 2
        go_wp2_with fail
        refine (colour_Frame.calls 3 1023 4 4095 0 _ (by kernel_rfl)).mono ?_
        rintro e w1 ⟨rfl, hd⟩
        obtain ⟨nd, rfl⟩ := hd
        generalize hW : World.drewN (World.alloc wr _) nd = W2
        have HO2 : Aside0 (W2.ownsRow (w.heap.size + 1) 23 1 u1 (kt 0).length (nums .i64 (kt 0))) := ⟨by rw [← hW]; exact pw_own_below ho.out (pw_below_drewN (below_alloc (Below.refl _ _) _) _)⟩
        have HB2 : Aside0 (Below (w.heap.size + 1) (w.alloc (.cells kc 37)) W2) := ⟨by rw [← hW]; exact pw_below_drewN (hB.out.alloc hs _) _⟩
        have hbs : Aside0 (w.heap.size + 1 ≤ W2.heap.size) := ⟨by have := HB2.out.size; simpa using this⟩
        clear hW ho hB
        go_wp2_with (at_builtin; refine print_append_num (w0 := w.alloc (.cells kc 37)) (w.heap.size + 1) rfl (.tmp 65) (.tmp 67) 36 23 .i64 8 rfl Try.underlying36 info23 (by decide) _ (kt 0) 0 rfl rfl HO2.out HB2.out hbs.out (by decide) ?_; intro v1 w1 ho1 hb1 hg1 hat1; clear hg1 hat1; have HO := Aside0.mk ho1; have H1 := Aside0.mk hb1; clear ho1 hb1)
        go_roundw
        case rel => exact ⟨1, by omega, rfl, HO, H1⟩
        case measure => simp [intOf]
      · have e0 : wr.cell? ⟨w.heap.size, 3, none⟩ = some (.int .i64 3) := hc.out 3; have e1 : wr.cell? ⟨w.heap.size, 4, none⟩ = some (.int .i64 1024) := hc.out 4; have e2 : wr.cell? ⟨w.heap.size, 5, none⟩ = some (.int .i64 4) := hc.out 5
        go_wp2_with fail
        refine (colour_Frame.calls 3 1024 4 0 2 _ (by kernel_rfl)).mono ?_
        rintro e w1 ⟨rfl, hd⟩
        obtain ⟨nd, rfl⟩ := hd
        generalize hW : World.drewN (World.alloc wr _) nd = W2
        have HO2 : Aside0 (W2.ownsRow (w.heap.size + 1) 23 1 u1 (kt 1).length (nums .i64 (kt 1))) := ⟨by rw [← hW]; exact pw_own_below ho.out (pw_below_drewN (below_alloc (Below.refl _ _) _) _)⟩
        have HB2 : Aside0 (Below (w.heap.size + 1) (w.alloc (.cells kc 37)) W2) := ⟨by rw [← hW]; exact pw_below_drewN (hB.out.alloc hs _) _⟩
        have hbs : Aside0 (w.heap.size + 1 ≤ W2.heap.size) := ⟨by have := HB2.out.size; simpa using this⟩
        clear hW ho hB
        go_wp2_with (at_builtin; refine print_append_num (w0 := w.alloc (.cells kc 37)) (w.heap.size + 1) rfl (.tmp 65) (.tmp 67) 36 23 .i64 8 rfl Try.underlying36 info23 (by decide) _ (kt 1) 2 rfl rfl HO2.out HB2.out hbs.out (by decide) ?_; intro v1 w1 ho1 hb1 hg1 hat1; clear hg1 hat1; have HO := Aside0.mk ho1; have H1 := Aside0.mk hb1; clear ho1 hb1)
        go_roundw
        case rel => exact ⟨2, by omega, rfl, HO, H1⟩
        case measure => simp [intOf]
      · have e0 : wr.cell? ⟨w.heap.size, 6, none⟩ = some (.int .i64 4) := hc.out 6; have e1 : wr.cell? ⟨w.heap.size, 7, none⟩ = some (.int .i64 0) := hc.out 7; have e2 : wr.cell? ⟨w.heap.size, 8, none⟩ = some (.int .i64 4) := hc.out 8
        go_wp2_with fail
        refine (colour_Frame.calls 4 0 4 0 2 _ (by kernel_rfl)).mono ?_
        rintro e w1 ⟨rfl, hd⟩
        obtain ⟨nd, rfl⟩ := hd
        generalize hW : World.drewN (World.alloc wr _) nd = W2
        have HO2 : Aside0 (W2.ownsRow (w.heap.size + 1) 23 1 u1 (kt 2).length (nums .i64 (kt 2))) := ⟨by rw [← hW]; exact pw_own_below ho.out (pw_below_drewN (below_alloc (Below.refl _ _) _) _)⟩
        have HB2 : Aside0 (Below (w.heap.size + 1) (w.alloc (.cells kc 37)) W2) := ⟨by rw [← hW]; exact pw_below_drewN (hB.out.alloc hs _) _⟩
        have hbs : Aside0 (w.heap.size + 1 ≤ W2.heap.size) := ⟨by have := HB2.out.size; simpa using this⟩
        clear hW ho hB
        go_wp2_with (at_builtin; refine print_append_num (w0 := w.alloc (.cells kc 37)) (w.heap.size + 1) rfl (.tmp 65) (.tmp 67) 36 23 .i64 8 rfl Try.underlying36 info23 (by decide) _ (kt 2) 2 rfl rfl HO2.out HB2.out hbs.out (by decide) ?_; intro v1 w1 ho1 hb1 hg1 hat1; clear hg1 hat1; have HO := Aside0.mk ho1; have H1 := Aside0.mk hb1; clear ho1 hb1)
        go_roundw
        case rel => exact ⟨3, by omega, rfl, HO, H1⟩
        case measure => simp [intOf]
      · have e0 : wr.cell? ⟨w.heap.size, 9, none⟩ = some (.int .i64 0) := hc.out 9; have e1 : wr.cell? ⟨w.heap.size, 10, none⟩ = some (.int .i64 (-1)) := hc.out 10; have e2 : wr.cell? ⟨w.heap.size, 11, none⟩ = some (.int .i64 4) := hc.out 11
        go_wp2_with fail
        refine (colour_Frame.calls 0 (-1) 4 0 2 _ (by kernel_rfl)).mono ?_
        rintro e w1 ⟨rfl, hd⟩
        obtain ⟨nd, rfl⟩ := hd
        generalize hW : World.drewN (World.alloc wr _) nd = W2
        have HO2 : Aside0 (W2.ownsRow (w.heap.size + 1) 23 1 u1 (kt 3).length (nums .i64 (kt 3))) := ⟨by rw [← hW]; exact pw_own_below ho.out (pw_below_drewN (below_alloc (Below.refl _ _) _) _)⟩
        have HB2 : Aside0 (Below (w.heap.size + 1) (w.alloc (.cells kc 37)) W2) := ⟨by rw [← hW]; exact pw_below_drewN (hB.out.alloc hs _) _⟩
        have hbs : Aside0 (w.heap.size + 1 ≤ W2.heap.size) := ⟨by have := HB2.out.size; simpa using this⟩
        clear hW ho hB
        go_wp2_with (at_builtin; refine print_append_num (w0 := w.alloc (.cells kc 37)) (w.heap.size + 1) rfl (.tmp 65) (.tmp 67) 36 23 .i64 8 rfl Try.underlying36 info23 (by decide) _ (kt 3) 2 rfl rfl HO2.out HB2.out hbs.out (by decide) ?_; intro v1 w1 ho1 hb1 hg1 hat1; clear hg1 hat1; have HO := Aside0.mk ho1; have H1 := Aside0.mk hb1; clear ho1 hb1)
        go_roundw
        case rel => exact ⟨4, by omega, rfl, HO, H1⟩
        case measure => simp [intOf]
      · have e0 : wr.cell? ⟨w.heap.size, 12, none⟩ = some (.int .i64 0) := hc.out 12; have e1 : wr.cell? ⟨w.heap.size, 13, none⟩ = some (.int .i64 9223372036854775807) := hc.out 13; have e2 : wr.cell? ⟨w.heap.size, 14, none⟩ = some (.int .i64 16) := hc.out 14
        go_wp2_with fail
        refine (colour_Frame.calls 0 9223372036854775807 16 0 2 _ (by kernel_rfl)).mono ?_
        rintro e w1 ⟨rfl, hd⟩
        obtain ⟨nd, rfl⟩ := hd
        generalize hW : World.drewN (World.alloc wr _) nd = W2
        have HO2 : Aside0 (W2.ownsRow (w.heap.size + 1) 23 1 u1 (kt 4).length (nums .i64 (kt 4))) := ⟨by rw [← hW]; exact pw_own_below ho.out (pw_below_drewN (below_alloc (Below.refl _ _) _) _)⟩
        have HB2 : Aside0 (Below (w.heap.size + 1) (w.alloc (.cells kc 37)) W2) := ⟨by rw [← hW]; exact pw_below_drewN (hB.out.alloc hs _) _⟩
        have hbs : Aside0 (w.heap.size + 1 ≤ W2.heap.size) := ⟨by have := HB2.out.size; simpa using this⟩
        clear hW ho hB
        go_wp2_with (at_builtin; refine print_append_num (w0 := w.alloc (.cells kc 37)) (w.heap.size + 1) rfl (.tmp 65) (.tmp 67) 36 23 .i64 8 rfl Try.underlying36 info23 (by decide) _ (kt 4) 2 rfl rfl HO2.out HB2.out hbs.out (by decide) ?_; intro v1 w1 ho1 hb1 hg1 hat1; clear hg1 hat1; have HO := Aside0.mk ho1; have H1 := Aside0.mk hb1; clear ho1 hb1)
        go_roundw
        case rel => exact ⟨5, by omega, rfl, HO, H1⟩
        case measure => simp [intOf]
      · have e0 : wr.cell? ⟨w.heap.size, 15, none⟩ = some (.int .i64 0) := hc.out 15; have e1 : wr.cell? ⟨w.heap.size, 16, none⟩ = some (.int .i64 0) := hc.out 16; have e2 : wr.cell? ⟨w.heap.size, 17, none⟩ = some (.int .i64 0) := hc.out 17
        go_wp2_with fail
        refine (colour_Frame.calls 0 0 0 0 2 _ (by kernel_rfl)).mono ?_
        rintro e w1 ⟨rfl, hd⟩
        obtain ⟨nd, rfl⟩ := hd
        generalize hW : World.drewN (World.alloc wr _) nd = W2
        have HO2 : Aside0 (W2.ownsRow (w.heap.size + 1) 23 1 u1 (kt 5).length (nums .i64 (kt 5))) := ⟨by rw [← hW]; exact pw_own_below ho.out (pw_below_drewN (below_alloc (Below.refl _ _) _) _)⟩
        have HB2 : Aside0 (Below (w.heap.size + 1) (w.alloc (.cells kc 37)) W2) := ⟨by rw [← hW]; exact pw_below_drewN (hB.out.alloc hs _) _⟩
        have hbs : Aside0 (w.heap.size + 1 ≤ W2.heap.size) := ⟨by have := HB2.out.size; simpa using this⟩
        clear hW ho hB
        go_wp2_with (at_builtin; refine print_append_num (w0 := w.alloc (.cells kc 37)) (w.heap.size + 1) rfl (.tmp 65) (.tmp 67) 36 23 .i64 8 rfl Try.underlying36 info23 (by decide) _ (kt 5) 2 rfl rfl HO2.out HB2.out hbs.out (by decide) ?_; intro v1 w1 ho1 hb1 hg1 hat1; clear hg1 hat1; have HO := Aside0.mk ho1; have H1 := Aside0.mk hb1; clear ho1 hb1)
        go_roundw
        case rel => exact ⟨6, by omega, rfl, HO, H1⟩
        case measure => simp [intOf]
      · have e0 : wr.cell? ⟨w.heap.size, 18, none⟩ = some (.int .i64 0) := hc.out 18; have e1 : wr.cell? ⟨w.heap.size, 19, none⟩ = some (.int .i64 0) := hc.out 19; have e2 : wr.cell? ⟨w.heap.size, 20, none⟩ = some (.int .i64 17) := hc.out 20
        go_wp2_with fail
        refine (colour_Frame.calls 0 0 17 0 2 _ (by kernel_rfl)).mono ?_
        rintro e w1 ⟨rfl, hd⟩
        obtain ⟨nd, rfl⟩ := hd
        generalize hW : World.drewN (World.alloc wr _) nd = W2
        have HO2 : Aside0 (W2.ownsRow (w.heap.size + 1) 23 1 u1 (kt 6).length (nums .i64 (kt 6))) := ⟨by rw [← hW]; exact pw_own_below ho.out (pw_below_drewN (below_alloc (Below.refl _ _) _) _)⟩
        have HB2 : Aside0 (Below (w.heap.size + 1) (w.alloc (.cells kc 37)) W2) := ⟨by rw [← hW]; exact pw_below_drewN (hB.out.alloc hs _) _⟩
        have hbs : Aside0 (w.heap.size + 1 ≤ W2.heap.size) := ⟨by have := HB2.out.size; simpa using this⟩
        clear hW ho hB
        go_wp2_with (at_builtin; refine print_append_num (w0 := w.alloc (.cells kc 37)) (w.heap.size + 1) rfl (.tmp 65) (.tmp 67) 36 23 .i64 8 rfl Try.underlying36 info23 (by decide) _ (kt 6) 2 rfl rfl HO2.out HB2.out hbs.out (by decide) ?_; intro v1 w1 ho1 hb1 hg1 hat1; clear hg1 hat1; have HO := Aside0.mk ho1; have H1 := Aside0.mk hb1; clear ho1 hb1)
        go_roundw
        case rel => exact ⟨7, by omega, rfl, HO, H1⟩
        case measure => simp [intOf]
      · have e0 : wr.cell? ⟨w.heap.size, 21, none⟩ = some (.int .i64 15) := hc.out 21; have e1 : wr.cell? ⟨w.heap.size, 22, none⟩ = some (.int .i64 255) := hc.out 22; have e2 : wr.cell? ⟨w.heap.size, 23, none⟩ = some (.int .i64 16) := hc.out 23
        go_wp2_with fail
        refine (colour_Frame.calls 15 255 16 4095 0 _ (by kernel_rfl)).mono ?_
        rintro e w1 ⟨rfl, hd⟩
        obtain ⟨nd, rfl⟩ := hd
        generalize hW : World.drewN (World.alloc wr _) nd = W2
        have HO2 : Aside0 (W2.ownsRow (w.heap.size + 1) 23 1 u1 (kt 7).length (nums .i64 (kt 7))) := ⟨by rw [← hW]; exact pw_own_below ho.out (pw_below_drewN (below_alloc (Below.refl _ _) _) _)⟩
        have HB2 : Aside0 (Below (w.heap.size + 1) (w.alloc (.cells kc 37)) W2) := ⟨by rw [← hW]; exact pw_below_drewN (hB.out.alloc hs _) _⟩
        have hbs : Aside0 (w.heap.size + 1 ≤ W2.heap.size) := ⟨by have := HB2.out.size; simpa using this⟩
        clear hW ho hB
        go_wp2_with (at_builtin; refine print_append_num (w0 := w.alloc (.cells kc 37)) (w.heap.size + 1) rfl (.tmp 65) (.tmp 67) 36 23 .i64 8 rfl Try.underlying36 info23 (by decide) _ (kt 7) 0 rfl rfl HO2.out HB2.out hbs.out (by decide) ?_; intro v1 w1 ho1 hb1 hg1 hat1; clear hg1 hat1; have HO := Aside0.mk ho1; have H1 := Aside0.mk hb1; clear ho1 hb1)
        go_roundw
        case rel => exact ⟨8, by omega, rfl, HO, H1⟩
        case measure => simp [intOf]
      · have e0 : wr.cell? ⟨w.heap.size, 24, none⟩ = some (.int .i64 0) := hc.out 24; have e1 : wr.cell? ⟨w.heap.size, 25, none⟩ = some (.int .i64 4095) := hc.out 25; have e2 : wr.cell? ⟨w.heap.size, 26, none⟩ = some (.int .i64 1) := hc.out 26
        go_wp2_with fail
        refine (colour_Frame.calls 0 4095 1 4095 0 _ (by kernel_rfl)).mono ?_
        rintro e w1 ⟨rfl, hd⟩
        obtain ⟨nd, rfl⟩ := hd
        generalize hW : World.drewN (World.alloc wr _) nd = W2
        have HO2 : Aside0 (W2.ownsRow (w.heap.size + 1) 23 1 u1 (kt 8).length (nums .i64 (kt 8))) := ⟨by rw [← hW]; exact pw_own_below ho.out (pw_below_drewN (below_alloc (Below.refl _ _) _) _)⟩
        have HB2 : Aside0 (Below (w.heap.size + 1) (w.alloc (.cells kc 37)) W2) := ⟨by rw [← hW]; exact pw_below_drewN (hB.out.alloc hs _) _⟩
        have hbs : Aside0 (w.heap.size + 1 ≤ W2.heap.size) := ⟨by have := HB2.out.size; simpa using this⟩
        clear hW ho hB
        go_wp2_with (at_builtin; refine print_append_num (w0 := w.alloc (.cells kc 37)) (w.heap.size + 1) rfl (.tmp 65) (.tmp 67) 36 23 .i64 8 rfl Try.underlying36 info23 (by decide) _ (kt 8) 0 rfl rfl HO2.out HB2.out hbs.out (by decide) ?_; intro v1 w1 ho1 hb1 hg1 hat1; clear hg1 hat1; have HO := Aside0.mk ho1; have H1 := Aside0.mk hb1; clear ho1 hb1)
        go_roundw
        case rel => exact ⟨9, by omega, rfl, HO, H1⟩
        case measure => simp [intOf]
      · have e0 : wr.cell? ⟨w.heap.size, 27, none⟩ = some (.int .i64 0) := hc.out 27; have e1 : wr.cell? ⟨w.heap.size, 28, none⟩ = some (.int .i64 4096) := hc.out 28; have e2 : wr.cell? ⟨w.heap.size, 29, none⟩ = some (.int .i64 1) := hc.out 29
        go_wp2_with fail
        refine (colour_Frame.calls 0 4096 1 0 2 _ (by kernel_rfl)).mono ?_
        rintro e w1 ⟨rfl, hd⟩
        obtain ⟨nd, rfl⟩ := hd
        generalize hW : World.drewN (World.alloc wr _) nd = W2
        have HO2 : Aside0 (W2.ownsRow (w.heap.size + 1) 23 1 u1 (kt 9).length (nums .i64 (kt 9))) := ⟨by rw [← hW]; exact pw_own_below ho.out (pw_below_drewN (below_alloc (Below.refl _ _) _) _)⟩
        have HB2 : Aside0 (Below (w.heap.size + 1) (w.alloc (.cells kc 37)) W2) := ⟨by rw [← hW]; exact pw_below_drewN (hB.out.alloc hs _) _⟩
        have hbs : Aside0 (w.heap.size + 1 ≤ W2.heap.size) := ⟨by have := HB2.out.size; simpa using this⟩
        clear hW ho hB
        go_wp2_with (at_builtin; refine print_append_num (w0 := w.alloc (.cells kc 37)) (w.heap.size + 1) rfl (.tmp 65) (.tmp 67) 36 23 .i64 8 rfl Try.underlying36 info23 (by decide) _ (kt 9) 2 rfl rfl HO2.out HB2.out hbs.out (by decide) ?_; intro v1 w1 ho1 hb1 hg1 hat1; clear hg1 hat1; have HO := Aside0.mk ho1; have H1 := Aside0.mk hb1; clear ho1 hb1)
        go_roundw
        case rel => exact ⟨10, by omega, rfl, HO, H1⟩
        case measure => simp [intOf]
end Go.Proofs.Ytkihoeacojcdlaa.H
