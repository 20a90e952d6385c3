/- CostScales' walk: costs so many times as great may not be; the worst of store and exit are two. -/
import Derived.Test.YtpodcbaechlejaaE0
namespace Go.Proofs.Ytpodcbaechlejaa.H
open Go.RowKit Go.Proofs.YtpodcbaechlejaaW.PrintWords Go.Proofs.YtpodcbaechlejaaW.PrintLast Go.Proofs.YtpodcbaechlejaaW.PrintMore
set_option linter.unusedVariables false
set_option linter.unusedSimpArgs false
open Go.Proofs.Ytpodcbaechlejaa.Pure
set_option maxHeartbeats 60000000
set_option maxRecDepth 100000
theorem scales_p2 (D0 D1 D2 D3 D4 D5 : Int) (E0 E1 E2 E3 : Int) (t : Int) (w : World) (hD0 : (Lit.int .u64 D0).wf = true) (hD1 : (Lit.int .u64 D1).wf = true) (hD2 : (Lit.int .u64 D2).wf = true) (hD3 : (Lit.int .u64 D3).wf = true) (hD4 : (Lit.int .u64 D4).wf = true) (hD5 : (Lit.int .u64 D5).wf = true) (hE0 : (Lit.int .i64 E0).wf = true) (hE1 : (Lit.int .i64 E1).wf = true) (hE2 : (Lit.int .i64 E2).wf = true) (hE3 : (Lit.int .i64 E3).wf = true) (ht : (Lit.int .u64 t).wf = true) (hok : okc D0 D1 D2 D3 D4 D5) (hm : ¬ okc ((1 + t % 8) * D0) ((1 + t % 8) * D1) ((1 + t % 8) * D2) ((1 + t % 8) * D3) ((1 + t % 8) * D4) ((1 + t % 8) * D5)) (h74 : ¬ wk2 E0 D2 D3 D4 D5 E1 E2 E3 7 = wk2 E0 D2 D3 D4 D5 E1 E2 E3 4) :
    Calls Try.prog 4 #[.agg #[.int .u64 D0, .int .u64 D1, .int .u64 D2, .int .u64 D3, .int .u64 D4, .int .u64 D5], .agg #[.int .i64 E0, .int .i64 E1, .int .i64 E2, .int .i64 E3], .int .u64 t] w fun e w' => e = .returned (.bool true) ∧ Below w.heap.size w w' := by
  have H74 := Aside0.mk h74
  clear h74
  have t0 := (u64_lo ht).1
  clear ht
  obtain ⟨z, hz, z1, z8⟩ : ∃ z, z = 1 + t % 8 ∧ 1 ≤ z ∧ z ≤ 8 := ⟨_, rfl, by omega, by omega⟩
  have HZ := Aside0.mk hz
  have HS0 : Aside0 (Six (w.alloc (.cells #[.int .u64 D0, .int .u64 D1, .int .u64 D2, .int .u64 D3, .int .u64 D4, .int .u64 D5] 24)) w.heap.size D0 D1 D2 D3 D4 D5) := ⟨heap_alloc_new w _⟩
  have HF0 : Aside0 (Four ((w.alloc (.cells #[.int .u64 D0, .int .u64 D1, .int .u64 D2, .int .u64 D3, .int .u64 D4, .int .u64 D5] 24)).alloc (.cells #[.int .i64 E0, .int .i64 E1, .int .i64 E2, .int .i64 E3] 35)) (w.heap.size + 1) E0 E1 E2 E3) := ⟨by have := heap_alloc_new (w.alloc (.cells #[.int .u64 D0, .int .u64 D1, .int .u64 D2, .int .u64 D3, .int .u64 D4, .int .u64 D5] 24)) (.cells #[.int .i64 E0, .int .i64 E1, .int .i64 E2, .int .i64 E3] 35); simpa [Four] using this⟩
  have HB0 := Aside0.mk (below_alloc (below_alloc (Below.refl w.heap.size w) (.cells #[.int .u64 D0, .int .u64 D1, .int .u64 D2, .int .u64 D3, .int .u64 D4, .int .u64 D5] 24)) (.cells #[.int .i64 E0, .int .i64 E1, .int .i64 E2, .int .i64 E3] 35))
  have HS1 := Aside0.mk (HS0.out.later (below_alloc (Below.refl _ _) (.cells #[.int .i64 E0, .int .i64 E1, .int .i64 E2, .int .i64 E3] 35)))
  clear hz HS0
  obtain ⟨o0, o1, o2, o3, ⟨o4, o5⟩, ⟨o6, o7⟩, o8, o9⟩ := hok
  have hok : okc D0 D1 D2 D3 D4 D5 := ⟨o0, o1, o2, o3, ⟨o4, o5⟩, ⟨o6, o7⟩, o8, o9⟩
  have hchk : Aside0 (cost_Check.f 20 D0 D1 D2 D3 D4 D5 = some 0) := ⟨by rw [check_eq 20 (by decide), if_pos hok]⟩
  have HOK := Aside0.mk hok
  clear hok
  obtain ⟨y0, hy0⟩ : ∃ y, y = z * D0 := ⟨_, rfl⟩
  obtain ⟨y1, hy1⟩ : ∃ y, y = z * D1 := ⟨_, rfl⟩
  obtain ⟨y2, hy2⟩ : ∃ y, y = z * D2 := ⟨_, rfl⟩
  obtain ⟨y3, hy3⟩ : ∃ y, y = z * D3 := ⟨_, rfl⟩
  obtain ⟨y4, hy4⟩ : ∃ y, y = z * D4 := ⟨_, rfl⟩
  obtain ⟨y5, hy5⟩ : ∃ y, y = z * D5 := ⟨_, rfl⟩
  have wz : ∀ x : Int, 1 ≤ x → x ≤ 65536 → IntKind.u64.wrap (z * x) = z * x := fun x h1 h2 => by
    have m0 : 0 ≤ z * x := Int.mul_nonneg (by omega) (by omega)
    have m1 : z * x ≤ 8 * 65536 := Int.mul_le_mul z8 h2 (by omega) (by decide)
    rw [IntKind.wrap_u64]; omega
  have e0 : IntKind.u64.wrap (z * D0) = y0 := by rw [hy0]; exact wz _ (by omega) (by omega)
  have e1 : IntKind.u64.wrap (z * D1) = y1 := by rw [hy1]; exact wz _ (by omega) (by omega)
  have e2 : IntKind.u64.wrap (z * D2) = y2 := by rw [hy2]; exact wz _ (by omega) (by omega)
  have e3 : IntKind.u64.wrap (z * D3) = y3 := by rw [hy3]; exact wz _ (by omega) (by omega)
  have e4 : IntKind.u64.wrap (z * D4) = y4 := by rw [hy4]; exact wz _ (by omega) (by omega)
  have e5 : IntKind.u64.wrap (z * D5) = y5 := by rw [hy5]; exact wz _ (by omega) (by omega)
  have HMY : Aside0 (¬ okc y0 y1 y2 y3 y4 y5) := ⟨by rw [hy0, hy1, hy2, hy3, hy4, hy5, HZ.out]; exact hm⟩
  clear hm
  have HY := Aside0.mk (And.intro hy0 (And.intro hy1 (And.intro hy2 (And.intro hy3 (And.intro hy4 hy5)))))
  clear hy0 hy1 hy2 hy3 hy4 hy5 wz
  go_enter Try.func4, Try.ntmps4
  go_wp2_with fail
  refine (cofferdamlaw10_works.calls 20 true _ (works_true 20 (by decide))).mono ?_
  rintro e w1 ⟨rfl, hb⟩
  have HS2 := Aside0.mk (HS1.out.later hb)
  have HF2 := Aside0.mk (HF0.out.later hb)
  obtain ⟨q0, q1, q2, q3, q4, q5⟩ := HS2.out.cells
  have HB1 := Aside0.mk (below_step HB0.out hb)
  clear hb HB0 HS1 HF0
  go_wp2_with fail
  rw [← HZ.out]
  refine (cost_Check.calls 20 D0 D1 D2 D3 D4 D5 0 _ hchk.out).mono ?_
  rintro e w2 ⟨rfl, hb⟩
  have HS3 := Aside0.mk (HS2.out.later hb)
  have HF3 := Aside0.mk (HF2.out.later hb)
  obtain ⟨q0, q1, q2, q3, q4, q5⟩ := HS3.out.cells
  have HB2 := Aside0.mk (below_step HB1.out hb)
  clear hb HB1 HS2 HF2 hchk
  go_wp2_with fail
  obtain ⟨r, hr, hr2⟩ : ∃ r, cost_Check.f 20 y0 y1 y2 y3 y4 y5 = some r ∧ (r == 0) = decide (okc y0 y1 y2 y3 y4 y5) := by
    rw [check_eq 20 (by decide)]
    by_cases h : okc y0 y1 y2 y3 y4 y5
    · exact ⟨_, rfl, by rw [if_pos h, decide_eq_true h]; rfl⟩
    · exact ⟨_, rfl, by rw [if_neg h, decide_eq_false h]; rfl⟩
  have HRr := Aside0.mk hr2
  have HS4 : Aside0 (Six (w2.alloc (.cells #[.int .u64 y0, .int .u64 y1, .int .u64 y2, .int .u64 y3, .int .u64 y4, .int .u64 y5] 24)) w2.heap.size y0 y1 y2 y3 y4 y5) := ⟨heap_alloc_new w2 _⟩
  refine (cost_Check.calls 20 y0 y1 y2 y3 y4 y5 r _ hr).mono ?_
  rintro e w3 ⟨rfl, hb⟩
  have HY4 := Aside0.mk (HS4.out.later hb)
  have HS5 := Aside0.mk ((HS3.out.later (below_alloc (Below.refl _ _) _)).later hb)
  have HF5 := Aside0.mk ((HF3.out.later (below_alloc (Below.refl _ _) _)).later hb)
  have HB3 := Aside0.mk (below_step (below_alloc HB2.out _) hb)
  have hgy : w.heap.size ≤ w2.heap.size := HB2.out.size
  generalize hgyy : w2.heap.size = gy at HY4 hgy ⊢
  clear hb hr hr2 HS3 HF3 HS4 HB2 hgyy q0 q1 q2 q3 q4 q5 e0 e1 e2 e3 e4 e5
  have wz : ∀ k : Nat, oks E0 E1 E2 E3 → 0 ≤ wk2 E0 D2 D3 D4 D5 E1 E2 E3 k ∧ wk2 E0 D2 D3 D4 D5 E1 E2 E3 k ≤ 6000524288 := fun k hk => by
    have h1 := bd_bp (m := D2) (f := D3) (st := D4) (d := D5) (u := E1) (l := E2) (n := E3) (by omega) (by omega) (by omega) (by omega) hk.2.1 hk.2.2.1 hk.2.2.2 k
    have h2 := img_eq (m := D2) (s0 := E0) (by omega) hk.1
    unfold wk2
    omega
  have HWZ := Aside0.mk wz
  clear wz
  go_wp2_with fail
  generalize (r == 0) = may at HRr ⊢
  obtain rfl : may = false := HRr.out.trans (decide_eq_false HMY.out)
  go_loopw [9, 10] (fun v9 v10 wr => ∃ k : Nat, k ≤ 14 ∧ v10 = .int .i64 k ∧ Aside0 (k = 0 ∨ oks E0 E1 E2 E3) ∧ Aside0 (wr.ownsRow w.heap.size 22 1 v9 (wl (wk2 E0 D2 D3 D4 D5 E1 E2 E3) k).length (nums .u64 (wl (wk2 E0 D2 D3 D4 D5 E1 E2 E3) k))) ∧ Aside0 (Six wr w.heap.size D0 D1 D2 D3 D4 D5) ∧ Aside0 (Four wr (w.heap.size + 1) E0 E1 E2 E3) ∧ Aside0 (Six wr gy y0 y1 y2 y3 y4 y5) ∧ Aside0 (Below w.heap.size w wr)) (fun _ v10 _ => 14 - (intOf v10).toNat)
  case atStart => exact ⟨0, by omega, rfl, ⟨.inl rfl⟩, ⟨own_nil _ _ _ _⟩, HS5, HF5, HY4, HB3⟩
  case round =>
    obtain ⟨k, hk, rfl, hz0, ho, hS, hF, hY, hB⟩ := hrel
    clear HS5 HF5 HY4 HB3
    by_cases hlt : k < 14
    · obtain ⟨q0, q1, q2, q3, q4, q5⟩ := hS.out.cells
      obtain ⟨p0, p1, p2, p3⟩ := hF.out.cells
      by_cases hks : oks E0 E1 E2 E3
      · have hw := Aside0.mk (show cost_Worst.f 20 D0 D1 D2 D3 D4 D5 E0 E1 E2 E3 (k : Int) = some (wk2 E0 D2 D3 D4 D5 E1 E2 E3 k, 0) by rw [cworst_eq 20 (by decide) _ _ _ _ _ _ _ _ _ _ _ (by omega), if_pos HOK.out, if_pos hks]; simp [wk2])
        have hv := HWZ.out k hks
        have hwl := wl_len (wk2 E0 D2 D3 D4 D5 E1 E2 E3) k
        have HKS := Aside0.mk hks
        have hnext : Aside0 (wl (wk2 E0 D2 D3 D4 D5 E1 E2 E3) (k + 1) = wl (wk2 E0 D2 D3 D4 D5 E1 E2 E3) k ++ [wk2 E0 D2 D3 D4 D5 E1 E2 E3 k]) := ⟨rfl⟩
        clear hks hz0
        go_wp2_with fail
        refine (cost_Worst.calls 20 D0 D1 D2 D3 D4 D5 E0 E1 E2 E3 (k : Int) _ 0 _ hw.out).mono ?_
        rintro e w4 ⟨rfl, hb⟩
        have HS6 := Aside0.mk (hS.out.later hb)
        have HF6 := Aside0.mk (hF.out.later hb)
        have HY6 := Aside0.mk (hY.out.later hb)
        have HB6 := Aside0.mk (below_step hB.out hb)
        have HO6 := Aside0.mk (pw_own_below ho.out hb)
        have hbs : Aside0 (w.heap.size ≤ w4.heap.size) := ⟨HB6.out.size⟩
        have hln : Aside0 (((wl (wk2 E0 D2 D3 D4 D5 E1 E2 E3) k).length + 1) * 8 ≤ 140737488355328) := ⟨by omega⟩
        obtain ⟨V, hV⟩ : ∃ V, V = wk2 E0 D2 D3 D4 D5 E1 E2 E3 k := ⟨_, rfl⟩
        rw [← hV] at hnext hv ⊢
        have HV := Aside0.mk hV
        clear hb hS hF hY hB ho hw q0 q1 q2 q3 q4 q5 p0 p1 p2 p3 hV
        obtain ⟨v0, v1⟩ := hv
        go_wp2_with (at_builtin; refine print_append_num (w0 := w) w.heap.size rfl (.tmp 75) (.tmp 77) 36 22 .u64 8 rfl Try.underlying36 info22 (by decide) _ (wl (wk2 E0 D2 D3 D4 D5 E1 E2 E3) k) V rfl rfl HO6.out HB6.out hbs.out hln.out ?_; intro v5 w5 ho1 hb1 hg1 hat1; have HS7 := Aside0.mk (blk_grown HS6.out hg1 (own_ne HO6.out HS6.out (by decide))); have HF7 := Aside0.mk (blk_grown HF6.out hg1 (own_ne HO6.out HF6.out (by decide))); have HY7 := Aside0.mk (blk_grown HY6.out hg1 (own_ne HO6.out HY6.out (by decide))); clear hg1 hat1; have HO := Aside0.mk ho1; have H1 := Aside0.mk hb1; clear ho1 hb1; obtain ⟨q0, q1, q2, q3, q4, q5⟩ := Six.cells HY7.out; obtain ⟨p0, p1, p2, p3⟩ := Four.cells HF7.out)
        go_roundw
        case rel => exact ⟨k + 1, by omega, by go_num, ⟨.inr HKS.out⟩, ⟨by rw [hnext.out]; exact HO.out⟩, HS7, HF7, HY7, H1⟩
        case measure => simp [intOf]; omega
      · have hk0 : k = 0 := by rcases hz0.out with h | h; exact h; exact absurd h hks
        subst hk0
        have hw := Aside0.mk (show cost_Worst.f 20 D0 D1 D2 D3 D4 D5 E0 E1 E2 E3 0 = some (0, 2) by rw [cworst_eq 20 (by decide) _ _ _ _ _ _ _ _ _ _ _ (by decide), if_pos HOK.out, if_neg hks])
        clear hks hz0
        go_wp2_with fail
        refine (cost_Worst.calls 20 D0 D1 D2 D3 D4 D5 E0 E1 E2 E3 _ _ 2 _ hw.out).mono ?_
        rintro e w4 ⟨rfl, hb⟩
        have HB6 := Aside0.mk (below_step hB.out hb)
        clear hb hS hF hY hB ho hw q0 q1 q2 q3 q4 q5 p0 p1 p2 p3
        go_wp2_with fail
        go_ret
        exact ⟨rfl, HB6.out⟩
    · have hk14 : k = 14 := by omega
      subst hk14
      have hks : oks E0 E1 E2 E3 := by rcases hz0.out with h | h; exact absurd h (by decide); exact h
      have hu := hks.2.1.1
      have h74 := H74.out
      have hfa := wk2_facts (i := E0) (m := D2) (f := D3) (st := D4) (d := D5) (u := E1) (l := E2) (n := E3) (by omega) (by omega) (by omega) (by omega) hu
      obtain ⟨g, cap, rfl, hg1, hg2⟩ := ho.out.form (by rw [wl_len]; decide)
      have hat : ∀ j : Nat, j < 14 → wr.cell? ⟨g, j, none⟩ = some (.int .u64 (wk2 E0 D2 D3 D4 D5 E1 E2 E3 j)) := fun j hj => by
        have h1 := (own_at ho.out (j : Int) (by omega) (by rw [wl_len]; omega)).1
        have h2 : rd (wl (wk2 E0 D2 D3 D4 D5 E1 E2 E3) 14) (j : Int) = wk2 E0 D2 D3 D4 D5 E1 E2 E3 j := wl_at _ 14 j hj
        rw [h2] at h1
        exact h1
      have a0 := hat 0 (by decide)
      have a4 := hat 4 (by decide)
      have a5 := hat 5 (by decide)
      have a6 := hat 6 (by decide)
      have a7 := hat 7 (by decide)
      have a8 := hat 8 (by decide)
      have a9 := hat 9 (by decide)
      have a10 := hat 10 (by decide)
      have a11 := hat 11 (by decide)
      have hlen := wl_len (wk2 E0 D2 D3 D4 D5 E1 E2 E3) 14
      have HLEN := Aside0.mk hlen
      clear hat ho hz0 hks hu hlen
      generalize wk2 E0 D2 D3 D4 D5 E1 E2 E3 0 = V0 at a0 hfa
      generalize wk2 E0 D2 D3 D4 D5 E1 E2 E3 4 = V4 at a4 hfa h74
      generalize wk2 E0 D2 D3 D4 D5 E1 E2 E3 5 = V5 at a5 hfa
      generalize wk2 E0 D2 D3 D4 D5 E1 E2 E3 6 = V6 at a6 hfa
      generalize wk2 E0 D2 D3 D4 D5 E1 E2 E3 7 = V7 at a7 hfa h74
      generalize wk2 E0 D2 D3 D4 D5 E1 E2 E3 8 = V8 at a8 hfa
      generalize wk2 E0 D2 D3 D4 D5 E1 E2 E3 9 = V9 at a9 hfa
      generalize wk2 E0 D2 D3 D4 D5 E1 E2 E3 10 = V10 at a10 hfa
      generalize wk2 E0 D2 D3 D4 D5 E1 E2 E3 11 = V11 at a11 hfa
      obtain ⟨f1, f2, f3, f4, f5, f6, f7⟩ := hfa
      subst f5
      subst f6
      rw [HLEN.out]
      have b1 : decide (V9 < V8) = false := decide_eq_false (by omega)
      have b2 : decide (V5 < V6) = false := decide_eq_false (by omega)
      have b3 : decide (V7 < V4) = false := decide_eq_false (by omega)
      have b4 : decide (V7 < V5) = false := decide_eq_false (by omega)
      have FF := Aside0.mk f7
      have b5 : (V7 != V4) = true := bne_iff_ne.2 h74
      have b6 : (V7 != V5) = false := bne_eq_false_iff_eq.2 (by rcases f7 with h | h; exact absurd h h74; exact h)
      clear h74 f7 f1 f2 f3 f4
      go_upto_region 20 with (fail)
      dsimp only [List.append]
      go_big_quiet (fail)
      have HB5 := Aside0.mk (pw_below_drewN hB.out nq)
      have HS5 := Aside0.mk (show Six (wr.drewN nq) w.heap.size D0 D1 D2 D3 D4 D5 from hS.out)
      have HY5 := Aside0.mk (show Six (wr.drewN nq) gy y0 y1 y2 y3 y4 y5 from hY.out)
      generalize wr.drewN nq = wa at HB5 HS5 HY5 ⊢
      clear hS hF hY hB a0 a4 a5 a6 a7 a8 a9 a10 a11
      go_wp2_with fail
      go_ret
      exact ⟨rfl, HB5.out⟩end Go.Proofs.Ytpodcbaechlejaa.H
