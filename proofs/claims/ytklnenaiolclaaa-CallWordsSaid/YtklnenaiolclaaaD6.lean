/- The law CallWords by its contracts. -/
import Derived.Test.YtklnenaiolclaaaC9
import Derived.Test.YtklnenaiolclaaaC11
namespace Go.Proofs.Ytklnenaiolclaaa.H
open Go.RowKit Go.Proofs.YtklnenaiolclaaaW.PrintWords Go.Proofs.YtklnenaiolclaaaW.PrintLast Go.Proofs.YtklnenaiolclaaaW.PrintMore
set_option linter.unusedVariables false
set_option linter.unusedSimpArgs false
attribute [local go_sem high] eqB26 eqB24
set_option maxHeartbeats 8000000
set_option maxRecDepth 100000
theorem four_pack (c : C7) (hk : 0 ≤ c.k) (hP : c.p ≤ 9223372036854775807 ∧ c.g ≤ 9223372036854775807 ∧ c.n ≤ 9223372036854775807) (hm : 0 ≤ c.m ∧ c.m ≤ 255) (ha : 0 ≤ c.a) (hv : 0 ≤ c.v) : ∃ (x0 x1 x2 x3 x4 x5 E : Int),
    (∀ w, Calls Try.prog 16 #[.agg #[.int .u8 c.k, .int .i64 c.p, .int .i64 c.g, .int .i64 c.n, .int .u8 c.m, .int .u64 c.a, .int .u64 c.v]] w fun e w' => e = .returned (.tuple #[.agg #[.int .u64 x0, .int .u64 x1, .int .u64 x2, .int .u64 x3, .int .u64 x4, .int .u64 x5], .int .i64 E]) ∧ Below w.heap.size w w') ∧
    (∀ w, Calls Try.prog 17 #[.agg #[.int .u8 c.k, .int .i64 c.p, .int .i64 c.g, .int .i64 c.n, .int .u8 c.m, .int .u64 c.a, .int .u64 c.v]] w fun e w' => e = .returned (.tuple #[.agg #[.int .u64 x0, .int .u64 x1, .int .u64 x2, .int .u64 x3, .int .u64 x4, .int .u64 x5], .int .i64 E]) ∧ Below w.heap.size w w') ∧
    (∀ w, Calls Try.prog 18 #[.agg #[.int .u8 c.k, .int .i64 c.p, .int .i64 c.g, .int .i64 c.n, .int .u8 c.m, .int .u64 c.a, .int .u64 c.v]] w fun e w' => e = .returned (.int .i64 E) ∧ Below w.heap.size w w') ∧
    (∀ w, Calls Try.prog 19 #[.agg #[.int .u8 c.k, .int .i64 c.p, .int .i64 c.g, .int .i64 c.n, .int .u8 c.m, .int .u64 c.a, .int .u64 c.v]] w fun e w' => e = .returned (.int .i64 E) ∧ Below w.heap.size w w') := by
  have hc := rcheck_is c hP hm ha hv
  have h18 := fun w => check_any c w hk ha hv
  have h16 := fun w => encode_any c w hk ha hv
  have h17 := fun w => rencode_any c w hP hk hm ha hv
  unfold chk at hc
  cases h : enc c with
  | none =>
    rw [h] at hc
    simp only [h] at h18 h16 h17
    exact ⟨0, 0, 0, 0, 0, 0, 250, h16, h17, h18, fun w => cofferdamref25_Check.calls 12 c.k c.p c.g c.n c.m c.a c.v 250 w hc⟩
  | some r =>
    obtain ⟨x0, x1, x2, x3, x4, x5, rfl⟩ := enc_form h
    rw [h] at hc
    simp only [h] at h18 h16 h17
    exact ⟨x0, x1, x2, x3, x4, x5, 0, h16, h17, h18, fun w => cofferdamref25_Check.calls 12 c.k c.p c.g c.n c.m c.a c.v 0 w hc⟩
theorem words_c (c : C7) (w : World) (hk : 0 ≤ c.k) (hP : c.p ≤ 9223372036854775807 ∧ c.g ≤ 9223372036854775807 ∧ c.n ≤ 9223372036854775807) (hm : 0 ≤ c.m ∧ c.m ≤ 255) (ha : 0 ≤ c.a) (hv : 0 ≤ c.v) :
    Calls Try.prog 6 #[.agg #[.int .u8 c.k, .int .i64 c.p, .int .i64 c.g, .int .i64 c.n, .int .u8 c.m, .int .u64 c.a, .int .u64 c.v]] w fun e w' => e = .returned (.bool true) ∧ Below w.heap.size w w' := by
  obtain ⟨x0, x1, x2, x3, x4, x5, E, h16, h17, h18, h19⟩ := four_pack c hk hP hm ha hv
  have H16 := Aside0.mk h16
  have H17 := Aside0.mk h17
  have H18 := Aside0.mk h18
  have H19 := Aside0.mk h19
  clear h16 h17 h18 h19 hk hP hm ha hv
  have HB0 := Aside0.mk (below_alloc (Below.refl w.heap.size w) (.cells #[.int .u8 c.k, .int .i64 c.p, .int .i64 c.g, .int .i64 c.n, .int .u8 c.m, .int .u64 c.a, .int .u64 c.v] 26))
  have HC0 : Aside0 (Bl (w.alloc (.cells #[.int .u8 c.k, .int .i64 c.p, .int .i64 c.g, .int .i64 c.n, .int .u8 c.m, .int .u64 c.a, .int .u64 c.v] 26)) w.heap.size 26 c.cells) := ⟨heap_alloc_new w _⟩
  obtain ⟨q0, q1, q2, q3, q4, q5, q6⟩ := HC0.out.cells7
  go_enter Try.func6, Try.ntmps6
  go_wp2_with fail
  refine (H16.out _).mono ?_
  rintro e w1 ⟨rfl, hb⟩
  have hba := below_alloc hb (.cells #[.int .u64 x0, .int .u64 x1, .int .u64 x2, .int .u64 x3, .int .u64 x4, .int .u64 x5] 24)
  have HB1 := Aside0.mk (below_step HB0.out hba)
  have HC1 := Aside0.mk (HC0.out.later hba)
  have HA1 : Aside0 (Bl (w1.alloc (.cells #[.int .u64 x0, .int .u64 x1, .int .u64 x2, .int .u64 x3, .int .u64 x4, .int .u64 x5] 24)) w1.heap.size 24 (raw x0 x1 x2 x3 x4 x5)) := ⟨heap_alloc_new w1 _⟩
  clear hb hba HB0 HC0 q0 q1 q2 q3 q4 q5 q6
  obtain ⟨q0, q1, q2, q3, q4, q5, q6⟩ := HC1.out.cells7
  go_wp2_with fail
  refine (H17.out _).mono ?_
  rintro e w2 ⟨rfl, hb⟩
  have hba := below_alloc hb (.cells #[.int .u64 x0, .int .u64 x1, .int .u64 x2, .int .u64 x3, .int .u64 x4, .int .u64 x5] 24)
  have HB2 := Aside0.mk (below_step HB1.out hba)
  have HC2 := Aside0.mk (HC1.out.later hba)
  have HA2 := Aside0.mk (HA1.out.later hba)
  have HR2 : Aside0 (Bl (w2.alloc (.cells #[.int .u64 x0, .int .u64 x1, .int .u64 x2, .int .u64 x3, .int .u64 x4, .int .u64 x5] 24)) w2.heap.size 24 (raw x0 x1 x2 x3 x4 x5)) := ⟨heap_alloc_new w2 _⟩
  clear hb hba HB1 HC1 HA1 q0 q1 q2 q3 q4 q5 q6
  generalize w1.heap.size = ga at HA2 ⊢
  obtain ⟨q0, q1, q2, q3, q4, q5, q6⟩ := HC2.out.cells7
  obtain ⟨p0, p1, p2, p3, p4, p5⟩ := HA2.out.cells6
  obtain ⟨r0, r1, r2, r3, r4, r5⟩ := HR2.out.cells6
  have hsame : eq6 x0 x0 x1 x1 x2 x2 x3 x3 x4 x4 x5 x5 = true := eq6_iff.2 ⟨rfl, rfl, rfl, rfl, rfl, rfl⟩
  go_wp2_with fail
  generalize hgb : w2.heap.size = gb at HR2 r0 r1 r2 r3 r4 r5 ⊢
  generalize hWW : w2.alloc (.cells #[.int .u64 x0, .int .u64 x1, .int .u64 x2, .int .u64 x3, .int .u64 x4, .int .u64 x5] 24) = W at HB2 HC2 HA2 HR2 q0 q1 q2 q3 q4 q5 q6 p0 p1 p2 p3 p4 p5 r0 r1 r2 r3 r4 r5 ⊢
  clear HC2 HA2 HR2 hWW hgb
  go_region_held3 (fun w' => w'.cell? ⟨w.heap.size, 0, none⟩ = some (.int .u8 c.k) ∧ w'.cell? ⟨w.heap.size, 1, none⟩ = some (.int .i64 c.p) ∧ w'.cell? ⟨w.heap.size, 2, none⟩ = some (.int .i64 c.g) ∧ w'.cell? ⟨w.heap.size, 3, none⟩ = some (.int .i64 c.n) ∧ w'.cell? ⟨w.heap.size, 4, none⟩ = some (.int .u8 c.m) ∧ w'.cell? ⟨w.heap.size, 5, none⟩ = some (.int .u64 c.a) ∧ w'.cell? ⟨w.heap.size, 6, none⟩ = some (.int .u64 c.v) ∧ w'.cell? ⟨ga, 0, none⟩ = some (.int .u64 x0) ∧ w'.cell? ⟨ga, 1, none⟩ = some (.int .u64 x1) ∧ w'.cell? ⟨ga, 2, none⟩ = some (.int .u64 x2) ∧ w'.cell? ⟨ga, 3, none⟩ = some (.int .u64 x3) ∧ w'.cell? ⟨ga, 4, none⟩ = some (.int .u64 x4) ∧ w'.cell? ⟨ga, 5, none⟩ = some (.int .u64 x5) ∧ w'.cell? ⟨gb, 0, none⟩ = some (.int .u64 x0) ∧ w'.cell? ⟨gb, 1, none⟩ = some (.int .u64 x1) ∧ w'.cell? ⟨gb, 2, none⟩ = some (.int .u64 x2) ∧ w'.cell? ⟨gb, 3, none⟩ = some (.int .u64 x3) ∧ w'.cell? ⟨gb, 4, none⟩ = some (.int .u64 x4) ∧ w'.cell? ⟨gb, 5, none⟩ = some (.int .u64 x5)  ∧ Below W.heap.size W w')
    (exact ⟨pw_cell_below (w := W) (by (repeat (with_reducible first | exact Below.refl _ _ | exact hX11 | exact hX19 | exact hX18 | apply below_alloc | apply pw_below_drewN | apply below_drew))) q0, pw_cell_below (w := W) (by (repeat (with_reducible first | exact Below.refl _ _ | exact hX11 | exact hX19 | exact hX18 | apply below_alloc | apply pw_below_drewN | apply below_drew))) q1, pw_cell_below (w := W) (by (repeat (with_reducible first | exact Below.refl _ _ | exact hX11 | exact hX19 | exact hX18 | apply below_alloc | apply pw_below_drewN | apply below_drew))) q2, pw_cell_below (w := W) (by (repeat (with_reducible first | exact Below.refl _ _ | exact hX11 | exact hX19 | exact hX18 | apply below_alloc | apply pw_below_drewN | apply below_drew))) q3, pw_cell_below (w := W) (by (repeat (with_reducible first | exact Below.refl _ _ | exact hX11 | exact hX19 | exact hX18 | apply below_alloc | apply pw_below_drewN | apply below_drew))) q4, pw_cell_below (w := W) (by (repeat (with_reducible first | exact Below.refl _ _ | exact hX11 | exact hX19 | exact hX18 | apply below_alloc | apply pw_below_drewN | apply below_drew))) q5, pw_cell_below (w := W) (by (repeat (with_reducible first | exact Below.refl _ _ | exact hX11 | exact hX19 | exact hX18 | apply below_alloc | apply pw_below_drewN | apply below_drew))) q6, pw_cell_below (w := W) (by (repeat (with_reducible first | exact Below.refl _ _ | exact hX11 | exact hX19 | exact hX18 | apply below_alloc | apply pw_below_drewN | apply below_drew))) p0, pw_cell_below (w := W) (by (repeat (with_reducible first | exact Below.refl _ _ | exact hX11 | exact hX19 | exact hX18 | apply below_alloc | apply pw_below_drewN | apply below_drew))) p1, pw_cell_below (w := W) (by (repeat (with_reducible first | exact Below.refl _ _ | exact hX11 | exact hX19 | exact hX18 | apply below_alloc | apply pw_below_drewN | apply below_drew))) p2, pw_cell_below (w := W) (by (repeat (with_reducible first | exact Below.refl _ _ | exact hX11 | exact hX19 | exact hX18 | apply below_alloc | apply pw_below_drewN | apply below_drew))) p3, pw_cell_below (w := W) (by (repeat (with_reducible first | exact Below.refl _ _ | exact hX11 | exact hX19 | exact hX18 | apply below_alloc | apply pw_below_drewN | apply below_drew))) p4, pw_cell_below (w := W) (by (repeat (with_reducible first | exact Below.refl _ _ | exact hX11 | exact hX19 | exact hX18 | apply below_alloc | apply pw_below_drewN | apply below_drew))) p5, pw_cell_below (w := W) (by (repeat (with_reducible first | exact Below.refl _ _ | exact hX11 | exact hX19 | exact hX18 | apply below_alloc | apply pw_below_drewN | apply below_drew))) r0, pw_cell_below (w := W) (by (repeat (with_reducible first | exact Below.refl _ _ | exact hX11 | exact hX19 | exact hX18 | apply below_alloc | apply pw_below_drewN | apply below_drew))) r1, pw_cell_below (w := W) (by (repeat (with_reducible first | exact Below.refl _ _ | exact hX11 | exact hX19 | exact hX18 | apply below_alloc | apply pw_below_drewN | apply below_drew))) r2, pw_cell_below (w := W) (by (repeat (with_reducible first | exact Below.refl _ _ | exact hX11 | exact hX19 | exact hX18 | apply below_alloc | apply pw_below_drewN | apply below_drew))) r3, pw_cell_below (w := W) (by (repeat (with_reducible first | exact Below.refl _ _ | exact hX11 | exact hX19 | exact hX18 | apply below_alloc | apply pw_below_drewN | apply below_drew))) r4, pw_cell_below (w := W) (by (repeat (with_reducible first | exact Below.refl _ _ | exact hX11 | exact hX19 | exact hX18 | apply below_alloc | apply pw_below_drewN | apply below_drew))) r5, (by (repeat (with_reducible first | exact Below.refl _ _ | exact hX11 | exact hX19 | exact hX18 | apply below_alloc | apply pw_below_drewN | apply below_drew)))⟩)
    (first
      | (go_at_call 18; refine (H18.out _).mono ?_; rintro e w5 ⟨rfl, hb5⟩; have hX18 := below_step (w := W) (by (repeat (with_reducible first | exact Below.refl _ _ | exact hX11 | exact hX19 | exact hX18 | apply below_alloc | apply pw_below_drewN | apply below_drew))) hb5)
      | (go_at_call 19; refine (H19.out _).mono ?_; rintro e w6 ⟨rfl, hb6⟩; have hX19 := below_step (w := W) (by (repeat (with_reducible first | exact Below.refl _ _ | exact hX11 | exact hX19 | exact hX18 | apply below_alloc | apply pw_below_drewN | apply below_drew))) hb6)
      | (go_at_call 11; refine (works_any _).mono ?_; rintro e w7 ⟨rfl, hb7⟩; have hX11 := below_step (w := W) (by (repeat (with_reducible first | exact Below.refl _ _ | exact hX11 | exact hX19 | exact hX18 | apply below_alloc | apply pw_below_drewN | apply below_drew))) hb7))
  all_goals
    have HB3 := Aside0.mk (below_step HB2.out hX11)
    go_wp2_with fail
    go_ret
    exact ⟨rfl, HB3.out⟩
theorem words_any (a0 a1 a2 a3 a4 a5 a6 : Int) (w : World) (ha0 : (Lit.int .u8 a0).wf = true) (ha1 : (Lit.int .i64 a1).wf = true) (ha2 : (Lit.int .i64 a2).wf = true) (ha3 : (Lit.int .i64 a3).wf = true) (ha4 : (Lit.int .u8 a4).wf = true) (ha5 : (Lit.int .u64 a5).wf = true) (ha6 : (Lit.int .u64 a6).wf = true) :
    Calls Try.prog 6 #[.agg #[.int .u8 a0, .int .i64 a1, .int .i64 a2, .int .i64 a3, .int .u8 a4, .int .u64 a5, .int .u64 a6]] w fun e w' => e = .returned (.bool true) ∧ Below w.heap.size w w' := by
  simp only [Lit.wf, IntKind.min, IntKind.max, IntKind.signed, IntKind.bits, Bool.and_eq_true, decide_eq_true_eq] at ha0 ha1 ha2 ha3 ha4 ha5 ha6
  simp at ha0 ha1 ha2 ha3 ha4 ha5 ha6
  exact words_c ⟨a0, a1, a2, a3, a4, a5, a6⟩ w (by simp; omega) (by simp; omega) (by simp; omega) (by simp; omega) (by simp; omega)
end Go.Proofs.Ytklnenaiolclaaa.H
