/- CostScales' walk where the costs may not be. -/
import Derived.Test.YtpodcbaechlejaaE0
namespace Go.Proofs.Ytpodcbaechlejaa.H
open Go.RowKit Go.Proofs.YtpodcbaechlejaaW.PrintWords Go.Proofs.YtpodcbaechlejaaW.PrintLast Go.Proofs.YtpodcbaechlejaaW.PrintMore
set_option linter.unusedVariables false
set_option linter.unusedSimpArgs false
open Go.Proofs.Ytpodcbaechlejaa.Pure
set_option maxHeartbeats 60000000
set_option maxRecDepth 100000
theorem scales_no (D0 D1 D2 D3 D4 D5 : Int) (E0 E1 E2 E3 : Int) (t : Int) (w : World) (hD0 : (Lit.int .u64 D0).wf = true) (hD1 : (Lit.int .u64 D1).wf = true) (hD2 : (Lit.int .u64 D2).wf = true) (hD3 : (Lit.int .u64 D3).wf = true) (hD4 : (Lit.int .u64 D4).wf = true) (hD5 : (Lit.int .u64 D5).wf = true) (hE0 : (Lit.int .i64 E0).wf = true) (hE1 : (Lit.int .i64 E1).wf = true) (hE2 : (Lit.int .i64 E2).wf = true) (hE3 : (Lit.int .i64 E3).wf = true) (ht : (Lit.int .u64 t).wf = true) (hok : ¬ okc D0 D1 D2 D3 D4 D5) :
    Calls Try.prog 4 #[.agg #[.int .u64 D0, .int .u64 D1, .int .u64 D2, .int .u64 D3, .int .u64 D4, .int .u64 D5], .agg #[.int .i64 E0, .int .i64 E1, .int .i64 E2, .int .i64 E3], .int .u64 t] w fun e w' => e = .returned (.bool true) ∧ Below w.heap.size w w' := by
  have t0 := (u64_lo ht).1
  clear ht
  obtain ⟨z, hz, z1, z8⟩ : ∃ z, z = 1 + t % 8 ∧ 1 ≤ z ∧ z ≤ 8 := ⟨_, rfl, by omega, by omega⟩
  have HZ := Aside0.mk hz
  have HS0 : Aside0 (Six (w.alloc (.cells #[.int .u64 D0, .int .u64 D1, .int .u64 D2, .int .u64 D3, .int .u64 D4, .int .u64 D5] 24)) w.heap.size D0 D1 D2 D3 D4 D5) := ⟨heap_alloc_new w _⟩
  have HF0 : Aside0 (Four ((w.alloc (.cells #[.int .u64 D0, .int .u64 D1, .int .u64 D2, .int .u64 D3, .int .u64 D4, .int .u64 D5] 24)).alloc (.cells #[.int .i64 E0, .int .i64 E1, .int .i64 E2, .int .i64 E3] 35)) (w.heap.size + 1) E0 E1 E2 E3) := ⟨by have := heap_alloc_new (w.alloc (.cells #[.int .u64 D0, .int .u64 D1, .int .u64 D2, .int .u64 D3, .int .u64 D4, .int .u64 D5] 24)) (.cells #[.int .i64 E0, .int .i64 E1, .int .i64 E2, .int .i64 E3] 35); simpa [Four] using this⟩
  have HB0 := Aside0.mk (below_alloc (below_alloc (Below.refl w.heap.size w) (.cells #[.int .u64 D0, .int .u64 D1, .int .u64 D2, .int .u64 D3, .int .u64 D4, .int .u64 D5] 24)) (.cells #[.int .i64 E0, .int .i64 E1, .int .i64 E2, .int .i64 E3] 35))
  have HS1 := Aside0.mk (HS0.out.later (below_alloc (Below.refl _ _) (.cells #[.int .i64 E0, .int .i64 E1, .int .i64 E2, .int .i64 E3] 35)))
  clear hz HS0
  clear HF0 HZ
  have hchk : Aside0 (cost_Check.f 20 D0 D1 D2 D3 D4 D5 = some 100) := ⟨by rw [check_eq 20 (by decide), if_neg hok]⟩
  clear hok
  go_enter Try.func4, Try.ntmps4
  go_wp2_with fail
  refine (cofferdamlaw10_works.calls 20 true _ (works_true 20 (by decide))).mono ?_
  rintro e w1 ⟨rfl, hb⟩
  obtain ⟨c0, c1, c2, c3, c4, c5⟩ := (HS1.out.later hb).cells
  have HB1 := Aside0.mk (below_step HB0.out hb)
  clear hb HB0 HS1
  go_wp2_with fail
  refine (cost_Check.calls 20 D0 D1 D2 D3 D4 D5 100 _ hchk.out).mono ?_
  rintro e w2 ⟨rfl, hb⟩
  have HB2 := Aside0.mk (below_step HB1.out hb)
  clear hb HB1
  go_wp2_with fail
  go_ret
  exact ⟨rfl, HB2.out⟩
end Go.Proofs.Ytpodcbaechlejaa.H
