/- Contract of call.Check; what Encode and Decode answer, packed for the law CallBack. -/
import Derived.Test.YtklnenaiolclaaaC6
import Derived.Test.YtklnenaiolclaaaC8
namespace Go.Proofs.Ytklnenaiolclaaa.H
open Go.RowKit Go.Proofs.YtklnenaiolclaaaW.PrintWords Go.Proofs.YtklnenaiolclaaaW.PrintLast Go.Proofs.YtklnenaiolclaaaW.PrintMore
set_option linter.unusedVariables false
set_option linter.unusedSimpArgs false
set_option maxHeartbeats 8000000
set_option maxRecDepth 100000
theorem enc_form {c : C7} {r : Array Value} (h : enc c = some r) : ∃ x0 x1 x2 x3 x4 x5 : Int, r = raw x0 x1 x2 x3 x4 x5 := by
  unfold enc at h
  repeat' split at h
  all_goals first | (cases h; done) | (injection h with h; exact ⟨_, _, _, _, _, _, h.symm⟩)
theorem check_any (c : C7) (w : World) (hk : 0 ≤ c.k) (ha : 0 ≤ c.a) (hv : 0 ≤ c.v) :
    Calls Try.prog 18 #[.agg #[.int .u8 c.k, .int .i64 c.p, .int .i64 c.g, .int .i64 c.n, .int .u8 c.m, .int .u64 c.a, .int .u64 c.v]] w fun e w' => e = .returned (.int .i64 (if (enc c).isSome then 0 else 250)) ∧ Below w.heap.size w w' := by
  obtain ⟨x0, x1, x2, x3, x4, x5, E, hE, hP⟩ : ∃ (x0 x1 x2 x3 x4 x5 E : Int), E = (if (enc c).isSome then 0 else 250) ∧ ∀ w, Calls Try.prog 16 #[.agg #[.int .u8 c.k, .int .i64 c.p, .int .i64 c.g, .int .i64 c.n, .int .u8 c.m, .int .u64 c.a, .int .u64 c.v]] w fun e w' => e = .returned (.tuple #[.agg #[.int .u64 x0, .int .u64 x1, .int .u64 x2, .int .u64 x3, .int .u64 x4, .int .u64 x5], .int .i64 E]) ∧ Below w.heap.size w w' := by
    cases h : enc c with
    | none => exact ⟨0, 0, 0, 0, 0, 0, 250, rfl, fun w => by have := encode_any c w hk ha hv; rw [h] at this; exact this⟩
    | some r =>
      obtain ⟨x0, x1, x2, x3, x4, x5, rfl⟩ := enc_form h
      exact ⟨x0, x1, x2, x3, x4, x5, 0, rfl, fun w => by have := encode_any c w hk ha hv; rw [h] at this; exact this⟩
  rw [← hE]
  have HP := Aside0.mk hP
  clear hE hP hk ha hv
  have HB0 := Aside0.mk (below_alloc (Below.refl w.heap.size w) (.cells #[.int .u8 c.k, .int .i64 c.p, .int .i64 c.g, .int .i64 c.n, .int .u8 c.m, .int .u64 c.a, .int .u64 c.v] 26))
  have HC0 : Aside0 (Bl (w.alloc (.cells #[.int .u8 c.k, .int .i64 c.p, .int .i64 c.g, .int .i64 c.n, .int .u8 c.m, .int .u64 c.a, .int .u64 c.v] 26)) w.heap.size 26 c.cells) := ⟨heap_alloc_new w _⟩
  obtain ⟨q0, q1, q2, q3, q4, q5, q6⟩ := HC0.out.cells7
  go_enter Try.func18, Try.ntmps18
  go_wp2_with fail
  refine (HP.out _).mono ?_
  rintro e w1 ⟨rfl, hb⟩
  have HB1 := Aside0.mk (below_alloc (below_step HB0.out hb) (.cells #[.int .u64 x0, .int .u64 x1, .int .u64 x2, .int .u64 x3, .int .u64 x4, .int .u64 x5] 24))
  clear hb HB0 HC0 q0 q1 q2 q3 q4 q5 q6
  go_wp2_with fail
  go_ret
  exact ⟨rfl, HB1.out⟩
/-- What Encode answers. -/
theorem enc_pack (c : C7) (hk : 0 ≤ c.k) (ha : 0 ≤ c.a) (hv : 0 ≤ c.v) : ∃ (x0 x1 x2 x3 x4 x5 E : Int),
    (∀ w, Calls Try.prog 16 #[.agg #[.int .u8 c.k, .int .i64 c.p, .int .i64 c.g, .int .i64 c.n, .int .u8 c.m, .int .u64 c.a, .int .u64 c.v]] w fun e w' => e = .returned (.tuple #[.agg #[.int .u64 x0, .int .u64 x1, .int .u64 x2, .int .u64 x3, .int .u64 x4, .int .u64 x5], .int .i64 E]) ∧ Below w.heap.size w w') ∧
    (E = 250 ∨ (E = 0 ∧ (∀ w, Calls Try.prog 9 #[.agg #[.int .u64 x0, .int .u64 x1, .int .u64 x2, .int .u64 x3, .int .u64 x4, .int .u64 x5]] w fun e w' => e = .returned (.tuple #[.agg #[.int .u8 c.k, .int .i64 c.p, .int .i64 c.g, .int .i64 c.n, .int .u8 c.m, .int .u64 c.a, .int .u64 c.v], .int .i64 0]) ∧ Below w.heap.size w w') ∧
      (∀ w, Calls Try.prog 18 #[.agg #[.int .u8 c.k, .int .i64 c.p, .int .i64 c.g, .int .i64 c.n, .int .u8 c.m, .int .u64 c.a, .int .u64 c.v]] w fun e w' => e = .returned (.int .i64 0) ∧ Below w.heap.size w w') ∧ enc c = some (raw x0 x1 x2 x3 x4 x5) ∧ dec x0 x1 x2 x3 x4 x5 = some c)) := by
  cases h : enc c with
  | none => exact ⟨0, 0, 0, 0, 0, 0, 250, fun w => by have := encode_any c w hk ha hv; rw [h] at this; exact this, .inl rfl⟩
  | some r =>
    obtain ⟨x1, x2, x3, x4, x5, rfl, hd, h1, h2, h3, h4, h5⟩ := enc_dec h ha hv
    refine ⟨c.k, x1, x2, x3, x4, x5, 0, fun w => by have := encode_any c w hk ha hv; rw [h] at this; exact this, .inr ⟨rfl, fun w => ?_, fun w => ?_, rfl, hd⟩⟩
    · have := decode_any c.k x1 x2 x3 x4 x5 w hk h1 h2 h3 h4 h5
      rw [hd] at this
      exact this
    · have := check_any c w hk ha hv
      rw [h] at this
      exact this
/-- What Decode answers. -/
theorem dec_pack (x0 x1 x2 x3 x4 x5 : Int) (h0 : 0 ≤ x0) (h1 : 0 ≤ x1) (h2 : 0 ≤ x2) (h3 : 0 ≤ x3) (h4 : 0 ≤ x4) (h5 : 0 ≤ x5) : ∃ (c : C7) (E : Int),
    (∀ w, Calls Try.prog 9 #[.agg #[.int .u64 x0, .int .u64 x1, .int .u64 x2, .int .u64 x3, .int .u64 x4, .int .u64 x5]] w fun e w' => e = .returned (.tuple #[.agg #[.int .u8 c.k, .int .i64 c.p, .int .i64 c.g, .int .i64 c.n, .int .u8 c.m, .int .u64 c.a, .int .u64 c.v], .int .i64 E]) ∧ Below w.heap.size w w') ∧
    ((E = 250 ∧ c = c0) ∨ (E = 0 ∧ (∀ w, Calls Try.prog 16 #[.agg #[.int .u8 c.k, .int .i64 c.p, .int .i64 c.g, .int .i64 c.n, .int .u8 c.m, .int .u64 c.a, .int .u64 c.v]] w fun e w' => e = .returned (.tuple #[.agg #[.int .u64 x0, .int .u64 x1, .int .u64 x2, .int .u64 x3, .int .u64 x4, .int .u64 x5], .int .i64 0]) ∧ Below w.heap.size w w') ∧
      (∀ w, Calls Try.prog 18 #[.agg #[.int .u8 c.k, .int .i64 c.p, .int .i64 c.g, .int .i64 c.n, .int .u8 c.m, .int .u64 c.a, .int .u64 c.v]] w fun e w' => e = .returned (.int .i64 0) ∧ Below w.heap.size w w'))) := by
  cases h : dec x0 x1 x2 x3 x4 x5 with
  | none => exact ⟨c0, 250, fun w => by have := decode_any x0 x1 x2 x3 x4 x5 w h0 h1 h2 h3 h4 h5; rw [h] at this; exact this, .inl ⟨rfl, rfl⟩⟩
  | some c =>
    obtain ⟨he, hk, ha, hv⟩ := dec_enc h0 h1 h2 h3 h4 h5 h
    refine ⟨c, 0, fun w => by have := decode_any x0 x1 x2 x3 x4 x5 w h0 h1 h2 h3 h4 h5; rw [h] at this; exact this, .inr ⟨rfl, fun w => ?_, fun w => ?_⟩⟩
    · have := encode_any c w (by omega) ha hv
      rw [he] at this
      exact this
    · have := check_any c w (by omega) ha hv
      rw [he] at this
      exact this
theorem eq6_iff {x0 x1 x2 x3 x4 x5 y0 y1 y2 y3 y4 y5 : Int} : eq6 x0 y0 x1 y1 x2 y2 x3 y3 x4 y4 x5 y5 = true ↔ (x0 = y0 ∧ x1 = y1 ∧ x2 = y2 ∧ x3 = y3 ∧ x4 = y4 ∧ x5 = y5) := by
  simp [eq6]
/-- Two calls have other words. -/
theorem pack_eq {c d : C7} {x0 x1 x2 x3 x4 x5 y0 y1 y2 y3 y4 y5 : Int} (h1 : enc c = some (raw x0 x1 x2 x3 x4 x5)) (h2 : enc d = some (raw y0 y1 y2 y3 y4 y5)) (g1 : dec x0 x1 x2 x3 x4 x5 = some c) (g2 : dec y0 y1 y2 y3 y4 y5 = some d) :
    ∃ b : Bool, eq6 x0 y0 x1 y1 x2 y2 x3 y3 x4 y4 x5 y5 = b ∧ eq7 c.k d.k c.p d.p c.g d.g c.n d.n c.m d.m c.a d.a c.v d.v = b := by
  by_cases hcd : c = d
  · refine ⟨true, ?_, c7_eq.1 hcd⟩
    subst hcd
    rw [h1] at h2
    exact eq6_iff.2 (raw_inj (Option.some.inj h2))
  · refine ⟨false, ?_, c7_ne.1 hcd⟩
    cases he : eq6 x0 y0 x1 y1 x2 y2 x3 y3 x4 y4 x5 y5 with
    | false => rfl
    | true =>
      obtain ⟨rfl, rfl, rfl, rfl, rfl, rfl⟩ := eq6_iff.1 he
      rw [g1] at g2
      exact absurd (Option.some.inj g2) hcd
end Go.Proofs.Ytklnenaiolclaaa.H
