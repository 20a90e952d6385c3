/- The law CallReads by its contracts. -/
import Derived.Test.YtklnenaiolclaaaC6
namespace Go.Proofs.Ytklnenaiolclaaa.H
open Go.RowKit Go.Proofs.YtklnenaiolclaaaW.PrintWords Go.Proofs.YtklnenaiolclaaaW.PrintLast Go.Proofs.YtklnenaiolclaaaW.PrintMore
set_option linter.unusedVariables false
set_option linter.unusedSimpArgs false
attribute [local go_sem high] eqB26 eqB24
set_option maxHeartbeats 8000000
set_option maxRecDepth 100000
theorem u64_lo {n : Int} (h : (Lit.int .u64 n).wf = true) : 0 ≤ n := by
  simp [Lit.wf, IntKind.min, IntKind.max, IntKind.signed, IntKind.bits] at h
  omega
theorem eq7_refl (d : C7) : eq7 d.k d.k d.p d.p d.g d.g d.n d.n d.m d.m d.a d.a d.v d.v = true := c7_eq.1 rfl
theorem decodes (x0 x1 x2 x3 x4 x5 : Int) (h0 : 0 ≤ x0) (h1 : 0 ≤ x1) (h2 : 0 ≤ x2) (h3 : 0 ≤ x3) (h4 : 0 ≤ x4) (h5 : 0 ≤ x5) : ∃ (d : C7) (E : Int),
    (∀ w, Calls Try.prog 9 #[.agg #[.int .u64 x0, .int .u64 x1, .int .u64 x2, .int .u64 x3, .int .u64 x4, .int .u64 x5]] w fun e w' => e = .returned (.tuple #[.agg #[.int .u8 d.k, .int .i64 d.p, .int .i64 d.g, .int .i64 d.n, .int .u8 d.m, .int .u64 d.a, .int .u64 d.v], .int .i64 E]) ∧ Below w.heap.size w w') ∧
    (∀ w, Calls Try.prog 10 #[.agg #[.int .u64 x0, .int .u64 x1, .int .u64 x2, .int .u64 x3, .int .u64 x4, .int .u64 x5]] w fun e w' => e = .returned (.tuple #[.agg #[.int .u8 d.k, .int .i64 d.p, .int .i64 d.g, .int .i64 d.n, .int .u8 d.m, .int .u64 d.a, .int .u64 d.v], .int .i64 E]) ∧ Below w.heap.size w w') :=
  ⟨(dec x0 x1 x2 x3 x4 x5).getD c0, if (dec x0 x1 x2 x3 x4 x5).isSome then 0 else 250, fun w => decode_any x0 x1 x2 x3 x4 x5 w h0 h1 h2 h3 h4 h5, fun w => rdecode_any x0 x1 x2 x3 x4 x5 w h0 h1 h2 h3 h4 h5⟩
theorem reads_any (x0 x1 x2 x3 x4 x5 : Int) (w : World) (h0 : (Lit.int .u64 x0).wf = true) (h1 : (Lit.int .u64 x1).wf = true) (h2 : (Lit.int .u64 x2).wf = true) (h3 : (Lit.int .u64 x3).wf = true) (h4 : (Lit.int .u64 x4).wf = true) (h5 : (Lit.int .u64 x5).wf = true) :
    Calls Try.prog 3 #[.agg #[.int .u64 x0, .int .u64 x1, .int .u64 x2, .int .u64 x3, .int .u64 x4, .int .u64 x5]] w fun e w' => e = .returned (.bool true) ∧ Below w.heap.size w w' := by
  obtain ⟨d, E, hp9, hp10⟩ := decodes x0 x1 x2 x3 x4 x5 (u64_lo h0) (u64_lo h1) (u64_lo h2) (u64_lo h3) (u64_lo h4) (u64_lo h5)
  have H9 := Aside0.mk hp9
  have H10 := Aside0.mk hp10
  clear h0 h1 h2 h3 h4 h5 hp9 hp10
  have HB0 := Aside0.mk (below_alloc (Below.refl w.heap.size w) (.cells #[.int .u64 x0, .int .u64 x1, .int .u64 x2, .int .u64 x3, .int .u64 x4, .int .u64 x5] 24))
  have HR0 : Aside0 (Bl (w.alloc (.cells #[.int .u64 x0, .int .u64 x1, .int .u64 x2, .int .u64 x3, .int .u64 x4, .int .u64 x5] 24)) w.heap.size 24 (raw x0 x1 x2 x3 x4 x5)) := ⟨heap_alloc_new w _⟩
  obtain ⟨p0, p1, p2, p3, p4, p5⟩ := HR0.out.cells6
  go_enter Try.func3, Try.ntmps3
  go_wp2_with fail
  refine (H9.out _).mono ?_
  rintro e w1 ⟨rfl, hb⟩
  have hba := below_alloc hb (.cells #[.int .u8 d.k, .int .i64 d.p, .int .i64 d.g, .int .i64 d.n, .int .u8 d.m, .int .u64 d.a, .int .u64 d.v] 26)
  have HB1 := Aside0.mk (below_step HB0.out hba)
  have HR1 := Aside0.mk (HR0.out.later hba)
  have HD1 : Aside0 (Bl (w1.alloc (.cells #[.int .u8 d.k, .int .i64 d.p, .int .i64 d.g, .int .i64 d.n, .int .u8 d.m, .int .u64 d.a, .int .u64 d.v] 26)) w1.heap.size 26 d.cells) := ⟨heap_alloc_new w1 _⟩
  clear hb hba HB0 HR0 p0 p1 p2 p3 p4 p5
  obtain ⟨p0, p1, p2, p3, p4, p5⟩ := HR1.out.cells6
  go_wp2_with fail
  refine (H10.out _).mono ?_
  rintro e w2 ⟨rfl, hb⟩
  have hba := below_alloc hb (.cells #[.int .u8 d.k, .int .i64 d.p, .int .i64 d.g, .int .i64 d.n, .int .u8 d.m, .int .u64 d.a, .int .u64 d.v] 26)
  have HB2 := Aside0.mk (below_step HB1.out hba)
  have HD2 := Aside0.mk (HD1.out.later hba)
  have HE2 : Aside0 (Bl (w2.alloc (.cells #[.int .u8 d.k, .int .i64 d.p, .int .i64 d.g, .int .i64 d.n, .int .u8 d.m, .int .u64 d.a, .int .u64 d.v] 26)) w2.heap.size 26 d.cells) := ⟨heap_alloc_new w2 _⟩
  clear hb hba HB1 HR1 HD1 p0 p1 p2 p3 p4 p5
  generalize w1.heap.size = g1 at HD2 ⊢
  obtain ⟨q0, q1, q2, q3, q4, q5, q6⟩ := HD2.out.cells7
  obtain ⟨d0, d1, d2, d3, d4, d5, d6⟩ := HE2.out.cells7
  have hsame := eq7_refl d
  go_wp2_with fail
  refine (works_any _).mono ?_
  rintro e w3 ⟨rfl, hb⟩
  have HB3 := Aside0.mk (below_step HB2.out hb)
  clear hb HB2 HD2 HE2 q0 q1 q2 q3 q4 q5 q6 d0 d1 d2 d3 d4 d5 d6
  go_wp2_with fail
  go_ret
  exact ⟨rfl, HB3.out⟩
end Go.Proofs.Ytklnenaiolclaaa.H
