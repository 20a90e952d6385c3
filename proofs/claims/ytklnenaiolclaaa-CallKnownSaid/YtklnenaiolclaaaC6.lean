/- Contract of the laws' works(). -/
import Derived.Test.YtklnenaiolclaaaC5
import Derived.Test.YtklnenaiolclaaaC4
import Derived.ChangeKeysEq
namespace Go.Proofs.Ytklnenaiolclaaa.H
open Go.RowKit Go.Proofs.YtklnenaiolclaaaW.PrintWords Go.Proofs.YtklnenaiolclaaaW.PrintLast Go.Proofs.YtklnenaiolclaaaW.PrintMore
set_option linter.unusedVariables false
set_option linter.unusedSimpArgs false
def eq6 (x0 y0 x1 y1 x2 y2 x3 y3 x4 y4 x5 y5 : Int) : Bool := x0 == y0 && (x1 == y1 && (x2 == y2 && (x3 == y3 && (x4 == y4 && x5 == y5))))
theorem p22 (cs : Array Value) (i : Nat) (v : Value) (w : World) (h : cs[i]? = some v) : (part 22 cs i).run Try.prog w = .ok v w := run_part_plain w (by kernel_rfl) h
theorem s22 (w : World) : (sizeOf 22).run Try.prog w = .ok 1 w := by kernel_rfl
set_option maxHeartbeats 1000000 in
theorem eqB24 (d : Nat) (w : World) (x0 y0 x1 y1 x2 y2 x3 y3 x4 y4 x5 y5 : Int) : (Op.equalIn (d + 2) 24 (.agg #[.int .u64 x0, .int .u64 x1, .int .u64 x2, .int .u64 x3, .int .u64 x4, .int .u64 x5]) (.agg #[.int .u64 y0, .int .u64 y1, .int .u64 y2, .int .u64 y3, .int .u64 y4, .int .u64 y5])).run Try.prog w = .ok (eq6 x0 y0 x1 y1 x2 y2 x3 y3 x4 y4 x5 y5) w := by
  have he := fun x y : Int => run_equalIn_int (P := Try.prog) w d 22 .u64 .u64 x y Try.underlying22
  have hp := fun cs i v h => p22 cs i v w h
  have hs := s22 w
  unfold eq6
  rw [Op.equalIn]
  simp only [Sem.run_bind, run_underlying Try.underlying24, Result.andThen_ok, hs, Std.Legacy.Range.forIn_eq_forIn_range']
  rw [show List.range' 0 [:6].size = [0, 1, 2, 3, 4, 5] from rfl]
  have a0 := hp #[.int .u64 x0, .int .u64 x1, .int .u64 x2, .int .u64 x3, .int .u64 x4, .int .u64 x5] (0 * 1) (.int .u64 x0) rfl
  have b0 := hp #[.int .u64 y0, .int .u64 y1, .int .u64 y2, .int .u64 y3, .int .u64 y4, .int .u64 y5] (0 * 1) (.int .u64 y0) rfl
  have a1 := hp #[.int .u64 x0, .int .u64 x1, .int .u64 x2, .int .u64 x3, .int .u64 x4, .int .u64 x5] (1 * 1) (.int .u64 x1) rfl
  have b1 := hp #[.int .u64 y0, .int .u64 y1, .int .u64 y2, .int .u64 y3, .int .u64 y4, .int .u64 y5] (1 * 1) (.int .u64 y1) rfl
  have a2 := hp #[.int .u64 x0, .int .u64 x1, .int .u64 x2, .int .u64 x3, .int .u64 x4, .int .u64 x5] (2 * 1) (.int .u64 x2) rfl
  have b2 := hp #[.int .u64 y0, .int .u64 y1, .int .u64 y2, .int .u64 y3, .int .u64 y4, .int .u64 y5] (2 * 1) (.int .u64 y2) rfl
  have a3 := hp #[.int .u64 x0, .int .u64 x1, .int .u64 x2, .int .u64 x3, .int .u64 x4, .int .u64 x5] (3 * 1) (.int .u64 x3) rfl
  have b3 := hp #[.int .u64 y0, .int .u64 y1, .int .u64 y2, .int .u64 y3, .int .u64 y4, .int .u64 y5] (3 * 1) (.int .u64 y3) rfl
  have a4 := hp #[.int .u64 x0, .int .u64 x1, .int .u64 x2, .int .u64 x3, .int .u64 x4, .int .u64 x5] (4 * 1) (.int .u64 x4) rfl
  have b4 := hp #[.int .u64 y0, .int .u64 y1, .int .u64 y2, .int .u64 y3, .int .u64 y4, .int .u64 y5] (4 * 1) (.int .u64 y4) rfl
  have a5 := hp #[.int .u64 x0, .int .u64 x1, .int .u64 x2, .int .u64 x3, .int .u64 x4, .int .u64 x5] (5 * 1) (.int .u64 x5) rfl
  have b5 := hp #[.int .u64 y0, .int .u64 y1, .int .u64 y2, .int .u64 y3, .int .u64 y4, .int .u64 y5] (5 * 1) (.int .u64 y5) rfl
  clear hp hs
  have e0 := he x0 y0
  have e1 := he x1 y1
  have e2 := he x2 y2
  have e3 := he x3 y3
  have e4 := he x4 y4
  have e5 := he x5 y5
  clear he
  generalize (x0 == y0) = c0 at e0 ⊢
  generalize (x1 == y1) = c1 at e1 ⊢
  generalize (x2 == y2) = c2 at e2 ⊢
  generalize (x3 == y3) = c3 at e3 ⊢
  generalize (x4 == y4) = c4 at e4 ⊢
  generalize (x5 == y5) = c5 at e5 ⊢
  cases c0
  · simp [Sem.run_bind, Result.andThen_ok, a0, a1, a2, a3, a4, a5, b0, b1, b2, b3, b4, b5, e0, e1, e2, e3, e4, e5]
  cases c1
  · simp [Sem.run_bind, Result.andThen_ok, a0, a1, a2, a3, a4, a5, b0, b1, b2, b3, b4, b5, e0, e1, e2, e3, e4, e5]
  cases c2
  · simp [Sem.run_bind, Result.andThen_ok, a0, a1, a2, a3, a4, a5, b0, b1, b2, b3, b4, b5, e0, e1, e2, e3, e4, e5]
  cases c3
  · simp [Sem.run_bind, Result.andThen_ok, a0, a1, a2, a3, a4, a5, b0, b1, b2, b3, b4, b5, e0, e1, e2, e3, e4, e5]
  cases c4
  · simp [Sem.run_bind, Result.andThen_ok, a0, a1, a2, a3, a4, a5, b0, b1, b2, b3, b4, b5, e0, e1, e2, e3, e4, e5]
  cases c5
  · simp [Sem.run_bind, Result.andThen_ok, a0, a1, a2, a3, a4, a5, b0, b1, b2, b3, b4, b5, e0, e1, e2, e3, e4, e5]
  simp [Sem.run_bind, Result.andThen_ok, a0, a1, a2, a3, a4, a5, b0, b1, b2, b3, b4, b5, e0, e1, e2, e3, e4, e5]
attribute [local go_sem high] eqB26 eqB24
set_option maxHeartbeats 8000000
set_option maxRecDepth 100000
def cW : C7 := ⟨4, 3, 9, 2, 3, 0, 0⟩
theorem enc_cW : enc cW = some (raw 4 3 9 2 3 0) := by kernel_rfl
theorem dec_cW : dec 4 3 9 2 3 0 = some cW := by decide
theorem dec_no : dec 4 3 9 2 3 1 = none := by decide
theorem kof_fork : kof [102, 111, 114, 107] = some 3 := by decide
theorem name_nine : nameOf 9 = ⟨#[115, 116, 111, 114, 101]⟩ := by rfl
theorem enc_w (w : World) : Calls Try.prog 16 #[.agg #[.int .u8 4, .int .i64 3, .int .i64 9, .int .i64 2, .int .u8 3, .int .u64 0, .int .u64 0]] w fun e w' => e = .returned (.tuple #[.agg #[.int .u64 4, .int .u64 3, .int .u64 9, .int .u64 2, .int .u64 3, .int .u64 0], .int .i64 0]) ∧ Below w.heap.size w w' := by
  have h := encode_any cW w (by decide) (by decide) (by decide)
  rw [enc_cW] at h
  exact h
theorem dec_w (w : World) : Calls Try.prog 9 #[.agg #[.int .u64 4, .int .u64 3, .int .u64 9, .int .u64 2, .int .u64 3, .int .u64 0]] w fun e w' => e = .returned (.tuple #[.agg #[.int .u8 4, .int .i64 3, .int .i64 9, .int .i64 2, .int .u8 3, .int .u64 0, .int .u64 0], .int .i64 0]) ∧ Below w.heap.size w w' := by
  have h := decode_any 4 3 9 2 3 0 w (by decide) (by decide) (by decide) (by decide) (by decide) (by decide)
  rw [dec_cW] at h
  exact h
theorem dec_v (w : World) : Calls Try.prog 9 #[.agg #[.int .u64 4, .int .u64 3, .int .u64 9, .int .u64 2, .int .u64 3, .int .u64 1]] w fun e w' => e = .returned (.tuple #[.agg #[.int .u8 0, .int .i64 0, .int .i64 0, .int .i64 0, .int .u8 0, .int .u64 0, .int .u64 0], .int .i64 250]) ∧ Below w.heap.size w w' := by
  have h := decode_any 4 3 9 2 3 1 w (by decide) (by decide) (by decide) (by decide) (by decide) (by decide)
  rw [dec_no] at h
  exact h
theorem kind_w (w : World) : Calls Try.prog 12 #[.string ⟨#[102, 111, 114, 107]⟩] w fun e w' => e = .returned (.tuple #[.int .u8 3, .bool true]) ∧ Below w.heap.size w w' := by
  have h := kind_any ⟨#[102, 111, 114, 107]⟩ w (by decide)
  have h2 : kof (⟨#[102, 111, 114, 107]⟩ : ByteArray).data.toList = some 3 := kof_fork
  rw [h2] at h
  exact h
theorem name_w (w : World) : Calls Try.prog 14 #[.int .u8 9] w fun e w' => e = .returned (.string ⟨#[115, 116, 111, 114, 101]⟩) ∧ Below w.heap.size w w' := by
  have h := name_any 9 w
  rw [name_nine] at h
  exact h
theorem eq7_same : eq7 4 4 3 3 9 9 2 2 3 3 0 0 0 0 = true := by decide
theorem works_any (w : World) : Calls Try.prog 11 #[] w fun e w' => e = .returned (.bool true) ∧ Below w.heap.size w w' := by
  have HB0 := Aside0.mk (below_alloc (Below.refl w.heap.size w) (.cells cW.cells 26))
  have HC0 : Aside0 (Bl (w.alloc (.cells cW.cells 26)) w.heap.size 26 cW.cells) := ⟨heap_alloc_new w _⟩
  unfold cW C7.cells at HB0 HC0
  go_enter Try.func11, Try.ntmps11
  go_wp2_with fail
  refine (enc_w _).mono ?_
  rintro e w1 ⟨rfl, hb⟩
  have hba := below_alloc hb (.cells #[.int .u64 4, .int .u64 3, .int .u64 9, .int .u64 2, .int .u64 3, .int .u64 0] 24)
  have HB1 := Aside0.mk (below_step HB0.out hba)
  have HC1 : Aside0 (Bl (w1.alloc (.cells #[.int .u64 4, .int .u64 3, .int .u64 9, .int .u64 2, .int .u64 3, .int .u64 0] 24)) w.heap.size 26 cW.cells) := ⟨HC0.out.later hba⟩
  have HR1 : Aside0 (Bl (w1.alloc (.cells #[.int .u64 4, .int .u64 3, .int .u64 9, .int .u64 2, .int .u64 3, .int .u64 0] 24)) w1.heap.size 24 (raw 4 3 9 2 3 0)) := ⟨heap_alloc_new w1 _⟩
  clear hb hba HB0 HC0
  obtain ⟨p0, p1, p2, p3, p4, p5⟩ := HR1.out.cells6
  go_wp2_with fail
  refine (dec_w _).mono ?_
  rintro e w2 ⟨rfl, hb⟩
  have hba := below_alloc hb (.cells #[.int .u8 4, .int .i64 3, .int .i64 9, .int .i64 2, .int .u8 3, .int .u64 0, .int .u64 0] 26)
  have HB2 := Aside0.mk (below_step HB1.out hba)
  have HC2 : Aside0 (Bl (w2.alloc (.cells #[.int .u8 4, .int .i64 3, .int .i64 9, .int .i64 2, .int .u8 3, .int .u64 0, .int .u64 0] 26)) w.heap.size 26 cW.cells) := ⟨HC1.out.later hba⟩
  have HR2 : Aside0 (Bl (w2.alloc (.cells #[.int .u8 4, .int .i64 3, .int .i64 9, .int .i64 2, .int .u8 3, .int .u64 0, .int .u64 0] 26)) w1.heap.size 24 (raw 4 3 9 2 3 0)) := ⟨HR1.out.later hba⟩
  have HD2 : Aside0 (Bl (w2.alloc (.cells #[.int .u8 4, .int .i64 3, .int .i64 9, .int .i64 2, .int .u8 3, .int .u64 0, .int .u64 0] 26)) w2.heap.size 26 cW.cells) := ⟨heap_alloc_new w2 _⟩
  clear hb hba HB1 HC1 HR1 p0 p1 p2 p3 p4 p5
  generalize w1.heap.size = g1 at HR2 ⊢
  go_wp2_with fail
  refine (dec_v _).mono ?_
  rintro e w3 ⟨rfl, hb⟩
  have hba := below_alloc hb (.cells #[.int .u8 0, .int .i64 0, .int .i64 0, .int .i64 0, .int .u8 0, .int .u64 0, .int .u64 0] 26)
  have HB3 := Aside0.mk (below_step HB2.out hba)
  have HC3 := Aside0.mk (HC2.out.later hba)
  have HR3 := Aside0.mk (HR2.out.later hba)
  have HD3 := Aside0.mk (HD2.out.later hba)
  clear hb hba HB2 HC2 HR2 HD2
  generalize w2.heap.size = g2 at HD3 ⊢
  go_wp2_with fail
  refine (kind_w _).mono ?_
  rintro e w4 ⟨rfl, hb⟩
  have HB4 := Aside0.mk (below_step HB3.out hb)
  have HC4 := Aside0.mk (HC3.out.later hb)
  have HR4 := Aside0.mk (HR3.out.later hb)
  have HD4 := Aside0.mk (HD3.out.later hb)
  clear hb HB3 HC3 HR3 HD3
  obtain ⟨p0, p1, p2, p3, p4, p5⟩ := HR4.out.cells6
  obtain ⟨q0, q1, q2, q3, q4, q5, q6⟩ := HC4.out.cells7
  obtain ⟨d0, d1, d2, d3, d4, d5, d6⟩ := HD4.out.cells7
  simp only [cW] at q0 q1 q2 q3 q4 q5 q6 d0 d1 d2 d3 d4 d5 d6
  have hsame := eq7_same
  have hsix : eq6 4 4 3 3 9 9 2 2 3 3 0 0 = true := by decide
  go_wp2_with fail
  refine (name_w _).mono ?_
  rintro e w5 ⟨rfl, hb⟩
  have HB5 := Aside0.mk (below_step HB4.out hb)
  clear hb HB4 HC4 HR4 HD4 p0 p1 p2 p3 p4 p5 q0 q1 q2 q3 q4 q5 q6 d0 d1 d2 d3 d4 d5 d6
  go_wp2_with fail
  go_ret
  exact ⟨rfl, HB5.out⟩
end Go.Proofs.Ytklnenaiolclaaa.H
