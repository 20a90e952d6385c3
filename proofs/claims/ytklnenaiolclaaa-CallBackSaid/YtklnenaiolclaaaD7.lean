/- The law CallBack by its contracts. -/
import Derived.Test.YtklnenaiolclaaaC9
namespace Go.Proofs.Ytklnenaiolclaaa.H
open Go.RowKit Go.Proofs.YtklnenaiolclaaaW.PrintWords Go.Proofs.YtklnenaiolclaaaW.PrintLast Go.Proofs.YtklnenaiolclaaaW.PrintMore
set_option linter.unusedVariables false
set_option linter.unusedSimpArgs false
attribute [local go_sem high] eqB26 eqB24
set_option maxHeartbeats 8000000
set_option maxRecDepth 100000
theorem u64_lo2 {n : Int} (h : (Lit.int .u64 n).wf = true) : 0 ≤ n := by
  simp [Lit.wf, IntKind.min, IntKind.max, IntKind.signed, IntKind.bits] at h
  omega
theorem u8_lo2 {n : Int} (h : (Lit.int .u8 n).wf = true) : 0 ≤ n := by
  simp [Lit.wf, IntKind.min, IntKind.max, IntKind.signed, IntKind.bits] at h
  omega
theorem back_c (c d : C7) (x0 x1 x2 x3 x4 x5 : Int) (w : World) (ck : 0 ≤ c.k) (ca : 0 ≤ c.a) (cv : 0 ≤ c.v) (dk : 0 ≤ d.k) (da : 0 ≤ d.a) (dv : 0 ≤ d.v) (h0 : 0 ≤ x0) (h1 : 0 ≤ x1) (h2 : 0 ≤ x2) (h3 : 0 ≤ x3) (h4 : 0 ≤ x4) (h5 : 0 ≤ x5) :
    Calls Try.prog 7 #[.agg #[.int .u8 c.k, .int .i64 c.p, .int .i64 c.g, .int .i64 c.n, .int .u8 c.m, .int .u64 c.a, .int .u64 c.v], .agg #[.int .u8 d.k, .int .i64 d.p, .int .i64 d.g, .int .i64 d.n, .int .u8 d.m, .int .u64 d.a, .int .u64 d.v], .agg #[.int .u64 x0, .int .u64 x1, .int .u64 x2, .int .u64 x3, .int .u64 x4, .int .u64 x5]] w fun e w' => e = .returned (.bool true) ∧ Below w.heap.size w w' := by
  obtain ⟨a0, a1, a2, a3, a4, a5, E, hA, hAE⟩ := enc_pack c ck ca cv
  obtain ⟨b0, b1, b2, b3, b4, b5, G, hB, hBE⟩ := enc_pack d dk da dv
  obtain ⟨x, X, hX, hXE⟩ := dec_pack x0 x1 x2 x3 x4 x5 h0 h1 h2 h3 h4 h5
  have KA := Aside0.mk hA
  have KB := Aside0.mk hB
  have KX := Aside0.mk hX
  have KAE := Aside0.mk hAE
  have KBE := Aside0.mk hBE
  have KXE := Aside0.mk hXE
  clear hA hB hX hAE hBE hXE ck ca cv dk da dv h0 h1 h2 h3 h4 h5
  have HB0 := Aside0.mk (below_alloc (below_alloc (below_alloc (Below.refl w.heap.size w) (.cells #[.int .u8 c.k, .int .i64 c.p, .int .i64 c.g, .int .i64 c.n, .int .u8 c.m, .int .u64 c.a, .int .u64 c.v] 26)) (.cells #[.int .u8 d.k, .int .i64 d.p, .int .i64 d.g, .int .i64 d.n, .int .u8 d.m, .int .u64 d.a, .int .u64 d.v] 26)) (.cells #[.int .u64 x0, .int .u64 x1, .int .u64 x2, .int .u64 x3, .int .u64 x4, .int .u64 x5] 24))
  have HC0 : Aside0 (Bl (((w.alloc (.cells #[.int .u8 c.k, .int .i64 c.p, .int .i64 c.g, .int .i64 c.n, .int .u8 c.m, .int .u64 c.a, .int .u64 c.v] 26)).alloc (.cells #[.int .u8 d.k, .int .i64 d.p, .int .i64 d.g, .int .i64 d.n, .int .u8 d.m, .int .u64 d.a, .int .u64 d.v] 26)).alloc (.cells #[.int .u64 x0, .int .u64 x1, .int .u64 x2, .int .u64 x3, .int .u64 x4, .int .u64 x5] 24)) w.heap.size 26 c.cells) := ⟨((show Bl (w.alloc (.cells #[.int .u8 c.k, .int .i64 c.p, .int .i64 c.g, .int .i64 c.n, .int .u8 c.m, .int .u64 c.a, .int .u64 c.v] 26)) w.heap.size 26 c.cells from heap_alloc_new w _).later (below_alloc (Below.refl _ _) (.cells #[.int .u8 d.k, .int .i64 d.p, .int .i64 d.g, .int .i64 d.n, .int .u8 d.m, .int .u64 d.a, .int .u64 d.v] 26))).later (below_alloc (Below.refl _ _) (.cells #[.int .u64 x0, .int .u64 x1, .int .u64 x2, .int .u64 x3, .int .u64 x4, .int .u64 x5] 24))⟩
  have HD0 : Aside0 (Bl (((w.alloc (.cells #[.int .u8 c.k, .int .i64 c.p, .int .i64 c.g, .int .i64 c.n, .int .u8 c.m, .int .u64 c.a, .int .u64 c.v] 26)).alloc (.cells #[.int .u8 d.k, .int .i64 d.p, .int .i64 d.g, .int .i64 d.n, .int .u8 d.m, .int .u64 d.a, .int .u64 d.v] 26)).alloc (.cells #[.int .u64 x0, .int .u64 x1, .int .u64 x2, .int .u64 x3, .int .u64 x4, .int .u64 x5] 24)) (w.heap.size + 1) 26 d.cells) := ⟨(show Bl ((w.alloc (.cells #[.int .u8 c.k, .int .i64 c.p, .int .i64 c.g, .int .i64 c.n, .int .u8 c.m, .int .u64 c.a, .int .u64 c.v] 26)).alloc (.cells #[.int .u8 d.k, .int .i64 d.p, .int .i64 d.g, .int .i64 d.n, .int .u8 d.m, .int .u64 d.a, .int .u64 d.v] 26)) (w.heap.size + 1) 26 d.cells by have := heap_alloc_new (w.alloc (.cells #[.int .u8 c.k, .int .i64 c.p, .int .i64 c.g, .int .i64 c.n, .int .u8 c.m, .int .u64 c.a, .int .u64 c.v] 26)) (.cells #[.int .u8 d.k, .int .i64 d.p, .int .i64 d.g, .int .i64 d.n, .int .u8 d.m, .int .u64 d.a, .int .u64 d.v] 26); simpa [Bl, C7.cells] using this).later (below_alloc (Below.refl _ _) (.cells #[.int .u64 x0, .int .u64 x1, .int .u64 x2, .int .u64 x3, .int .u64 x4, .int .u64 x5] 24))⟩
  have HR0 : Aside0 (Bl (((w.alloc (.cells #[.int .u8 c.k, .int .i64 c.p, .int .i64 c.g, .int .i64 c.n, .int .u8 c.m, .int .u64 c.a, .int .u64 c.v] 26)).alloc (.cells #[.int .u8 d.k, .int .i64 d.p, .int .i64 d.g, .int .i64 d.n, .int .u8 d.m, .int .u64 d.a, .int .u64 d.v] 26)).alloc (.cells #[.int .u64 x0, .int .u64 x1, .int .u64 x2, .int .u64 x3, .int .u64 x4, .int .u64 x5] 24)) (w.heap.size + 1 + 1) 24 (raw x0 x1 x2 x3 x4 x5)) := ⟨by have := heap_alloc_new ((w.alloc (.cells #[.int .u8 c.k, .int .i64 c.p, .int .i64 c.g, .int .i64 c.n, .int .u8 c.m, .int .u64 c.a, .int .u64 c.v] 26)).alloc (.cells #[.int .u8 d.k, .int .i64 d.p, .int .i64 d.g, .int .i64 d.n, .int .u8 d.m, .int .u64 d.a, .int .u64 d.v] 26)) (.cells #[.int .u64 x0, .int .u64 x1, .int .u64 x2, .int .u64 x3, .int .u64 x4, .int .u64 x5] 24); simpa [Bl, raw] using this⟩
  go_enter Try.func7, Try.ntmps7
  go_wp2_with fail
  refine (works_any _).mono ?_
  rintro e w1 ⟨rfl, hb⟩
  have hba := hb
  have HB1 := Aside0.mk (below_step HB0.out hba)
  have HC1 := Aside0.mk (HC0.out.later hba)
  have HD1 := Aside0.mk (HD0.out.later hba)
  have HR1 := Aside0.mk (HR0.out.later hba)
  clear hb hba HB0 HC0 HD0 HR0
  obtain ⟨q0, q1, q2, q3, q4, q5, q6⟩ := HC1.out.cells7
  go_wp2_with fail
  refine (KA.out _).mono ?_
  rintro e w2 ⟨rfl, hb⟩
  have hba := below_alloc hb (.cells #[.int .u64 a0, .int .u64 a1, .int .u64 a2, .int .u64 a3, .int .u64 a4, .int .u64 a5] 24)
  have HB2 := Aside0.mk (below_step HB1.out hba)
  have HC2 := Aside0.mk (HC1.out.later hba)
  have HD2 := Aside0.mk (HD1.out.later hba)
  have HR2 := Aside0.mk (HR1.out.later hba)
  have HA2 : Aside0 (Bl (w2.alloc (.cells #[.int .u64 a0, .int .u64 a1, .int .u64 a2, .int .u64 a3, .int .u64 a4, .int .u64 a5] 24)) w2.heap.size 24 (raw a0 a1 a2 a3 a4 a5)) := ⟨heap_alloc_new w2 _⟩
  clear hb hba HB1 HC1 HD1 HR1 q0 q1 q2 q3 q4 q5 q6
  obtain ⟨q0, q1, q2, q3, q4, q5, q6⟩ := HD2.out.cells7
  go_wp2_with fail
  refine (KB.out _).mono ?_
  rintro e w3 ⟨rfl, hb⟩
  have hba := below_alloc hb (.cells #[.int .u64 b0, .int .u64 b1, .int .u64 b2, .int .u64 b3, .int .u64 b4, .int .u64 b5] 24)
  have HB3 := Aside0.mk (below_step HB2.out hba)
  have HC3 := Aside0.mk (HC2.out.later hba)
  have HD3 := Aside0.mk (HD2.out.later hba)
  have HR3 := Aside0.mk (HR2.out.later hba)
  have HA3 := Aside0.mk (HA2.out.later hba)
  have HE3 : Aside0 (Bl (w3.alloc (.cells #[.int .u64 b0, .int .u64 b1, .int .u64 b2, .int .u64 b3, .int .u64 b4, .int .u64 b5] 24)) w3.heap.size 24 (raw b0 b1 b2 b3 b4 b5)) := ⟨heap_alloc_new w3 _⟩
  clear hb hba HB2 HC2 HD2 HR2 HA2 q0 q1 q2 q3 q4 q5 q6
  generalize w2.heap.size = ga at HA3 ⊢
  rcases KAE.out with rfl | ⟨rfl, hA9, hA18, hAe, hAd⟩
  · go_wp2_with fail
    go_quiet (fail)
    have HB9 := Aside0.mk (pw_below_drewN HB3.out nq)
    have HR9 := Aside0.mk (show Bl (World.drewN (w3.alloc (.cells #[.int .u64 b0, .int .u64 b1, .int .u64 b2, .int .u64 b3, .int .u64 b4, .int .u64 b5] 24)) nq) (w.heap.size + 1 + 1) 24 (raw x0 x1 x2 x3 x4 x5) from HR3.out)
    generalize World.drewN (w3.alloc (.cells #[.int .u64 b0, .int .u64 b1, .int .u64 b2, .int .u64 b3, .int .u64 b4, .int .u64 b5] 24)) nq = wq at HB9 HR9 ⊢
    clear HC3 HD3 HA3 HE3 HB3 HR3 KAE KBE KA KB
    rcases KXE.out with ⟨rfl, rfl⟩ | ⟨rfl, hX16, hX18⟩
    · obtain ⟨p0, p1, p2, p3, p4, p5⟩ := HR9.out.cells6
      go_wp2_with fail
      refine (KX.out _).mono ?_
      rintro e v1 ⟨rfl, hb⟩
      have hba := below_alloc hb (.cells #[.int .u8 0, .int .i64 0, .int .i64 0, .int .i64 0, .int .u8 0, .int .u64 0, .int .u64 0] 26)
      have HBv := Aside0.mk (below_step HB9.out hba)
      have HXv : Aside0 (Bl (v1.alloc (.cells #[.int .u8 0, .int .i64 0, .int .i64 0, .int .i64 0, .int .u8 0, .int .u64 0, .int .u64 0] 26)) v1.heap.size 26 c0.cells) := ⟨heap_alloc_new v1 _⟩
      clear hb hba HR9 HB9 p0 p1 p2 p3 p4 p5
      obtain ⟨q0, q1, q2, q3, q4, q5, q6⟩ := HXv.out.cells7
      have hq : eq7 0 0 0 0 0 0 0 0 0 0 0 0 0 0 = true := by decide
      simp only [c0] at q0 q1 q2 q3 q4 q5 q6
      go_wp2_with fail
      go_ret
      exact ⟨rfl, HBv.out⟩
    · obtain ⟨p0, p1, p2, p3, p4, p5⟩ := HR9.out.cells6
      go_wp2_with fail
      refine (KX.out _).mono ?_
      rintro e v1 ⟨rfl, hb⟩
      have hba := below_alloc hb (.cells #[.int .u8 x.k, .int .i64 x.p, .int .i64 x.g, .int .i64 x.n, .int .u8 x.m, .int .u64 x.a, .int .u64 x.v] 26)
      have HBv := Aside0.mk (below_step HB9.out hba)
      have HRv := Aside0.mk (HR9.out.later hba)
      have HXv : Aside0 (Bl (v1.alloc (.cells #[.int .u8 x.k, .int .i64 x.p, .int .i64 x.g, .int .i64 x.n, .int .u8 x.m, .int .u64 x.a, .int .u64 x.v] 26)) v1.heap.size 26 x.cells) := ⟨heap_alloc_new v1 _⟩
      clear hb hba HR9 HB9 p0 p1 p2 p3 p4 p5
      obtain ⟨q0, q1, q2, q3, q4, q5, q6⟩ := HXv.out.cells7
      go_wp2_with fail
      refine (hX16 _).mono ?_
      rintro e v2 ⟨rfl, hb⟩
      have hba := below_alloc hb (.cells #[.int .u64 x0, .int .u64 x1, .int .u64 x2, .int .u64 x3, .int .u64 x4, .int .u64 x5] 24)
      have HBu := Aside0.mk (below_step HBv.out hba)
      have HRu := Aside0.mk (HRv.out.later hba)
      have HXu := Aside0.mk (HXv.out.later hba)
      have HWu : Aside0 (Bl (v2.alloc (.cells #[.int .u64 x0, .int .u64 x1, .int .u64 x2, .int .u64 x3, .int .u64 x4, .int .u64 x5] 24)) v2.heap.size 24 (raw x0 x1 x2 x3 x4 x5)) := ⟨heap_alloc_new v2 _⟩
      clear hb hba HBv HRv HXv q0 q1 q2 q3 q4 q5 q6
      generalize v1.heap.size = gx at HXu ⊢
      obtain ⟨q0, q1, q2, q3, q4, q5, q6⟩ := HXu.out.cells7
      obtain ⟨p0, p1, p2, p3, p4, p5⟩ := HRu.out.cells6
      obtain ⟨r0, r1, r2, r3, r4, r5⟩ := HWu.out.cells6
      have hq : eq6 x0 x0 x1 x1 x2 x2 x3 x3 x4 x4 x5 x5 = true := eq6_iff.2 ⟨rfl, rfl, rfl, rfl, rfl, rfl⟩
      go_wp2_with fail
      refine (hX18 _).mono ?_
      rintro e v3 ⟨rfl, hb⟩
      have hba := hb
      have HBz := Aside0.mk (below_step HBu.out hba)
      clear hb hba HBu HRu HXu HWu q0 q1 q2 q3 q4 q5 q6 p0 p1 p2 p3 p4 p5 r0 r1 r2 r3 r4 r5
      go_wp2_with fail
      go_ret
      exact ⟨rfl, HBz.out⟩
  · obtain ⟨p0, p1, p2, p3, p4, p5⟩ := HA3.out.cells6
    go_wp2_with fail
    refine (hA9 _).mono ?_
    rintro e w4 ⟨rfl, hb⟩
    have hba := below_alloc hb (.cells #[.int .u8 c.k, .int .i64 c.p, .int .i64 c.g, .int .i64 c.n, .int .u8 c.m, .int .u64 c.a, .int .u64 c.v] 26)
    have HB4 := Aside0.mk (below_step HB3.out hba)
    have HC4 := Aside0.mk (HC3.out.later hba)
    have HD4 := Aside0.mk (HD3.out.later hba)
    have HR4 := Aside0.mk (HR3.out.later hba)
    have HA4 := Aside0.mk (HA3.out.later hba)
    have HE4 := Aside0.mk (HE3.out.later hba)
    have HF4 : Aside0 (Bl (w4.alloc (.cells #[.int .u8 c.k, .int .i64 c.p, .int .i64 c.g, .int .i64 c.n, .int .u8 c.m, .int .u64 c.a, .int .u64 c.v] 26)) w4.heap.size 26 c.cells) := ⟨heap_alloc_new w4 _⟩
    clear hb hba HB3 HC3 HD3 HR3 HA3 HE3 p0 p1 p2 p3 p4 p5
    generalize w3.heap.size = gb at HE4 ⊢
    obtain ⟨q0, q1, q2, q3, q4, q5, q6⟩ := HC4.out.cells7
    obtain ⟨f0, f1, f2, f3, f4, f5, f6⟩ := HF4.out.cells7
    have hcc := c7_eq.1 (rfl : c = c)
    go_wp2_with fail
    refine (hA18 _).mono ?_
    rintro e w5 ⟨rfl, hb⟩
    have hba := hb
    have HB5 := Aside0.mk (below_step HB4.out hba)
    have HC5 := Aside0.mk (HC4.out.later hba)
    have HD5 := Aside0.mk (HD4.out.later hba)
    have HR5 := Aside0.mk (HR4.out.later hba)
    have HA5 := Aside0.mk (HA4.out.later hba)
    have HE5 := Aside0.mk (HE4.out.later hba)
    clear hb hba HB4 HC4 HD4 HR4 HA4 HE4 HF4 q0 q1 q2 q3 q4 q5 q6 f0 f1 f2 f3 f4 f5 f6
    go_wp2_with fail
    rcases KBE.out with rfl | ⟨rfl, hB9, hB18, hBe, hBd⟩
    · go_quiet (fail)
      have HB9 := Aside0.mk (pw_below_drewN HB5.out nq)
      have HR9 := Aside0.mk (show Bl (World.drewN w5 nq) (w.heap.size + 1 + 1) 24 (raw x0 x1 x2 x3 x4 x5) from HR5.out)
      generalize World.drewN w5 nq = wq at HB9 HR9 ⊢
      clear HC5 HD5 HA5 HE5 HB5 HR5 KAE KBE KA KB
      rcases KXE.out with ⟨rfl, rfl⟩ | ⟨rfl, hX16, hX18⟩
      · obtain ⟨p0, p1, p2, p3, p4, p5⟩ := HR9.out.cells6
        go_wp2_with fail
        refine (KX.out _).mono ?_
        rintro e v1 ⟨rfl, hb⟩
        have hba := below_alloc hb (.cells #[.int .u8 0, .int .i64 0, .int .i64 0, .int .i64 0, .int .u8 0, .int .u64 0, .int .u64 0] 26)
        have HBv := Aside0.mk (below_step HB9.out hba)
        have HXv : Aside0 (Bl (v1.alloc (.cells #[.int .u8 0, .int .i64 0, .int .i64 0, .int .i64 0, .int .u8 0, .int .u64 0, .int .u64 0] 26)) v1.heap.size 26 c0.cells) := ⟨heap_alloc_new v1 _⟩
        clear hb hba HR9 HB9 p0 p1 p2 p3 p4 p5
        obtain ⟨q0, q1, q2, q3, q4, q5, q6⟩ := HXv.out.cells7
        have hq : eq7 0 0 0 0 0 0 0 0 0 0 0 0 0 0 = true := by decide
        simp only [c0] at q0 q1 q2 q3 q4 q5 q6
        go_wp2_with fail
        go_ret
        exact ⟨rfl, HBv.out⟩
      · obtain ⟨p0, p1, p2, p3, p4, p5⟩ := HR9.out.cells6
        go_wp2_with fail
        refine (KX.out _).mono ?_
        rintro e v1 ⟨rfl, hb⟩
        have hba := below_alloc hb (.cells #[.int .u8 x.k, .int .i64 x.p, .int .i64 x.g, .int .i64 x.n, .int .u8 x.m, .int .u64 x.a, .int .u64 x.v] 26)
        have HBv := Aside0.mk (below_step HB9.out hba)
        have HRv := Aside0.mk (HR9.out.later hba)
        have HXv : Aside0 (Bl (v1.alloc (.cells #[.int .u8 x.k, .int .i64 x.p, .int .i64 x.g, .int .i64 x.n, .int .u8 x.m, .int .u64 x.a, .int .u64 x.v] 26)) v1.heap.size 26 x.cells) := ⟨heap_alloc_new v1 _⟩
        clear hb hba HR9 HB9 p0 p1 p2 p3 p4 p5
        obtain ⟨q0, q1, q2, q3, q4, q5, q6⟩ := HXv.out.cells7
        go_wp2_with fail
        refine (hX16 _).mono ?_
        rintro e v2 ⟨rfl, hb⟩
        have hba := below_alloc hb (.cells #[.int .u64 x0, .int .u64 x1, .int .u64 x2, .int .u64 x3, .int .u64 x4, .int .u64 x5] 24)
        have HBu := Aside0.mk (below_step HBv.out hba)
        have HRu := Aside0.mk (HRv.out.later hba)
        have HXu := Aside0.mk (HXv.out.later hba)
        have HWu : Aside0 (Bl (v2.alloc (.cells #[.int .u64 x0, .int .u64 x1, .int .u64 x2, .int .u64 x3, .int .u64 x4, .int .u64 x5] 24)) v2.heap.size 24 (raw x0 x1 x2 x3 x4 x5)) := ⟨heap_alloc_new v2 _⟩
        clear hb hba HBv HRv HXv q0 q1 q2 q3 q4 q5 q6
        generalize v1.heap.size = gx at HXu ⊢
        obtain ⟨q0, q1, q2, q3, q4, q5, q6⟩ := HXu.out.cells7
        obtain ⟨p0, p1, p2, p3, p4, p5⟩ := HRu.out.cells6
        obtain ⟨r0, r1, r2, r3, r4, r5⟩ := HWu.out.cells6
        have hq : eq6 x0 x0 x1 x1 x2 x2 x3 x3 x4 x4 x5 x5 = true := eq6_iff.2 ⟨rfl, rfl, rfl, rfl, rfl, rfl⟩
        go_wp2_with fail
        refine (hX18 _).mono ?_
        rintro e v3 ⟨rfl, hb⟩
        have hba := hb
        have HBz := Aside0.mk (below_step HBu.out hba)
        clear hb hba HBu HRu HXu HWu q0 q1 q2 q3 q4 q5 q6 p0 p1 p2 p3 p4 p5 r0 r1 r2 r3 r4 r5
        go_wp2_with fail
        go_ret
        exact ⟨rfl, HBz.out⟩
    · obtain ⟨bb, hb6, hb7⟩ := pack_eq hAe hBe hAd hBd
      obtain ⟨p0, p1, p2, p3, p4, p5⟩ := HA5.out.cells6
      obtain ⟨r0, r1, r2, r3, r4, r5⟩ := HE5.out.cells6
      obtain ⟨q0, q1, q2, q3, q4, q5, q6⟩ := HC5.out.cells7
      obtain ⟨f0, f1, f2, f3, f4, f5, f6⟩ := HD5.out.cells7
      go_quiet (fail)
      have HB9 := Aside0.mk (pw_below_drewN HB5.out nq)
      have HR9 := Aside0.mk (show Bl (World.drewN w5 nq) (w.heap.size + 1 + 1) 24 (raw x0 x1 x2 x3 x4 x5) from HR5.out)
      generalize World.drewN w5 nq = wq at HB9 HR9 ⊢
      clear HC5 HD5 HA5 HE5 HB5 HR5 KAE KBE KA KB q0 q1 q2 q3 q4 q5 q6 p0 p1 p2 p3 p4 p5 r0 r1 r2 r3 r4 r5 f0 f1 f2 f3 f4 f5 f6
      rcases KXE.out with ⟨rfl, rfl⟩ | ⟨rfl, hX16, hX18⟩
      · obtain ⟨p0, p1, p2, p3, p4, p5⟩ := HR9.out.cells6
        go_wp2_with fail
        refine (KX.out _).mono ?_
        rintro e v1 ⟨rfl, hb⟩
        have hba := below_alloc hb (.cells #[.int .u8 0, .int .i64 0, .int .i64 0, .int .i64 0, .int .u8 0, .int .u64 0, .int .u64 0] 26)
        have HBv := Aside0.mk (below_step HB9.out hba)
        have HXv : Aside0 (Bl (v1.alloc (.cells #[.int .u8 0, .int .i64 0, .int .i64 0, .int .i64 0, .int .u8 0, .int .u64 0, .int .u64 0] 26)) v1.heap.size 26 c0.cells) := ⟨heap_alloc_new v1 _⟩
        clear hb hba HR9 HB9 p0 p1 p2 p3 p4 p5
        obtain ⟨q0, q1, q2, q3, q4, q5, q6⟩ := HXv.out.cells7
        have hq : eq7 0 0 0 0 0 0 0 0 0 0 0 0 0 0 = true := by decide
        simp only [c0] at q0 q1 q2 q3 q4 q5 q6
        go_wp2_with fail
        go_ret
        exact ⟨rfl, HBv.out⟩
      · obtain ⟨p0, p1, p2, p3, p4, p5⟩ := HR9.out.cells6
        go_wp2_with fail
        refine (KX.out _).mono ?_
        rintro e v1 ⟨rfl, hb⟩
        have hba := below_alloc hb (.cells #[.int .u8 x.k, .int .i64 x.p, .int .i64 x.g, .int .i64 x.n, .int .u8 x.m, .int .u64 x.a, .int .u64 x.v] 26)
        have HBv := Aside0.mk (below_step HB9.out hba)
        have HRv := Aside0.mk (HR9.out.later hba)
        have HXv : Aside0 (Bl (v1.alloc (.cells #[.int .u8 x.k, .int .i64 x.p, .int .i64 x.g, .int .i64 x.n, .int .u8 x.m, .int .u64 x.a, .int .u64 x.v] 26)) v1.heap.size 26 x.cells) := ⟨heap_alloc_new v1 _⟩
        clear hb hba HR9 HB9 p0 p1 p2 p3 p4 p5
        obtain ⟨q0, q1, q2, q3, q4, q5, q6⟩ := HXv.out.cells7
        go_wp2_with fail
        refine (hX16 _).mono ?_
        rintro e v2 ⟨rfl, hb⟩
        have hba := below_alloc hb (.cells #[.int .u64 x0, .int .u64 x1, .int .u64 x2, .int .u64 x3, .int .u64 x4, .int .u64 x5] 24)
        have HBu := Aside0.mk (below_step HBv.out hba)
        have HRu := Aside0.mk (HRv.out.later hba)
        have HXu := Aside0.mk (HXv.out.later hba)
        have HWu : Aside0 (Bl (v2.alloc (.cells #[.int .u64 x0, .int .u64 x1, .int .u64 x2, .int .u64 x3, .int .u64 x4, .int .u64 x5] 24)) v2.heap.size 24 (raw x0 x1 x2 x3 x4 x5)) := ⟨heap_alloc_new v2 _⟩
        clear hb hba HBv HRv HXv q0 q1 q2 q3 q4 q5 q6
        generalize v1.heap.size = gx at HXu ⊢
        obtain ⟨q0, q1, q2, q3, q4, q5, q6⟩ := HXu.out.cells7
        obtain ⟨p0, p1, p2, p3, p4, p5⟩ := HRu.out.cells6
        obtain ⟨r0, r1, r2, r3, r4, r5⟩ := HWu.out.cells6
        have hq : eq6 x0 x0 x1 x1 x2 x2 x3 x3 x4 x4 x5 x5 = true := eq6_iff.2 ⟨rfl, rfl, rfl, rfl, rfl, rfl⟩
        go_wp2_with fail
        refine (hX18 _).mono ?_
        rintro e v3 ⟨rfl, hb⟩
        have hba := hb
        have HBz := Aside0.mk (below_step HBu.out hba)
        clear hb hba HBu HRu HXu HWu q0 q1 q2 q3 q4 q5 q6 p0 p1 p2 p3 p4 p5 r0 r1 r2 r3 r4 r5
        go_wp2_with fail
        go_ret
        exact ⟨rfl, HBz.out⟩
theorem back_any (a0 a1 a2 a3 a4 a5 a6 b0 b1 b2 b3 b4 b5 b6 x0 x1 x2 x3 x4 x5 : Int) (w : World) (ha0 : (Lit.int .u8 a0).wf = true) (ha1 : (Lit.int .i64 a1).wf = true) (ha2 : (Lit.int .i64 a2).wf = true) (ha3 : (Lit.int .i64 a3).wf = true) (ha4 : (Lit.int .u8 a4).wf = true) (ha5 : (Lit.int .u64 a5).wf = true) (ha6 : (Lit.int .u64 a6).wf = true) (hb0 : (Lit.int .u8 b0).wf = true) (hb1 : (Lit.int .i64 b1).wf = true) (hb2 : (Lit.int .i64 b2).wf = true) (hb3 : (Lit.int .i64 b3).wf = true) (hb4 : (Lit.int .u8 b4).wf = true) (hb5 : (Lit.int .u64 b5).wf = true) (hb6 : (Lit.int .u64 b6).wf = true) (hx0 : (Lit.int .u64 x0).wf = true) (hx1 : (Lit.int .u64 x1).wf = true) (hx2 : (Lit.int .u64 x2).wf = true) (hx3 : (Lit.int .u64 x3).wf = true) (hx4 : (Lit.int .u64 x4).wf = true) (hx5 : (Lit.int .u64 x5).wf = true) :
    Calls Try.prog 7 #[.agg #[.int .u8 a0, .int .i64 a1, .int .i64 a2, .int .i64 a3, .int .u8 a4, .int .u64 a5, .int .u64 a6], .agg #[.int .u8 b0, .int .i64 b1, .int .i64 b2, .int .i64 b3, .int .u8 b4, .int .u64 b5, .int .u64 b6], .agg #[.int .u64 x0, .int .u64 x1, .int .u64 x2, .int .u64 x3, .int .u64 x4, .int .u64 x5]] w fun e w' => e = .returned (.bool true) ∧ Below w.heap.size w w' :=
  back_c ⟨a0, a1, a2, a3, a4, a5, a6⟩ ⟨b0, b1, b2, b3, b4, b5, b6⟩ x0 x1 x2 x3 x4 x5 w (u8_lo2 ha0) (u64_lo2 ha5) (u64_lo2 ha6) (u8_lo2 hb0) (u64_lo2 hb5) (u64_lo2 hb6) (u64_lo2 hx0) (u64_lo2 hx1) (u64_lo2 hx2) (u64_lo2 hx3) (u64_lo2 hx4) (u64_lo2 hx5)
end Go.Proofs.Ytklnenaiolclaaa.H
