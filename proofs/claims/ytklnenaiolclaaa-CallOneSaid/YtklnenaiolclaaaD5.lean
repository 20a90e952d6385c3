/- The law CallOne by its contracts. -/
import Derived.Test.YtklnenaiolclaaaC6
import Derived.Test.YtklnenaiolclaaaC8
namespace Go.Proofs.Ytklnenaiolclaaa.H
open Go.RowKit Go.Proofs.YtklnenaiolclaaaW.PrintWords Go.Proofs.YtklnenaiolclaaaW.PrintLast Go.Proofs.YtklnenaiolclaaaW.PrintMore
set_option linter.unusedVariables false
set_option linter.unusedSimpArgs false
attribute [local go_sem high] eqB26 eqB24
set_option maxHeartbeats 8000000
set_option maxRecDepth 100000
theorem one_any (k p g n m a v : Int) (at_ : Int) (by_ : Int) (w : World) (hk : (Lit.int .u8 k).wf = true) (hp : (Lit.int .i64 p).wf = true) (hg : (Lit.int .i64 g).wf = true) (hn : (Lit.int .i64 n).wf = true) (hm : (Lit.int .u8 m).wf = true) (ha : (Lit.int .u64 a).wf = true) (hv : (Lit.int .u64 v).wf = true) (hat : (Lit.int .i64 at_).wf = true) (hby : (Lit.int .u64 by_).wf = true) :
    Calls Try.prog 5 #[.agg #[.int .u8 k, .int .i64 p, .int .i64 g, .int .i64 n, .int .u8 m, .int .u64 a, .int .u64 v], .int .i64 at_, .int .u64 by_] w fun e w' => e = .returned (.bool true) ∧ Below w.heap.size w w' := by
  have k0 : 0 ≤ k ∧ k ≤ 255 := by simp [Lit.wf, IntKind.min, IntKind.max, IntKind.signed, IntKind.bits] at hk; omega
  have a0 : 0 ≤ a ∧ a ≤ 18446744073709551615 := by simp [Lit.wf, IntKind.min, IntKind.max, IntKind.signed, IntKind.bits] at ha; omega
  have v0 : 0 ≤ v ∧ v ≤ 18446744073709551615 := by simp [Lit.wf, IntKind.min, IntKind.max, IntKind.signed, IntKind.bits] at hv; omega
  have y0 : 0 ≤ by_ ∧ by_ ≤ 18446744073709551615 := by simp [Lit.wf, IntKind.min, IntKind.max, IntKind.signed, IntKind.bits] at hby; omega
  have HEN := Aside0.mk (fun w => encode_any ⟨k, p, g, n, m, a, v⟩ w k0.1 a0.1 v0.1)
  clear hk hp hg hn hm ha hv hat hby
  have HB0 := Aside0.mk (below_alloc (Below.refl w.heap.size w) (.cells #[.int .u8 k, .int .i64 p, .int .i64 g, .int .i64 n, .int .u8 m, .int .u64 a, .int .u64 v] 26))
  have HC0 : Aside0 (Bl (w.alloc (.cells #[.int .u8 k, .int .i64 p, .int .i64 g, .int .i64 n, .int .u8 m, .int .u64 a, .int .u64 v] 26)) w.heap.size 26 (C7.cells ⟨k, p, g, n, m, a, v⟩)) := ⟨heap_alloc_new w _⟩
  cases hE : enc ⟨k, p, g, n, m, a, v⟩ with
  | none =>
    have HE1 : Aside0 (∀ w, Calls Try.prog 16 #[.agg #[.int .u8 k, .int .i64 p, .int .i64 g, .int .i64 n, .int .u8 m, .int .u64 a, .int .u64 v]] w fun e w' => e = .returned (.tuple #[.agg #[.int .u64 0, .int .u64 0, .int .u64 0, .int .u64 0, .int .u64 0, .int .u64 0], .int .i64 250]) ∧ Below w.heap.size w w') := ⟨fun w => by have := HEN.out w; rw [hE] at this; exact this⟩
    clear HEN hE a0 v0 y0 k0
    go_enter Try.func5, Try.ntmps5
    go_wp2_with fail
    refine (works_any _).mono ?_
    rintro e w1 ⟨rfl, hb⟩
    have HB1 := Aside0.mk (below_step HB0.out hb)
    have HC1 := Aside0.mk (HC0.out.later hb)
    clear hb HB0 HC0
    obtain ⟨q0, q1, q2, q3, q4, q5, q6⟩ := HC1.out.cells7
    go_wp2_with fail
    refine (HE1.out _).mono ?_
    rintro e w2 ⟨rfl, hb⟩
    have hba := below_alloc hb (.cells #[.int .u64 0, .int .u64 0, .int .u64 0, .int .u64 0, .int .u64 0, .int .u64 0] 24)
    have HB2 := Aside0.mk (below_step HB1.out hba)
    have HR2 : Aside0 (Bl (w2.alloc (.cells #[.int .u64 0, .int .u64 0, .int .u64 0, .int .u64 0, .int .u64 0, .int .u64 0] 24)) w2.heap.size 24 (raw 0 0 0 0 0 0)) := ⟨heap_alloc_new w2 _⟩
    clear hb hba HB1 HC1 q0 q1 q2 q3 q4 q5 q6
    obtain ⟨p0, p1, p2, p3, p4, p5⟩ := HR2.out.cells6
    have hz : eq6 0 0 0 0 0 0 0 0 0 0 0 0 = true := by decide
    go_wp2_with fail
    go_ret
    exact ⟨rfl, HB2.out⟩
  | some r =>
    obtain ⟨x1, x2, x3, x4, x5, rfl, hdc, h1, h2, h3, h4, h5⟩ := enc_dec_hi hE a0 v0
    simp only at hdc
    have HDC := Aside0.mk hdc
    have HE1 : Aside0 (∀ w, Calls Try.prog 16 #[.agg #[.int .u8 k, .int .i64 p, .int .i64 g, .int .i64 n, .int .u8 m, .int .u64 a, .int .u64 v]] w fun e w' => e = .returned (.tuple #[.agg #[.int .u64 k, .int .u64 x1, .int .u64 x2, .int .u64 x3, .int .u64 x4, .int .u64 x5], .int .i64 0]) ∧ Below w.heap.size w w') := ⟨fun w => by have := HEN.out w; rw [hE] at this; exact this⟩
    clear HEN hdc
    have HEE := Aside0.mk hE
    clear hE
    go_enter Try.func5, Try.ntmps5
    go_wp2_with fail
    refine (works_any _).mono ?_
    rintro e w1 ⟨rfl, hb⟩
    have HB1 := Aside0.mk (below_step HB0.out hb)
    have HC1 := Aside0.mk (HC0.out.later hb)
    clear hb HB0 HC0
    obtain ⟨q0, q1, q2, q3, q4, q5, q6⟩ := HC1.out.cells7
    go_wp2_with fail
    refine (HE1.out _).mono ?_
    rintro e w2 ⟨rfl, hb⟩
    have hba := below_alloc hb (.cells #[.int .u64 k, .int .u64 x1, .int .u64 x2, .int .u64 x3, .int .u64 x4, .int .u64 x5] 24)
    have HB2 := Aside0.mk (below_step HB1.out hba)
    have HC2 := Aside0.mk (HC1.out.later hba)
    have HR2 : Aside0 (Bl (w2.alloc (.cells #[.int .u64 k, .int .u64 x1, .int .u64 x2, .int .u64 x3, .int .u64 x4, .int .u64 x5] 24)) w2.heap.size 24 (raw k x1 x2 x3 x4 x5)) := ⟨heap_alloc_new w2 _⟩
    have HBw := Aside0.mk (below_step HB1.out hb)
    have HCw := Aside0.mk (HC1.out.later hb)
    have HB1s : Aside0 (w.heap.size ≤ w2.heap.size) := ⟨Nat.le_trans HB1.out.size hb.size⟩
    have HB1t : Aside0 (w.heap.size < w2.heap.size) := ⟨Nat.lt_of_lt_of_le (blk_lt HC1.out) hb.size⟩
    clear hb hba HB1 HC1 q0 q1 q2 q3 q4 q5 q6
    obtain ⟨p0, p1, p2, p3, p4, p5⟩ := HR2.out.cells6
    have hfr := HR2.out.free
    by_cases hbz : by_ = 0
    · have hbb : (by_ == 0) = true := beq_iff_eq.2 hbz
      obtain ⟨j0, j6⟩ := tmod6 at_
      generalize hJ : (wrap64 (at_.tmod 6 + 6)).tmod 6 = J at j0 j6
      have hjs : J = 0 ∨ J = 1 ∨ J = 2 ∨ J = 3 ∨ J = 4 ∨ J = 5 := by omega
      clear j0 j6
      have X0 := xor_turns (a := k) ⟨k0.1, by omega⟩ ⟨by omega, by omega⟩ (show (1 : Int) ≠ 0 by omega)
      have X1 := xor_turns h1 ⟨by omega, by omega⟩ (show (1 : Int) ≠ 0 by omega)
      have X2 := xor_turns h2 ⟨by omega, by omega⟩ (show (1 : Int) ≠ 0 by omega)
      have X3 := xor_turns h3 ⟨by omega, by omega⟩ (show (1 : Int) ≠ 0 by omega)
      have X4 := xor_turns h4 ⟨by omega, by omega⟩ (show (1 : Int) ≠ 0 by omega)
      have X5 := xor_turns h5 ⟨by omega, by omega⟩ (show (1 : Int) ≠ 0 by omega)
      have hkey : ∀ y0 y1 y2 y3 y4 y5 : Int, 0 ≤ y0 → 0 ≤ y1 → 0 ≤ y2 → 0 ≤ y3 → 0 ≤ y4 → 0 ≤ y5 → raw y0 y1 y2 y3 y4 y5 ≠ raw k x1 x2 x3 x4 x5 → ∀ d, dec y0 y1 y2 y3 y4 y5 = some d → d ≠ ⟨k, p, g, n, m, a, v⟩ := fun y0 y1 y2 y3 y4 y5 u0 u1 u2 u3 u4 u5 hne d hd hdc => by
        have := (dec_enc u0 u1 u2 u3 u4 u5 hd).1
        rw [hdc, HEE.out] at this
        exact hne (Option.some.inj this).symm
      have HKEY := Aside0.mk hkey
      have HXS := Aside0.mk (And.intro X0 (And.intro X1 (And.intro X2 (And.intro X3 (And.intro X4 X5)))))
      have HH := Aside0.mk (And.intro k0.1 (And.intro h1.1 (And.intro h2.1 (And.intro h3.1 (And.intro h4.1 h5.1)))))
      clear hkey X0 X1 X2 X3 X4 X5 h1 h2 h3 h4 h5 k0 a0 v0 y0 HDC HEE
      rcases hjs with rfl | rfl | rfl | rfl | rfl | rfl
      · obtain ⟨hz0, hz1⟩ := HXS.out.1
        obtain ⟨z, hzz⟩ : ∃ z, bits .xor .u64 k 1 = z := ⟨_, rfl⟩
        rw [hzz] at hz0 hz1
        have HZB : Aside0 (Bl (w2.alloc (.cells #[.int .u64 z, .int .u64 x1, .int .u64 x2, .int .u64 x3, .int .u64 x4, .int .u64 x5] 24)) w2.heap.size 24 (raw z x1 x2 x3 x4 x5)) := ⟨heap_alloc_new w2 _⟩
        have HDN : Aside0 (∀ d, dec z x1 x2 x3 x4 x5 = some d → d ≠ ⟨k, p, g, n, m, a, v⟩) := ⟨HKEY.out z x1 x2 x3 x4 x5 hz0 HH.out.2.1 HH.out.2.2.1 HH.out.2.2.2.1 HH.out.2.2.2.2.1 HH.out.2.2.2.2.2 (fun h => by have := raw_inj h; omega)⟩
        have HDE := Aside0.mk (fun w => decode_any z x1 x2 x3 x4 x5 w hz0 HH.out.2.1 HH.out.2.2.1 HH.out.2.2.2.1 HH.out.2.2.2.2.1 HH.out.2.2.2.2.2)
        have HB3 := Aside0.mk (below_alloc HBw.out (.cells #[.int .u64 z, .int .u64 x1, .int .u64 x2, .int .u64 x3, .int .u64 x4, .int .u64 x5] 24))
        have HC3 := Aside0.mk (HCw.out.later (below_alloc (Below.refl _ _) (.cells #[.int .u64 z, .int .u64 x1, .int .u64 x2, .int .u64 x3, .int .u64 x4, .int .u64 x5] 24)))
        clear hz0 hz1
        obtain ⟨z0, z1, z2, z3, z4, z5⟩ := HZB.out.cells6
        cases hdd : dec z x1 x2 x3 x4 x5 with
        | none =>
          have HD6 : Aside0 (∀ w, Calls Try.prog 9 #[.agg #[.int .u64 z, .int .u64 x1, .int .u64 x2, .int .u64 x3, .int .u64 x4, .int .u64 x5]] w fun e w' => e = .returned (.tuple #[.agg #[.int .u8 0, .int .i64 0, .int .i64 0, .int .i64 0, .int .u8 0, .int .u64 0, .int .u64 0], .int .i64 250]) ∧ Below w.heap.size w w') := ⟨fun w => by have := HDE.out w; rw [hdd] at this; exact this⟩
          clear HDE HDN hdd HKEY HXS HH
          go_wp2_with fail
          refine (HD6.out _).mono ?_
          rintro e w3 ⟨rfl, hb⟩
          have hba := below_alloc hb (.cells #[.int .u8 0, .int .i64 0, .int .i64 0, .int .i64 0, .int .u8 0, .int .u64 0, .int .u64 0] 26)
          have HB4 := Aside0.mk (below_step HB3.out hba)
          have HD9 : Bl (w3.alloc (.cells #[.int .u8 0, .int .i64 0, .int .i64 0, .int .i64 0, .int .u8 0, .int .u64 0, .int .u64 0] 26)) w3.heap.size 26 c0.cells := heap_alloc_new w3 _
          clear hb hba HB3 HC3 HZB z0 z1 z2 z3 z4 z5 p0 p1 p2 p3 p4 p5 HR2 HB2 HC2 HBw HCw
          obtain ⟨d0, d1, d2, d3, d4, d5, d6⟩ := HD9.cells7
          simp only [c0] at d0 d1 d2 d3 d4 d5 d6
          have hq : eq7 0 0 0 0 0 0 0 0 0 0 0 0 0 0 = true := by decide
          clear HD9
          go_wp2_with fail
          go_ret
          exact ⟨rfl, HB4.out⟩
        | some d =>
          have HD6 : Aside0 (∀ w, Calls Try.prog 9 #[.agg #[.int .u64 z, .int .u64 x1, .int .u64 x2, .int .u64 x3, .int .u64 x4, .int .u64 x5]] w fun e w' => e = .returned (.tuple #[.agg #[.int .u8 d.k, .int .i64 d.p, .int .i64 d.g, .int .i64 d.n, .int .u8 d.m, .int .u64 d.a, .int .u64 d.v], .int .i64 0]) ∧ Below w.heap.size w w') := ⟨fun w => by have := HDE.out w; rw [hdd] at this; exact this⟩
          have hne := c7_ne.1 (HDN.out d hdd)
          simp only at hne
          clear HDE HDN hdd HKEY HXS HH
          go_wp2_with fail
          refine (HD6.out _).mono ?_
          rintro e w3 ⟨rfl, hb⟩
          have hba := below_alloc hb (.cells #[.int .u8 d.k, .int .i64 d.p, .int .i64 d.g, .int .i64 d.n, .int .u8 d.m, .int .u64 d.a, .int .u64 d.v] 26)
          have HB4 := Aside0.mk (below_step HB3.out hba)
          have HC4 := Aside0.mk (HC3.out.later hba)
          have HD9 : Bl (w3.alloc (.cells #[.int .u8 d.k, .int .i64 d.p, .int .i64 d.g, .int .i64 d.n, .int .u8 d.m, .int .u64 d.a, .int .u64 d.v] 26)) w3.heap.size 26 d.cells := heap_alloc_new w3 _
          clear hb hba HB3 HC3 HZB z0 z1 z2 z3 z4 z5 p0 p1 p2 p3 p4 p5 HR2 HB2 HC2 HBw HCw
          obtain ⟨d0, d1, d2, d3, d4, d5, d6⟩ := HD9.cells7
          obtain ⟨q0, q1, q2, q3, q4, q5, q6⟩ := HC4.out.cells7
          clear HD9
          go_wp2_with fail
          go_ret
          exact ⟨rfl, HB4.out⟩
      · obtain ⟨hz0, hz1⟩ := HXS.out.2.1
        obtain ⟨z, hzz⟩ : ∃ z, bits .xor .u64 x1 1 = z := ⟨_, rfl⟩
        rw [hzz] at hz0 hz1
        have HZB : Aside0 (Bl (w2.alloc (.cells #[.int .u64 k, .int .u64 z, .int .u64 x2, .int .u64 x3, .int .u64 x4, .int .u64 x5] 24)) w2.heap.size 24 (raw k z x2 x3 x4 x5)) := ⟨heap_alloc_new w2 _⟩
        have HDN : Aside0 (∀ d, dec k z x2 x3 x4 x5 = some d → d ≠ ⟨k, p, g, n, m, a, v⟩) := ⟨HKEY.out k z x2 x3 x4 x5 HH.out.1 hz0 HH.out.2.2.1 HH.out.2.2.2.1 HH.out.2.2.2.2.1 HH.out.2.2.2.2.2 (fun h => by have := raw_inj h; omega)⟩
        have HDE := Aside0.mk (fun w => decode_any k z x2 x3 x4 x5 w HH.out.1 hz0 HH.out.2.2.1 HH.out.2.2.2.1 HH.out.2.2.2.2.1 HH.out.2.2.2.2.2)
        have HB3 := Aside0.mk (below_alloc HBw.out (.cells #[.int .u64 k, .int .u64 z, .int .u64 x2, .int .u64 x3, .int .u64 x4, .int .u64 x5] 24))
        have HC3 := Aside0.mk (HCw.out.later (below_alloc (Below.refl _ _) (.cells #[.int .u64 k, .int .u64 z, .int .u64 x2, .int .u64 x3, .int .u64 x4, .int .u64 x5] 24)))
        clear hz0 hz1
        obtain ⟨z0, z1, z2, z3, z4, z5⟩ := HZB.out.cells6
        cases hdd : dec k z x2 x3 x4 x5 with
        | none =>
          have HD6 : Aside0 (∀ w, Calls Try.prog 9 #[.agg #[.int .u64 k, .int .u64 z, .int .u64 x2, .int .u64 x3, .int .u64 x4, .int .u64 x5]] w fun e w' => e = .returned (.tuple #[.agg #[.int .u8 0, .int .i64 0, .int .i64 0, .int .i64 0, .int .u8 0, .int .u64 0, .int .u64 0], .int .i64 250]) ∧ Below w.heap.size w w') := ⟨fun w => by have := HDE.out w; rw [hdd] at this; exact this⟩
          clear HDE HDN hdd HKEY HXS HH
          go_wp2_with fail
          refine (HD6.out _).mono ?_
          rintro e w3 ⟨rfl, hb⟩
          have hba := below_alloc hb (.cells #[.int .u8 0, .int .i64 0, .int .i64 0, .int .i64 0, .int .u8 0, .int .u64 0, .int .u64 0] 26)
          have HB4 := Aside0.mk (below_step HB3.out hba)
          have HD9 : Bl (w3.alloc (.cells #[.int .u8 0, .int .i64 0, .int .i64 0, .int .i64 0, .int .u8 0, .int .u64 0, .int .u64 0] 26)) w3.heap.size 26 c0.cells := heap_alloc_new w3 _
          clear hb hba HB3 HC3 HZB z0 z1 z2 z3 z4 z5 p0 p1 p2 p3 p4 p5 HR2 HB2 HC2 HBw HCw
          obtain ⟨d0, d1, d2, d3, d4, d5, d6⟩ := HD9.cells7
          simp only [c0] at d0 d1 d2 d3 d4 d5 d6
          have hq : eq7 0 0 0 0 0 0 0 0 0 0 0 0 0 0 = true := by decide
          clear HD9
          go_wp2_with fail
          go_ret
          exact ⟨rfl, HB4.out⟩
        | some d =>
          have HD6 : Aside0 (∀ w, Calls Try.prog 9 #[.agg #[.int .u64 k, .int .u64 z, .int .u64 x2, .int .u64 x3, .int .u64 x4, .int .u64 x5]] w fun e w' => e = .returned (.tuple #[.agg #[.int .u8 d.k, .int .i64 d.p, .int .i64 d.g, .int .i64 d.n, .int .u8 d.m, .int .u64 d.a, .int .u64 d.v], .int .i64 0]) ∧ Below w.heap.size w w') := ⟨fun w => by have := HDE.out w; rw [hdd] at this; exact this⟩
          have hne := c7_ne.1 (HDN.out d hdd)
          simp only at hne
          clear HDE HDN hdd HKEY HXS HH
          go_wp2_with fail
          refine (HD6.out _).mono ?_
          rintro e w3 ⟨rfl, hb⟩
          have hba := below_alloc hb (.cells #[.int .u8 d.k, .int .i64 d.p, .int .i64 d.g, .int .i64 d.n, .int .u8 d.m, .int .u64 d.a, .int .u64 d.v] 26)
          have HB4 := Aside0.mk (below_step HB3.out hba)
          have HC4 := Aside0.mk (HC3.out.later hba)
          have HD9 : Bl (w3.alloc (.cells #[.int .u8 d.k, .int .i64 d.p, .int .i64 d.g, .int .i64 d.n, .int .u8 d.m, .int .u64 d.a, .int .u64 d.v] 26)) w3.heap.size 26 d.cells := heap_alloc_new w3 _
          clear hb hba HB3 HC3 HZB z0 z1 z2 z3 z4 z5 p0 p1 p2 p3 p4 p5 HR2 HB2 HC2 HBw HCw
          obtain ⟨d0, d1, d2, d3, d4, d5, d6⟩ := HD9.cells7
          obtain ⟨q0, q1, q2, q3, q4, q5, q6⟩ := HC4.out.cells7
          clear HD9
          go_wp2_with fail
          go_ret
          exact ⟨rfl, HB4.out⟩
      · obtain ⟨hz0, hz1⟩ := HXS.out.2.2.1
        obtain ⟨z, hzz⟩ : ∃ z, bits .xor .u64 x2 1 = z := ⟨_, rfl⟩
        rw [hzz] at hz0 hz1
        have HZB : Aside0 (Bl (w2.alloc (.cells #[.int .u64 k, .int .u64 x1, .int .u64 z, .int .u64 x3, .int .u64 x4, .int .u64 x5] 24)) w2.heap.size 24 (raw k x1 z x3 x4 x5)) := ⟨heap_alloc_new w2 _⟩
        have HDN : Aside0 (∀ d, dec k x1 z x3 x4 x5 = some d → d ≠ ⟨k, p, g, n, m, a, v⟩) := ⟨HKEY.out k x1 z x3 x4 x5 HH.out.1 HH.out.2.1 hz0 HH.out.2.2.2.1 HH.out.2.2.2.2.1 HH.out.2.2.2.2.2 (fun h => by have := raw_inj h; omega)⟩
        have HDE := Aside0.mk (fun w => decode_any k x1 z x3 x4 x5 w HH.out.1 HH.out.2.1 hz0 HH.out.2.2.2.1 HH.out.2.2.2.2.1 HH.out.2.2.2.2.2)
        have HB3 := Aside0.mk (below_alloc HBw.out (.cells #[.int .u64 k, .int .u64 x1, .int .u64 z, .int .u64 x3, .int .u64 x4, .int .u64 x5] 24))
        have HC3 := Aside0.mk (HCw.out.later (below_alloc (Below.refl _ _) (.cells #[.int .u64 k, .int .u64 x1, .int .u64 z, .int .u64 x3, .int .u64 x4, .int .u64 x5] 24)))
        clear hz0 hz1
        obtain ⟨z0, z1, z2, z3, z4, z5⟩ := HZB.out.cells6
        cases hdd : dec k x1 z x3 x4 x5 with
        | none =>
          have HD6 : Aside0 (∀ w, Calls Try.prog 9 #[.agg #[.int .u64 k, .int .u64 x1, .int .u64 z, .int .u64 x3, .int .u64 x4, .int .u64 x5]] w fun e w' => e = .returned (.tuple #[.agg #[.int .u8 0, .int .i64 0, .int .i64 0, .int .i64 0, .int .u8 0, .int .u64 0, .int .u64 0], .int .i64 250]) ∧ Below w.heap.size w w') := ⟨fun w => by have := HDE.out w; rw [hdd] at this; exact this⟩
          clear HDE HDN hdd HKEY HXS HH
          go_wp2_with fail
          refine (HD6.out _).mono ?_
          rintro e w3 ⟨rfl, hb⟩
          have hba := below_alloc hb (.cells #[.int .u8 0, .int .i64 0, .int .i64 0, .int .i64 0, .int .u8 0, .int .u64 0, .int .u64 0] 26)
          have HB4 := Aside0.mk (below_step HB3.out hba)
          have HD9 : Bl (w3.alloc (.cells #[.int .u8 0, .int .i64 0, .int .i64 0, .int .i64 0, .int .u8 0, .int .u64 0, .int .u64 0] 26)) w3.heap.size 26 c0.cells := heap_alloc_new w3 _
          clear hb hba HB3 HC3 HZB z0 z1 z2 z3 z4 z5 p0 p1 p2 p3 p4 p5 HR2 HB2 HC2 HBw HCw
          obtain ⟨d0, d1, d2, d3, d4, d5, d6⟩ := HD9.cells7
          simp only [c0] at d0 d1 d2 d3 d4 d5 d6
          have hq : eq7 0 0 0 0 0 0 0 0 0 0 0 0 0 0 = true := by decide
          clear HD9
          go_wp2_with fail
          go_ret
          exact ⟨rfl, HB4.out⟩
        | some d =>
          have HD6 : Aside0 (∀ w, Calls Try.prog 9 #[.agg #[.int .u64 k, .int .u64 x1, .int .u64 z, .int .u64 x3, .int .u64 x4, .int .u64 x5]] w fun e w' => e = .returned (.tuple #[.agg #[.int .u8 d.k, .int .i64 d.p, .int .i64 d.g, .int .i64 d.n, .int .u8 d.m, .int .u64 d.a, .int .u64 d.v], .int .i64 0]) ∧ Below w.heap.size w w') := ⟨fun w => by have := HDE.out w; rw [hdd] at this; exact this⟩
          have hne := c7_ne.1 (HDN.out d hdd)
          simp only at hne
          clear HDE HDN hdd HKEY HXS HH
          go_wp2_with fail
          refine (HD6.out _).mono ?_
          rintro e w3 ⟨rfl, hb⟩
          have hba := below_alloc hb (.cells #[.int .u8 d.k, .int .i64 d.p, .int .i64 d.g, .int .i64 d.n, .int .u8 d.m, .int .u64 d.a, .int .u64 d.v] 26)
          have HB4 := Aside0.mk (below_step HB3.out hba)
          have HC4 := Aside0.mk (HC3.out.later hba)
          have HD9 : Bl (w3.alloc (.cells #[.int .u8 d.k, .int .i64 d.p, .int .i64 d.g, .int .i64 d.n, .int .u8 d.m, .int .u64 d.a, .int .u64 d.v] 26)) w3.heap.size 26 d.cells := heap_alloc_new w3 _
          clear hb hba HB3 HC3 HZB z0 z1 z2 z3 z4 z5 p0 p1 p2 p3 p4 p5 HR2 HB2 HC2 HBw HCw
          obtain ⟨d0, d1, d2, d3, d4, d5, d6⟩ := HD9.cells7
          obtain ⟨q0, q1, q2, q3, q4, q5, q6⟩ := HC4.out.cells7
          clear HD9
          go_wp2_with fail
          go_ret
          exact ⟨rfl, HB4.out⟩
      · obtain ⟨hz0, hz1⟩ := HXS.out.2.2.2.1
        obtain ⟨z, hzz⟩ : ∃ z, bits .xor .u64 x3 1 = z := ⟨_, rfl⟩
        rw [hzz] at hz0 hz1
        have HZB : Aside0 (Bl (w2.alloc (.cells #[.int .u64 k, .int .u64 x1, .int .u64 x2, .int .u64 z, .int .u64 x4, .int .u64 x5] 24)) w2.heap.size 24 (raw k x1 x2 z x4 x5)) := ⟨heap_alloc_new w2 _⟩
        have HDN : Aside0 (∀ d, dec k x1 x2 z x4 x5 = some d → d ≠ ⟨k, p, g, n, m, a, v⟩) := ⟨HKEY.out k x1 x2 z x4 x5 HH.out.1 HH.out.2.1 HH.out.2.2.1 hz0 HH.out.2.2.2.2.1 HH.out.2.2.2.2.2 (fun h => by have := raw_inj h; omega)⟩
        have HDE := Aside0.mk (fun w => decode_any k x1 x2 z x4 x5 w HH.out.1 HH.out.2.1 HH.out.2.2.1 hz0 HH.out.2.2.2.2.1 HH.out.2.2.2.2.2)
        have HB3 := Aside0.mk (below_alloc HBw.out (.cells #[.int .u64 k, .int .u64 x1, .int .u64 x2, .int .u64 z, .int .u64 x4, .int .u64 x5] 24))
        have HC3 := Aside0.mk (HCw.out.later (below_alloc (Below.refl _ _) (.cells #[.int .u64 k, .int .u64 x1, .int .u64 x2, .int .u64 z, .int .u64 x4, .int .u64 x5] 24)))
        clear hz0 hz1
        obtain ⟨z0, z1, z2, z3, z4, z5⟩ := HZB.out.cells6
        cases hdd : dec k x1 x2 z x4 x5 with
        | none =>
          have HD6 : Aside0 (∀ w, Calls Try.prog 9 #[.agg #[.int .u64 k, .int .u64 x1, .int .u64 x2, .int .u64 z, .int .u64 x4, .int .u64 x5]] w fun e w' => e = .returned (.tuple #[.agg #[.int .u8 0, .int .i64 0, .int .i64 0, .int .i64 0, .int .u8 0, .int .u64 0, .int .u64 0], .int .i64 250]) ∧ Below w.heap.size w w') := ⟨fun w => by have := HDE.out w; rw [hdd] at this; exact this⟩
          clear HDE HDN hdd HKEY HXS HH
          go_wp2_with fail
          refine (HD6.out _).mono ?_
          rintro e w3 ⟨rfl, hb⟩
          have hba := below_alloc hb (.cells #[.int .u8 0, .int .i64 0, .int .i64 0, .int .i64 0, .int .u8 0, .int .u64 0, .int .u64 0] 26)
          have HB4 := Aside0.mk (below_step HB3.out hba)
          have HD9 : Bl (w3.alloc (.cells #[.int .u8 0, .int .i64 0, .int .i64 0, .int .i64 0, .int .u8 0, .int .u64 0, .int .u64 0] 26)) w3.heap.size 26 c0.cells := heap_alloc_new w3 _
          clear hb hba HB3 HC3 HZB z0 z1 z2 z3 z4 z5 p0 p1 p2 p3 p4 p5 HR2 HB2 HC2 HBw HCw
          obtain ⟨d0, d1, d2, d3, d4, d5, d6⟩ := HD9.cells7
          simp only [c0] at d0 d1 d2 d3 d4 d5 d6
          have hq : eq7 0 0 0 0 0 0 0 0 0 0 0 0 0 0 = true := by decide
          clear HD9
          go_wp2_with fail
          go_ret
          exact ⟨rfl, HB4.out⟩
        | some d =>
          have HD6 : Aside0 (∀ w, Calls Try.prog 9 #[.agg #[.int .u64 k, .int .u64 x1, .int .u64 x2, .int .u64 z, .int .u64 x4, .int .u64 x5]] w fun e w' => e = .returned (.tuple #[.agg #[.int .u8 d.k, .int .i64 d.p, .int .i64 d.g, .int .i64 d.n, .int .u8 d.m, .int .u64 d.a, .int .u64 d.v], .int .i64 0]) ∧ Below w.heap.size w w') := ⟨fun w => by have := HDE.out w; rw [hdd] at this; exact this⟩
          have hne := c7_ne.1 (HDN.out d hdd)
          simp only at hne
          clear HDE HDN hdd HKEY HXS HH
          go_wp2_with fail
          refine (HD6.out _).mono ?_
          rintro e w3 ⟨rfl, hb⟩
          have hba := below_alloc hb (.cells #[.int .u8 d.k, .int .i64 d.p, .int .i64 d.g, .int .i64 d.n, .int .u8 d.m, .int .u64 d.a, .int .u64 d.v] 26)
          have HB4 := Aside0.mk (below_step HB3.out hba)
          have HC4 := Aside0.mk (HC3.out.later hba)
          have HD9 : Bl (w3.alloc (.cells #[.int .u8 d.k, .int .i64 d.p, .int .i64 d.g, .int .i64 d.n, .int .u8 d.m, .int .u64 d.a, .int .u64 d.v] 26)) w3.heap.size 26 d.cells := heap_alloc_new w3 _
          clear hb hba HB3 HC3 HZB z0 z1 z2 z3 z4 z5 p0 p1 p2 p3 p4 p5 HR2 HB2 HC2 HBw HCw
          obtain ⟨d0, d1, d2, d3, d4, d5, d6⟩ := HD9.cells7
          obtain ⟨q0, q1, q2, q3, q4, q5, q6⟩ := HC4.out.cells7
          clear HD9
          go_wp2_with fail
          go_ret
          exact ⟨rfl, HB4.out⟩
      · obtain ⟨hz0, hz1⟩ := HXS.out.2.2.2.2.1
        obtain ⟨z, hzz⟩ : ∃ z, bits .xor .u64 x4 1 = z := ⟨_, rfl⟩
        rw [hzz] at hz0 hz1
        have HZB : Aside0 (Bl (w2.alloc (.cells #[.int .u64 k, .int .u64 x1, .int .u64 x2, .int .u64 x3, .int .u64 z, .int .u64 x5] 24)) w2.heap.size 24 (raw k x1 x2 x3 z x5)) := ⟨heap_alloc_new w2 _⟩
        have HDN : Aside0 (∀ d, dec k x1 x2 x3 z x5 = some d → d ≠ ⟨k, p, g, n, m, a, v⟩) := ⟨HKEY.out k x1 x2 x3 z x5 HH.out.1 HH.out.2.1 HH.out.2.2.1 HH.out.2.2.2.1 hz0 HH.out.2.2.2.2.2 (fun h => by have := raw_inj h; omega)⟩
        have HDE := Aside0.mk (fun w => decode_any k x1 x2 x3 z x5 w HH.out.1 HH.out.2.1 HH.out.2.2.1 HH.out.2.2.2.1 hz0 HH.out.2.2.2.2.2)
        have HB3 := Aside0.mk (below_alloc HBw.out (.cells #[.int .u64 k, .int .u64 x1, .int .u64 x2, .int .u64 x3, .int .u64 z, .int .u64 x5] 24))
        have HC3 := Aside0.mk (HCw.out.later (below_alloc (Below.refl _ _) (.cells #[.int .u64 k, .int .u64 x1, .int .u64 x2, .int .u64 x3, .int .u64 z, .int .u64 x5] 24)))
        clear hz0 hz1
        obtain ⟨z0, z1, z2, z3, z4, z5⟩ := HZB.out.cells6
        cases hdd : dec k x1 x2 x3 z x5 with
        | none =>
          have HD6 : Aside0 (∀ w, Calls Try.prog 9 #[.agg #[.int .u64 k, .int .u64 x1, .int .u64 x2, .int .u64 x3, .int .u64 z, .int .u64 x5]] w fun e w' => e = .returned (.tuple #[.agg #[.int .u8 0, .int .i64 0, .int .i64 0, .int .i64 0, .int .u8 0, .int .u64 0, .int .u64 0], .int .i64 250]) ∧ Below w.heap.size w w') := ⟨fun w => by have := HDE.out w; rw [hdd] at this; exact this⟩
          clear HDE HDN hdd HKEY HXS HH
          go_wp2_with fail
          refine (HD6.out _).mono ?_
          rintro e w3 ⟨rfl, hb⟩
          have hba := below_alloc hb (.cells #[.int .u8 0, .int .i64 0, .int .i64 0, .int .i64 0, .int .u8 0, .int .u64 0, .int .u64 0] 26)
          have HB4 := Aside0.mk (below_step HB3.out hba)
          have HD9 : Bl (w3.alloc (.cells #[.int .u8 0, .int .i64 0, .int .i64 0, .int .i64 0, .int .u8 0, .int .u64 0, .int .u64 0] 26)) w3.heap.size 26 c0.cells := heap_alloc_new w3 _
          clear hb hba HB3 HC3 HZB z0 z1 z2 z3 z4 z5 p0 p1 p2 p3 p4 p5 HR2 HB2 HC2 HBw HCw
          obtain ⟨d0, d1, d2, d3, d4, d5, d6⟩ := HD9.cells7
          simp only [c0] at d0 d1 d2 d3 d4 d5 d6
          have hq : eq7 0 0 0 0 0 0 0 0 0 0 0 0 0 0 = true := by decide
          clear HD9
          go_wp2_with fail
          go_ret
          exact ⟨rfl, HB4.out⟩
        | some d =>
          have HD6 : Aside0 (∀ w, Calls Try.prog 9 #[.agg #[.int .u64 k, .int .u64 x1, .int .u64 x2, .int .u64 x3, .int .u64 z, .int .u64 x5]] w fun e w' => e = .returned (.tuple #[.agg #[.int .u8 d.k, .int .i64 d.p, .int .i64 d.g, .int .i64 d.n, .int .u8 d.m, .int .u64 d.a, .int .u64 d.v], .int .i64 0]) ∧ Below w.heap.size w w') := ⟨fun w => by have := HDE.out w; rw [hdd] at this; exact this⟩
          have hne := c7_ne.1 (HDN.out d hdd)
          simp only at hne
          clear HDE HDN hdd HKEY HXS HH
          go_wp2_with fail
          refine (HD6.out _).mono ?_
          rintro e w3 ⟨rfl, hb⟩
          have hba := below_alloc hb (.cells #[.int .u8 d.k, .int .i64 d.p, .int .i64 d.g, .int .i64 d.n, .int .u8 d.m, .int .u64 d.a, .int .u64 d.v] 26)
          have HB4 := Aside0.mk (below_step HB3.out hba)
          have HC4 := Aside0.mk (HC3.out.later hba)
          have HD9 : Bl (w3.alloc (.cells #[.int .u8 d.k, .int .i64 d.p, .int .i64 d.g, .int .i64 d.n, .int .u8 d.m, .int .u64 d.a, .int .u64 d.v] 26)) w3.heap.size 26 d.cells := heap_alloc_new w3 _
          clear hb hba HB3 HC3 HZB z0 z1 z2 z3 z4 z5 p0 p1 p2 p3 p4 p5 HR2 HB2 HC2 HBw HCw
          obtain ⟨d0, d1, d2, d3, d4, d5, d6⟩ := HD9.cells7
          obtain ⟨q0, q1, q2, q3, q4, q5, q6⟩ := HC4.out.cells7
          clear HD9
          go_wp2_with fail
          go_ret
          exact ⟨rfl, HB4.out⟩
      · obtain ⟨hz0, hz1⟩ := HXS.out.2.2.2.2.2
        obtain ⟨z, hzz⟩ : ∃ z, bits .xor .u64 x5 1 = z := ⟨_, rfl⟩
        rw [hzz] at hz0 hz1
        have HZB : Aside0 (Bl (w2.alloc (.cells #[.int .u64 k, .int .u64 x1, .int .u64 x2, .int .u64 x3, .int .u64 x4, .int .u64 z] 24)) w2.heap.size 24 (raw k x1 x2 x3 x4 z)) := ⟨heap_alloc_new w2 _⟩
        have HDN : Aside0 (∀ d, dec k x1 x2 x3 x4 z = some d → d ≠ ⟨k, p, g, n, m, a, v⟩) := ⟨HKEY.out k x1 x2 x3 x4 z HH.out.1 HH.out.2.1 HH.out.2.2.1 HH.out.2.2.2.1 HH.out.2.2.2.2.1 hz0 (fun h => by have := raw_inj h; omega)⟩
        have HDE := Aside0.mk (fun w => decode_any k x1 x2 x3 x4 z w HH.out.1 HH.out.2.1 HH.out.2.2.1 HH.out.2.2.2.1 HH.out.2.2.2.2.1 hz0)
        have HB3 := Aside0.mk (below_alloc HBw.out (.cells #[.int .u64 k, .int .u64 x1, .int .u64 x2, .int .u64 x3, .int .u64 x4, .int .u64 z] 24))
        have HC3 := Aside0.mk (HCw.out.later (below_alloc (Below.refl _ _) (.cells #[.int .u64 k, .int .u64 x1, .int .u64 x2, .int .u64 x3, .int .u64 x4, .int .u64 z] 24)))
        clear hz0 hz1
        obtain ⟨z0, z1, z2, z3, z4, z5⟩ := HZB.out.cells6
        cases hdd : dec k x1 x2 x3 x4 z with
        | none =>
          have HD6 : Aside0 (∀ w, Calls Try.prog 9 #[.agg #[.int .u64 k, .int .u64 x1, .int .u64 x2, .int .u64 x3, .int .u64 x4, .int .u64 z]] w fun e w' => e = .returned (.tuple #[.agg #[.int .u8 0, .int .i64 0, .int .i64 0, .int .i64 0, .int .u8 0, .int .u64 0, .int .u64 0], .int .i64 250]) ∧ Below w.heap.size w w') := ⟨fun w => by have := HDE.out w; rw [hdd] at this; exact this⟩
          clear HDE HDN hdd HKEY HXS HH
          go_wp2_with fail
          refine (HD6.out _).mono ?_
          rintro e w3 ⟨rfl, hb⟩
          have hba := below_alloc hb (.cells #[.int .u8 0, .int .i64 0, .int .i64 0, .int .i64 0, .int .u8 0, .int .u64 0, .int .u64 0] 26)
          have HB4 := Aside0.mk (below_step HB3.out hba)
          have HD9 : Bl (w3.alloc (.cells #[.int .u8 0, .int .i64 0, .int .i64 0, .int .i64 0, .int .u8 0, .int .u64 0, .int .u64 0] 26)) w3.heap.size 26 c0.cells := heap_alloc_new w3 _
          clear hb hba HB3 HC3 HZB z0 z1 z2 z3 z4 z5 p0 p1 p2 p3 p4 p5 HR2 HB2 HC2 HBw HCw
          obtain ⟨d0, d1, d2, d3, d4, d5, d6⟩ := HD9.cells7
          simp only [c0] at d0 d1 d2 d3 d4 d5 d6
          have hq : eq7 0 0 0 0 0 0 0 0 0 0 0 0 0 0 = true := by decide
          clear HD9
          go_wp2_with fail
          go_ret
          exact ⟨rfl, HB4.out⟩
        | some d =>
          have HD6 : Aside0 (∀ w, Calls Try.prog 9 #[.agg #[.int .u64 k, .int .u64 x1, .int .u64 x2, .int .u64 x3, .int .u64 x4, .int .u64 z]] w fun e w' => e = .returned (.tuple #[.agg #[.int .u8 d.k, .int .i64 d.p, .int .i64 d.g, .int .i64 d.n, .int .u8 d.m, .int .u64 d.a, .int .u64 d.v], .int .i64 0]) ∧ Below w.heap.size w w') := ⟨fun w => by have := HDE.out w; rw [hdd] at this; exact this⟩
          have hne := c7_ne.1 (HDN.out d hdd)
          simp only at hne
          clear HDE HDN hdd HKEY HXS HH
          go_wp2_with fail
          refine (HD6.out _).mono ?_
          rintro e w3 ⟨rfl, hb⟩
          have hba := below_alloc hb (.cells #[.int .u8 d.k, .int .i64 d.p, .int .i64 d.g, .int .i64 d.n, .int .u8 d.m, .int .u64 d.a, .int .u64 d.v] 26)
          have HB4 := Aside0.mk (below_step HB3.out hba)
          have HC4 := Aside0.mk (HC3.out.later hba)
          have HD9 : Bl (w3.alloc (.cells #[.int .u8 d.k, .int .i64 d.p, .int .i64 d.g, .int .i64 d.n, .int .u8 d.m, .int .u64 d.a, .int .u64 d.v] 26)) w3.heap.size 26 d.cells := heap_alloc_new w3 _
          clear hb hba HB3 HC3 HZB z0 z1 z2 z3 z4 z5 p0 p1 p2 p3 p4 p5 HR2 HB2 HC2 HBw HCw
          obtain ⟨d0, d1, d2, d3, d4, d5, d6⟩ := HD9.cells7
          obtain ⟨q0, q1, q2, q3, q4, q5, q6⟩ := HC4.out.cells7
          clear HD9
          go_wp2_with fail
          go_ret
          exact ⟨rfl, HB4.out⟩
    · have hbb : (by_ == 0) = false := beq_eq_false_iff_ne.2 hbz
      obtain ⟨j0, j6⟩ := tmod6 at_
      generalize hJ : (wrap64 (at_.tmod 6 + 6)).tmod 6 = J at j0 j6
      have hjs : J = 0 ∨ J = 1 ∨ J = 2 ∨ J = 3 ∨ J = 4 ∨ J = 5 := by omega
      clear j0 j6
      have X0 := xor_turns (a := k) ⟨k0.1, by omega⟩ y0 hbz
      have X1 := xor_turns h1 y0 hbz
      have X2 := xor_turns h2 y0 hbz
      have X3 := xor_turns h3 y0 hbz
      have X4 := xor_turns h4 y0 hbz
      have X5 := xor_turns h5 y0 hbz
      have hkey : ∀ y0 y1 y2 y3 y4 y5 : Int, 0 ≤ y0 → 0 ≤ y1 → 0 ≤ y2 → 0 ≤ y3 → 0 ≤ y4 → 0 ≤ y5 → raw y0 y1 y2 y3 y4 y5 ≠ raw k x1 x2 x3 x4 x5 → ∀ d, dec y0 y1 y2 y3 y4 y5 = some d → d ≠ ⟨k, p, g, n, m, a, v⟩ := fun y0 y1 y2 y3 y4 y5 u0 u1 u2 u3 u4 u5 hne d hd hdc => by
        have := (dec_enc u0 u1 u2 u3 u4 u5 hd).1
        rw [hdc, HEE.out] at this
        exact hne (Option.some.inj this).symm
      have HKEY := Aside0.mk hkey
      have HXS := Aside0.mk (And.intro X0 (And.intro X1 (And.intro X2 (And.intro X3 (And.intro X4 X5)))))
      have HH := Aside0.mk (And.intro k0.1 (And.intro h1.1 (And.intro h2.1 (And.intro h3.1 (And.intro h4.1 h5.1)))))
      clear hkey X0 X1 X2 X3 X4 X5 h1 h2 h3 h4 h5 k0 a0 v0 y0 HDC HEE
      rcases hjs with rfl | rfl | rfl | rfl | rfl | rfl
      · obtain ⟨hz0, hz1⟩ := HXS.out.1
        obtain ⟨z, hzz⟩ : ∃ z, bits .xor .u64 k by_ = z := ⟨_, rfl⟩
        rw [hzz] at hz0 hz1
        have HZB : Aside0 (Bl (w2.alloc (.cells #[.int .u64 z, .int .u64 x1, .int .u64 x2, .int .u64 x3, .int .u64 x4, .int .u64 x5] 24)) w2.heap.size 24 (raw z x1 x2 x3 x4 x5)) := ⟨heap_alloc_new w2 _⟩
        have HDN : Aside0 (∀ d, dec z x1 x2 x3 x4 x5 = some d → d ≠ ⟨k, p, g, n, m, a, v⟩) := ⟨HKEY.out z x1 x2 x3 x4 x5 hz0 HH.out.2.1 HH.out.2.2.1 HH.out.2.2.2.1 HH.out.2.2.2.2.1 HH.out.2.2.2.2.2 (fun h => by have := raw_inj h; omega)⟩
        have HDE := Aside0.mk (fun w => decode_any z x1 x2 x3 x4 x5 w hz0 HH.out.2.1 HH.out.2.2.1 HH.out.2.2.2.1 HH.out.2.2.2.2.1 HH.out.2.2.2.2.2)
        have HB3 := Aside0.mk (below_alloc HBw.out (.cells #[.int .u64 z, .int .u64 x1, .int .u64 x2, .int .u64 x3, .int .u64 x4, .int .u64 x5] 24))
        have HC3 := Aside0.mk (HCw.out.later (below_alloc (Below.refl _ _) (.cells #[.int .u64 z, .int .u64 x1, .int .u64 x2, .int .u64 x3, .int .u64 x4, .int .u64 x5] 24)))
        clear hz0 hz1
        obtain ⟨z0, z1, z2, z3, z4, z5⟩ := HZB.out.cells6
        cases hdd : dec z x1 x2 x3 x4 x5 with
        | none =>
          have HD6 : Aside0 (∀ w, Calls Try.prog 9 #[.agg #[.int .u64 z, .int .u64 x1, .int .u64 x2, .int .u64 x3, .int .u64 x4, .int .u64 x5]] w fun e w' => e = .returned (.tuple #[.agg #[.int .u8 0, .int .i64 0, .int .i64 0, .int .i64 0, .int .u8 0, .int .u64 0, .int .u64 0], .int .i64 250]) ∧ Below w.heap.size w w') := ⟨fun w => by have := HDE.out w; rw [hdd] at this; exact this⟩
          clear HDE HDN hdd HKEY HXS HH
          go_wp2_with fail
          refine (HD6.out _).mono ?_
          rintro e w3 ⟨rfl, hb⟩
          have hba := below_alloc hb (.cells #[.int .u8 0, .int .i64 0, .int .i64 0, .int .i64 0, .int .u8 0, .int .u64 0, .int .u64 0] 26)
          have HB4 := Aside0.mk (below_step HB3.out hba)
          have HD9 : Bl (w3.alloc (.cells #[.int .u8 0, .int .i64 0, .int .i64 0, .int .i64 0, .int .u8 0, .int .u64 0, .int .u64 0] 26)) w3.heap.size 26 c0.cells := heap_alloc_new w3 _
          clear hb hba HB3 HC3 HZB z0 z1 z2 z3 z4 z5 p0 p1 p2 p3 p4 p5 HR2 HB2 HC2 HBw HCw
          obtain ⟨d0, d1, d2, d3, d4, d5, d6⟩ := HD9.cells7
          simp only [c0] at d0 d1 d2 d3 d4 d5 d6
          have hq : eq7 0 0 0 0 0 0 0 0 0 0 0 0 0 0 = true := by decide
          clear HD9
          go_wp2_with fail
          go_ret
          exact ⟨rfl, HB4.out⟩
        | some d =>
          have HD6 : Aside0 (∀ w, Calls Try.prog 9 #[.agg #[.int .u64 z, .int .u64 x1, .int .u64 x2, .int .u64 x3, .int .u64 x4, .int .u64 x5]] w fun e w' => e = .returned (.tuple #[.agg #[.int .u8 d.k, .int .i64 d.p, .int .i64 d.g, .int .i64 d.n, .int .u8 d.m, .int .u64 d.a, .int .u64 d.v], .int .i64 0]) ∧ Below w.heap.size w w') := ⟨fun w => by have := HDE.out w; rw [hdd] at this; exact this⟩
          have hne := c7_ne.1 (HDN.out d hdd)
          simp only at hne
          clear HDE HDN hdd HKEY HXS HH
          go_wp2_with fail
          refine (HD6.out _).mono ?_
          rintro e w3 ⟨rfl, hb⟩
          have hba := below_alloc hb (.cells #[.int .u8 d.k, .int .i64 d.p, .int .i64 d.g, .int .i64 d.n, .int .u8 d.m, .int .u64 d.a, .int .u64 d.v] 26)
          have HB4 := Aside0.mk (below_step HB3.out hba)
          have HC4 := Aside0.mk (HC3.out.later hba)
          have HD9 : Bl (w3.alloc (.cells #[.int .u8 d.k, .int .i64 d.p, .int .i64 d.g, .int .i64 d.n, .int .u8 d.m, .int .u64 d.a, .int .u64 d.v] 26)) w3.heap.size 26 d.cells := heap_alloc_new w3 _
          clear hb hba HB3 HC3 HZB z0 z1 z2 z3 z4 z5 p0 p1 p2 p3 p4 p5 HR2 HB2 HC2 HBw HCw
          obtain ⟨d0, d1, d2, d3, d4, d5, d6⟩ := HD9.cells7
          obtain ⟨q0, q1, q2, q3, q4, q5, q6⟩ := HC4.out.cells7
          clear HD9
          go_wp2_with fail
          go_ret
          exact ⟨rfl, HB4.out⟩
      · obtain ⟨hz0, hz1⟩ := HXS.out.2.1
        obtain ⟨z, hzz⟩ : ∃ z, bits .xor .u64 x1 by_ = z := ⟨_, rfl⟩
        rw [hzz] at hz0 hz1
        have HZB : Aside0 (Bl (w2.alloc (.cells #[.int .u64 k, .int .u64 z, .int .u64 x2, .int .u64 x3, .int .u64 x4, .int .u64 x5] 24)) w2.heap.size 24 (raw k z x2 x3 x4 x5)) := ⟨heap_alloc_new w2 _⟩
        have HDN : Aside0 (∀ d, dec k z x2 x3 x4 x5 = some d → d ≠ ⟨k, p, g, n, m, a, v⟩) := ⟨HKEY.out k z x2 x3 x4 x5 HH.out.1 hz0 HH.out.2.2.1 HH.out.2.2.2.1 HH.out.2.2.2.2.1 HH.out.2.2.2.2.2 (fun h => by have := raw_inj h; omega)⟩
        have HDE := Aside0.mk (fun w => decode_any k z x2 x3 x4 x5 w HH.out.1 hz0 HH.out.2.2.1 HH.out.2.2.2.1 HH.out.2.2.2.2.1 HH.out.2.2.2.2.2)
        have HB3 := Aside0.mk (below_alloc HBw.out (.cells #[.int .u64 k, .int .u64 z, .int .u64 x2, .int .u64 x3, .int .u64 x4, .int .u64 x5] 24))
        have HC3 := Aside0.mk (HCw.out.later (below_alloc (Below.refl _ _) (.cells #[.int .u64 k, .int .u64 z, .int .u64 x2, .int .u64 x3, .int .u64 x4, .int .u64 x5] 24)))
        clear hz0 hz1
        obtain ⟨z0, z1, z2, z3, z4, z5⟩ := HZB.out.cells6
        cases hdd : dec k z x2 x3 x4 x5 with
        | none =>
          have HD6 : Aside0 (∀ w, Calls Try.prog 9 #[.agg #[.int .u64 k, .int .u64 z, .int .u64 x2, .int .u64 x3, .int .u64 x4, .int .u64 x5]] w fun e w' => e = .returned (.tuple #[.agg #[.int .u8 0, .int .i64 0, .int .i64 0, .int .i64 0, .int .u8 0, .int .u64 0, .int .u64 0], .int .i64 250]) ∧ Below w.heap.size w w') := ⟨fun w => by have := HDE.out w; rw [hdd] at this; exact this⟩
          clear HDE HDN hdd HKEY HXS HH
          go_wp2_with fail
          refine (HD6.out _).mono ?_
          rintro e w3 ⟨rfl, hb⟩
          have hba := below_alloc hb (.cells #[.int .u8 0, .int .i64 0, .int .i64 0, .int .i64 0, .int .u8 0, .int .u64 0, .int .u64 0] 26)
          have HB4 := Aside0.mk (below_step HB3.out hba)
          have HD9 : Bl (w3.alloc (.cells #[.int .u8 0, .int .i64 0, .int .i64 0, .int .i64 0, .int .u8 0, .int .u64 0, .int .u64 0] 26)) w3.heap.size 26 c0.cells := heap_alloc_new w3 _
          clear hb hba HB3 HC3 HZB z0 z1 z2 z3 z4 z5 p0 p1 p2 p3 p4 p5 HR2 HB2 HC2 HBw HCw
          obtain ⟨d0, d1, d2, d3, d4, d5, d6⟩ := HD9.cells7
          simp only [c0] at d0 d1 d2 d3 d4 d5 d6
          have hq : eq7 0 0 0 0 0 0 0 0 0 0 0 0 0 0 = true := by decide
          clear HD9
          go_wp2_with fail
          go_ret
          exact ⟨rfl, HB4.out⟩
        | some d =>
          have HD6 : Aside0 (∀ w, Calls Try.prog 9 #[.agg #[.int .u64 k, .int .u64 z, .int .u64 x2, .int .u64 x3, .int .u64 x4, .int .u64 x5]] w fun e w' => e = .returned (.tuple #[.agg #[.int .u8 d.k, .int .i64 d.p, .int .i64 d.g, .int .i64 d.n, .int .u8 d.m, .int .u64 d.a, .int .u64 d.v], .int .i64 0]) ∧ Below w.heap.size w w') := ⟨fun w => by have := HDE.out w; rw [hdd] at this; exact this⟩
          have hne := c7_ne.1 (HDN.out d hdd)
          simp only at hne
          clear HDE HDN hdd HKEY HXS HH
          go_wp2_with fail
          refine (HD6.out _).mono ?_
          rintro e w3 ⟨rfl, hb⟩
          have hba := below_alloc hb (.cells #[.int .u8 d.k, .int .i64 d.p, .int .i64 d.g, .int .i64 d.n, .int .u8 d.m, .int .u64 d.a, .int .u64 d.v] 26)
          have HB4 := Aside0.mk (below_step HB3.out hba)
          have HC4 := Aside0.mk (HC3.out.later hba)
          have HD9 : Bl (w3.alloc (.cells #[.int .u8 d.k, .int .i64 d.p, .int .i64 d.g, .int .i64 d.n, .int .u8 d.m, .int .u64 d.a, .int .u64 d.v] 26)) w3.heap.size 26 d.cells := heap_alloc_new w3 _
          clear hb hba HB3 HC3 HZB z0 z1 z2 z3 z4 z5 p0 p1 p2 p3 p4 p5 HR2 HB2 HC2 HBw HCw
          obtain ⟨d0, d1, d2, d3, d4, d5, d6⟩ := HD9.cells7
          obtain ⟨q0, q1, q2, q3, q4, q5, q6⟩ := HC4.out.cells7
          clear HD9
          go_wp2_with fail
          go_ret
          exact ⟨rfl, HB4.out⟩
      · obtain ⟨hz0, hz1⟩ := HXS.out.2.2.1
        obtain ⟨z, hzz⟩ : ∃ z, bits .xor .u64 x2 by_ = z := ⟨_, rfl⟩
        rw [hzz] at hz0 hz1
        have HZB : Aside0 (Bl (w2.alloc (.cells #[.int .u64 k, .int .u64 x1, .int .u64 z, .int .u64 x3, .int .u64 x4, .int .u64 x5] 24)) w2.heap.size 24 (raw k x1 z x3 x4 x5)) := ⟨heap_alloc_new w2 _⟩
        have HDN : Aside0 (∀ d, dec k x1 z x3 x4 x5 = some d → d ≠ ⟨k, p, g, n, m, a, v⟩) := ⟨HKEY.out k x1 z x3 x4 x5 HH.out.1 HH.out.2.1 hz0 HH.out.2.2.2.1 HH.out.2.2.2.2.1 HH.out.2.2.2.2.2 (fun h => by have := raw_inj h; omega)⟩
        have HDE := Aside0.mk (fun w => decode_any k x1 z x3 x4 x5 w HH.out.1 HH.out.2.1 hz0 HH.out.2.2.2.1 HH.out.2.2.2.2.1 HH.out.2.2.2.2.2)
        have HB3 := Aside0.mk (below_alloc HBw.out (.cells #[.int .u64 k, .int .u64 x1, .int .u64 z, .int .u64 x3, .int .u64 x4, .int .u64 x5] 24))
        have HC3 := Aside0.mk (HCw.out.later (below_alloc (Below.refl _ _) (.cells #[.int .u64 k, .int .u64 x1, .int .u64 z, .int .u64 x3, .int .u64 x4, .int .u64 x5] 24)))
        clear hz0 hz1
        obtain ⟨z0, z1, z2, z3, z4, z5⟩ := HZB.out.cells6
        cases hdd : dec k x1 z x3 x4 x5 with
        | none =>
          have HD6 : Aside0 (∀ w, Calls Try.prog 9 #[.agg #[.int .u64 k, .int .u64 x1, .int .u64 z, .int .u64 x3, .int .u64 x4, .int .u64 x5]] w fun e w' => e = .returned (.tuple #[.agg #[.int .u8 0, .int .i64 0, .int .i64 0, .int .i64 0, .int .u8 0, .int .u64 0, .int .u64 0], .int .i64 250]) ∧ Below w.heap.size w w') := ⟨fun w => by have := HDE.out w; rw [hdd] at this; exact this⟩
          clear HDE HDN hdd HKEY HXS HH
          go_wp2_with fail
          refine (HD6.out _).mono ?_
          rintro e w3 ⟨rfl, hb⟩
          have hba := below_alloc hb (.cells #[.int .u8 0, .int .i64 0, .int .i64 0, .int .i64 0, .int .u8 0, .int .u64 0, .int .u64 0] 26)
          have HB4 := Aside0.mk (below_step HB3.out hba)
          have HD9 : Bl (w3.alloc (.cells #[.int .u8 0, .int .i64 0, .int .i64 0, .int .i64 0, .int .u8 0, .int .u64 0, .int .u64 0] 26)) w3.heap.size 26 c0.cells := heap_alloc_new w3 _
          clear hb hba HB3 HC3 HZB z0 z1 z2 z3 z4 z5 p0 p1 p2 p3 p4 p5 HR2 HB2 HC2 HBw HCw
          obtain ⟨d0, d1, d2, d3, d4, d5, d6⟩ := HD9.cells7
          simp only [c0] at d0 d1 d2 d3 d4 d5 d6
          have hq : eq7 0 0 0 0 0 0 0 0 0 0 0 0 0 0 = true := by decide
          clear HD9
          go_wp2_with fail
          go_ret
          exact ⟨rfl, HB4.out⟩
        | some d =>
          have HD6 : Aside0 (∀ w, Calls Try.prog 9 #[.agg #[.int .u64 k, .int .u64 x1, .int .u64 z, .int .u64 x3, .int .u64 x4, .int .u64 x5]] w fun e w' => e = .returned (.tuple #[.agg #[.int .u8 d.k, .int .i64 d.p, .int .i64 d.g, .int .i64 d.n, .int .u8 d.m, .int .u64 d.a, .int .u64 d.v], .int .i64 0]) ∧ Below w.heap.size w w') := ⟨fun w => by have := HDE.out w; rw [hdd] at this; exact this⟩
          have hne := c7_ne.1 (HDN.out d hdd)
          simp only at hne
          clear HDE HDN hdd HKEY HXS HH
          go_wp2_with fail
          refine (HD6.out _).mono ?_
          rintro e w3 ⟨rfl, hb⟩
          have hba := below_alloc hb (.cells #[.int .u8 d.k, .int .i64 d.p, .int .i64 d.g, .int .i64 d.n, .int .u8 d.m, .int .u64 d.a, .int .u64 d.v] 26)
          have HB4 := Aside0.mk (below_step HB3.out hba)
          have HC4 := Aside0.mk (HC3.out.later hba)
          have HD9 : Bl (w3.alloc (.cells #[.int .u8 d.k, .int .i64 d.p, .int .i64 d.g, .int .i64 d.n, .int .u8 d.m, .int .u64 d.a, .int .u64 d.v] 26)) w3.heap.size 26 d.cells := heap_alloc_new w3 _
          clear hb hba HB3 HC3 HZB z0 z1 z2 z3 z4 z5 p0 p1 p2 p3 p4 p5 HR2 HB2 HC2 HBw HCw
          obtain ⟨d0, d1, d2, d3, d4, d5, d6⟩ := HD9.cells7
          obtain ⟨q0, q1, q2, q3, q4, q5, q6⟩ := HC4.out.cells7
          clear HD9
          go_wp2_with fail
          go_ret
          exact ⟨rfl, HB4.out⟩
      · obtain ⟨hz0, hz1⟩ := HXS.out.2.2.2.1
        obtain ⟨z, hzz⟩ : ∃ z, bits .xor .u64 x3 by_ = z := ⟨_, rfl⟩
        rw [hzz] at hz0 hz1
        have HZB : Aside0 (Bl (w2.alloc (.cells #[.int .u64 k, .int .u64 x1, .int .u64 x2, .int .u64 z, .int .u64 x4, .int .u64 x5] 24)) w2.heap.size 24 (raw k x1 x2 z x4 x5)) := ⟨heap_alloc_new w2 _⟩
        have HDN : Aside0 (∀ d, dec k x1 x2 z x4 x5 = some d → d ≠ ⟨k, p, g, n, m, a, v⟩) := ⟨HKEY.out k x1 x2 z x4 x5 HH.out.1 HH.out.2.1 HH.out.2.2.1 hz0 HH.out.2.2.2.2.1 HH.out.2.2.2.2.2 (fun h => by have := raw_inj h; omega)⟩
        have HDE := Aside0.mk (fun w => decode_any k x1 x2 z x4 x5 w HH.out.1 HH.out.2.1 HH.out.2.2.1 hz0 HH.out.2.2.2.2.1 HH.out.2.2.2.2.2)
        have HB3 := Aside0.mk (below_alloc HBw.out (.cells #[.int .u64 k, .int .u64 x1, .int .u64 x2, .int .u64 z, .int .u64 x4, .int .u64 x5] 24))
        have HC3 := Aside0.mk (HCw.out.later (below_alloc (Below.refl _ _) (.cells #[.int .u64 k, .int .u64 x1, .int .u64 x2, .int .u64 z, .int .u64 x4, .int .u64 x5] 24)))
        clear hz0 hz1
        obtain ⟨z0, z1, z2, z3, z4, z5⟩ := HZB.out.cells6
        cases hdd : dec k x1 x2 z x4 x5 with
        | none =>
          have HD6 : Aside0 (∀ w, Calls Try.prog 9 #[.agg #[.int .u64 k, .int .u64 x1, .int .u64 x2, .int .u64 z, .int .u64 x4, .int .u64 x5]] w fun e w' => e = .returned (.tuple #[.agg #[.int .u8 0, .int .i64 0, .int .i64 0, .int .i64 0, .int .u8 0, .int .u64 0, .int .u64 0], .int .i64 250]) ∧ Below w.heap.size w w') := ⟨fun w => by have := HDE.out w; rw [hdd] at this; exact this⟩
          clear HDE HDN hdd HKEY HXS HH
          go_wp2_with fail
          refine (HD6.out _).mono ?_
          rintro e w3 ⟨rfl, hb⟩
          have hba := below_alloc hb (.cells #[.int .u8 0, .int .i64 0, .int .i64 0, .int .i64 0, .int .u8 0, .int .u64 0, .int .u64 0] 26)
          have HB4 := Aside0.mk (below_step HB3.out hba)
          have HD9 : Bl (w3.alloc (.cells #[.int .u8 0, .int .i64 0, .int .i64 0, .int .i64 0, .int .u8 0, .int .u64 0, .int .u64 0] 26)) w3.heap.size 26 c0.cells := heap_alloc_new w3 _
          clear hb hba HB3 HC3 HZB z0 z1 z2 z3 z4 z5 p0 p1 p2 p3 p4 p5 HR2 HB2 HC2 HBw HCw
          obtain ⟨d0, d1, d2, d3, d4, d5, d6⟩ := HD9.cells7
          simp only [c0] at d0 d1 d2 d3 d4 d5 d6
          have hq : eq7 0 0 0 0 0 0 0 0 0 0 0 0 0 0 = true := by decide
          clear HD9
          go_wp2_with fail
          go_ret
          exact ⟨rfl, HB4.out⟩
        | some d =>
          have HD6 : Aside0 (∀ w, Calls Try.prog 9 #[.agg #[.int .u64 k, .int .u64 x1, .int .u64 x2, .int .u64 z, .int .u64 x4, .int .u64 x5]] w fun e w' => e = .returned (.tuple #[.agg #[.int .u8 d.k, .int .i64 d.p, .int .i64 d.g, .int .i64 d.n, .int .u8 d.m, .int .u64 d.a, .int .u64 d.v], .int .i64 0]) ∧ Below w.heap.size w w') := ⟨fun w => by have := HDE.out w; rw [hdd] at this; exact this⟩
          have hne := c7_ne.1 (HDN.out d hdd)
          simp only at hne
          clear HDE HDN hdd HKEY HXS HH
          go_wp2_with fail
          refine (HD6.out _).mono ?_
          rintro e w3 ⟨rfl, hb⟩
          have hba := below_alloc hb (.cells #[.int .u8 d.k, .int .i64 d.p, .int .i64 d.g, .int .i64 d.n, .int .u8 d.m, .int .u64 d.a, .int .u64 d.v] 26)
          have HB4 := Aside0.mk (below_step HB3.out hba)
          have HC4 := Aside0.mk (HC3.out.later hba)
          have HD9 : Bl (w3.alloc (.cells #[.int .u8 d.k, .int .i64 d.p, .int .i64 d.g, .int .i64 d.n, .int .u8 d.m, .int .u64 d.a, .int .u64 d.v] 26)) w3.heap.size 26 d.cells := heap_alloc_new w3 _
          clear hb hba HB3 HC3 HZB z0 z1 z2 z3 z4 z5 p0 p1 p2 p3 p4 p5 HR2 HB2 HC2 HBw HCw
          obtain ⟨d0, d1, d2, d3, d4, d5, d6⟩ := HD9.cells7
          obtain ⟨q0, q1, q2, q3, q4, q5, q6⟩ := HC4.out.cells7
          clear HD9
          go_wp2_with fail
          go_ret
          exact ⟨rfl, HB4.out⟩
      · obtain ⟨hz0, hz1⟩ := HXS.out.2.2.2.2.1
        obtain ⟨z, hzz⟩ : ∃ z, bits .xor .u64 x4 by_ = z := ⟨_, rfl⟩
        rw [hzz] at hz0 hz1
        have HZB : Aside0 (Bl (w2.alloc (.cells #[.int .u64 k, .int .u64 x1, .int .u64 x2, .int .u64 x3, .int .u64 z, .int .u64 x5] 24)) w2.heap.size 24 (raw k x1 x2 x3 z x5)) := ⟨heap_alloc_new w2 _⟩
        have HDN : Aside0 (∀ d, dec k x1 x2 x3 z x5 = some d → d ≠ ⟨k, p, g, n, m, a, v⟩) := ⟨HKEY.out k x1 x2 x3 z x5 HH.out.1 HH.out.2.1 HH.out.2.2.1 HH.out.2.2.2.1 hz0 HH.out.2.2.2.2.2 (fun h => by have := raw_inj h; omega)⟩
        have HDE := Aside0.mk (fun w => decode_any k x1 x2 x3 z x5 w HH.out.1 HH.out.2.1 HH.out.2.2.1 HH.out.2.2.2.1 hz0 HH.out.2.2.2.2.2)
        have HB3 := Aside0.mk (below_alloc HBw.out (.cells #[.int .u64 k, .int .u64 x1, .int .u64 x2, .int .u64 x3, .int .u64 z, .int .u64 x5] 24))
        have HC3 := Aside0.mk (HCw.out.later (below_alloc (Below.refl _ _) (.cells #[.int .u64 k, .int .u64 x1, .int .u64 x2, .int .u64 x3, .int .u64 z, .int .u64 x5] 24)))
        clear hz0 hz1
        obtain ⟨z0, z1, z2, z3, z4, z5⟩ := HZB.out.cells6
        cases hdd : dec k x1 x2 x3 z x5 with
        | none =>
          have HD6 : Aside0 (∀ w, Calls Try.prog 9 #[.agg #[.int .u64 k, .int .u64 x1, .int .u64 x2, .int .u64 x3, .int .u64 z, .int .u64 x5]] w fun e w' => e = .returned (.tuple #[.agg #[.int .u8 0, .int .i64 0, .int .i64 0, .int .i64 0, .int .u8 0, .int .u64 0, .int .u64 0], .int .i64 250]) ∧ Below w.heap.size w w') := ⟨fun w => by have := HDE.out w; rw [hdd] at this; exact this⟩
          clear HDE HDN hdd HKEY HXS HH
          go_wp2_with fail
          refine (HD6.out _).mono ?_
          rintro e w3 ⟨rfl, hb⟩
          have hba := below_alloc hb (.cells #[.int .u8 0, .int .i64 0, .int .i64 0, .int .i64 0, .int .u8 0, .int .u64 0, .int .u64 0] 26)
          have HB4 := Aside0.mk (below_step HB3.out hba)
          have HD9 : Bl (w3.alloc (.cells #[.int .u8 0, .int .i64 0, .int .i64 0, .int .i64 0, .int .u8 0, .int .u64 0, .int .u64 0] 26)) w3.heap.size 26 c0.cells := heap_alloc_new w3 _
          clear hb hba HB3 HC3 HZB z0 z1 z2 z3 z4 z5 p0 p1 p2 p3 p4 p5 HR2 HB2 HC2 HBw HCw
          obtain ⟨d0, d1, d2, d3, d4, d5, d6⟩ := HD9.cells7
          simp only [c0] at d0 d1 d2 d3 d4 d5 d6
          have hq : eq7 0 0 0 0 0 0 0 0 0 0 0 0 0 0 = true := by decide
          clear HD9
          go_wp2_with fail
          go_ret
          exact ⟨rfl, HB4.out⟩
        | some d =>
          have HD6 : Aside0 (∀ w, Calls Try.prog 9 #[.agg #[.int .u64 k, .int .u64 x1, .int .u64 x2, .int .u64 x3, .int .u64 z, .int .u64 x5]] w fun e w' => e = .returned (.tuple #[.agg #[.int .u8 d.k, .int .i64 d.p, .int .i64 d.g, .int .i64 d.n, .int .u8 d.m, .int .u64 d.a, .int .u64 d.v], .int .i64 0]) ∧ Below w.heap.size w w') := ⟨fun w => by have := HDE.out w; rw [hdd] at this; exact this⟩
          have hne := c7_ne.1 (HDN.out d hdd)
          simp only at hne
          clear HDE HDN hdd HKEY HXS HH
          go_wp2_with fail
          refine (HD6.out _).mono ?_
          rintro e w3 ⟨rfl, hb⟩
          have hba := below_alloc hb (.cells #[.int .u8 d.k, .int .i64 d.p, .int .i64 d.g, .int .i64 d.n, .int .u8 d.m, .int .u64 d.a, .int .u64 d.v] 26)
          have HB4 := Aside0.mk (below_step HB3.out hba)
          have HC4 := Aside0.mk (HC3.out.later hba)
          have HD9 : Bl (w3.alloc (.cells #[.int .u8 d.k, .int .i64 d.p, .int .i64 d.g, .int .i64 d.n, .int .u8 d.m, .int .u64 d.a, .int .u64 d.v] 26)) w3.heap.size 26 d.cells := heap_alloc_new w3 _
          clear hb hba HB3 HC3 HZB z0 z1 z2 z3 z4 z5 p0 p1 p2 p3 p4 p5 HR2 HB2 HC2 HBw HCw
          obtain ⟨d0, d1, d2, d3, d4, d5, d6⟩ := HD9.cells7
          obtain ⟨q0, q1, q2, q3, q4, q5, q6⟩ := HC4.out.cells7
          clear HD9
          go_wp2_with fail
          go_ret
          exact ⟨rfl, HB4.out⟩
      · obtain ⟨hz0, hz1⟩ := HXS.out.2.2.2.2.2
        obtain ⟨z, hzz⟩ : ∃ z, bits .xor .u64 x5 by_ = z := ⟨_, rfl⟩
        rw [hzz] at hz0 hz1
        have HZB : Aside0 (Bl (w2.alloc (.cells #[.int .u64 k, .int .u64 x1, .int .u64 x2, .int .u64 x3, .int .u64 x4, .int .u64 z] 24)) w2.heap.size 24 (raw k x1 x2 x3 x4 z)) := ⟨heap_alloc_new w2 _⟩
        have HDN : Aside0 (∀ d, dec k x1 x2 x3 x4 z = some d → d ≠ ⟨k, p, g, n, m, a, v⟩) := ⟨HKEY.out k x1 x2 x3 x4 z HH.out.1 HH.out.2.1 HH.out.2.2.1 HH.out.2.2.2.1 HH.out.2.2.2.2.1 hz0 (fun h => by have := raw_inj h; omega)⟩
        have HDE := Aside0.mk (fun w => decode_any k x1 x2 x3 x4 z w HH.out.1 HH.out.2.1 HH.out.2.2.1 HH.out.2.2.2.1 HH.out.2.2.2.2.1 hz0)
        have HB3 := Aside0.mk (below_alloc HBw.out (.cells #[.int .u64 k, .int .u64 x1, .int .u64 x2, .int .u64 x3, .int .u64 x4, .int .u64 z] 24))
        have HC3 := Aside0.mk (HCw.out.later (below_alloc (Below.refl _ _) (.cells #[.int .u64 k, .int .u64 x1, .int .u64 x2, .int .u64 x3, .int .u64 x4, .int .u64 z] 24)))
        clear hz0 hz1
        obtain ⟨z0, z1, z2, z3, z4, z5⟩ := HZB.out.cells6
        cases hdd : dec k x1 x2 x3 x4 z with
        | none =>
          have HD6 : Aside0 (∀ w, Calls Try.prog 9 #[.agg #[.int .u64 k, .int .u64 x1, .int .u64 x2, .int .u64 x3, .int .u64 x4, .int .u64 z]] w fun e w' => e = .returned (.tuple #[.agg #[.int .u8 0, .int .i64 0, .int .i64 0, .int .i64 0, .int .u8 0, .int .u64 0, .int .u64 0], .int .i64 250]) ∧ Below w.heap.size w w') := ⟨fun w => by have := HDE.out w; rw [hdd] at this; exact this⟩
          clear HDE HDN hdd HKEY HXS HH
          go_wp2_with fail
          refine (HD6.out _).mono ?_
          rintro e w3 ⟨rfl, hb⟩
          have hba := below_alloc hb (.cells #[.int .u8 0, .int .i64 0, .int .i64 0, .int .i64 0, .int .u8 0, .int .u64 0, .int .u64 0] 26)
          have HB4 := Aside0.mk (below_step HB3.out hba)
          have HD9 : Bl (w3.alloc (.cells #[.int .u8 0, .int .i64 0, .int .i64 0, .int .i64 0, .int .u8 0, .int .u64 0, .int .u64 0] 26)) w3.heap.size 26 c0.cells := heap_alloc_new w3 _
          clear hb hba HB3 HC3 HZB z0 z1 z2 z3 z4 z5 p0 p1 p2 p3 p4 p5 HR2 HB2 HC2 HBw HCw
          obtain ⟨d0, d1, d2, d3, d4, d5, d6⟩ := HD9.cells7
          simp only [c0] at d0 d1 d2 d3 d4 d5 d6
          have hq : eq7 0 0 0 0 0 0 0 0 0 0 0 0 0 0 = true := by decide
          clear HD9
          go_wp2_with fail
          go_ret
          exact ⟨rfl, HB4.out⟩
        | some d =>
          have HD6 : Aside0 (∀ w, Calls Try.prog 9 #[.agg #[.int .u64 k, .int .u64 x1, .int .u64 x2, .int .u64 x3, .int .u64 x4, .int .u64 z]] w fun e w' => e = .returned (.tuple #[.agg #[.int .u8 d.k, .int .i64 d.p, .int .i64 d.g, .int .i64 d.n, .int .u8 d.m, .int .u64 d.a, .int .u64 d.v], .int .i64 0]) ∧ Below w.heap.size w w') := ⟨fun w => by have := HDE.out w; rw [hdd] at this; exact this⟩
          have hne := c7_ne.1 (HDN.out d hdd)
          simp only at hne
          clear HDE HDN hdd HKEY HXS HH
          go_wp2_with fail
          refine (HD6.out _).mono ?_
          rintro e w3 ⟨rfl, hb⟩
          have hba := below_alloc hb (.cells #[.int .u8 d.k, .int .i64 d.p, .int .i64 d.g, .int .i64 d.n, .int .u8 d.m, .int .u64 d.a, .int .u64 d.v] 26)
          have HB4 := Aside0.mk (below_step HB3.out hba)
          have HC4 := Aside0.mk (HC3.out.later hba)
          have HD9 : Bl (w3.alloc (.cells #[.int .u8 d.k, .int .i64 d.p, .int .i64 d.g, .int .i64 d.n, .int .u8 d.m, .int .u64 d.a, .int .u64 d.v] 26)) w3.heap.size 26 d.cells := heap_alloc_new w3 _
          clear hb hba HB3 HC3 HZB z0 z1 z2 z3 z4 z5 p0 p1 p2 p3 p4 p5 HR2 HB2 HC2 HBw HCw
          obtain ⟨d0, d1, d2, d3, d4, d5, d6⟩ := HD9.cells7
          obtain ⟨q0, q1, q2, q3, q4, q5, q6⟩ := HC4.out.cells7
          clear HD9
          go_wp2_with fail
          go_ret
          exact ⟨rfl, HB4.out⟩
end Go.Proofs.Ytklnenaiolclaaa.H
