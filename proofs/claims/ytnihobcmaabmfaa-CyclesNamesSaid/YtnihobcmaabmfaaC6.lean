/- The law CyclesBegins by its contracts. -/
import Derived.Test.YtnihobcmaabmfaaC3
import Derived.Test.YtnihobcmaabmfaaHx1
import Derived.Test.YtnihobcmaabmfaaHx2
import Derived.Test.YtnihobcmaabmfaaR
namespace Go.Proofs.Ytnihobcmaabmfaa.H
open Go.RowKit Go.Proofs.YtnihobcmaabmfaaW.PrintWords Go.Proofs.YtnihobcmaabmfaaW.PrintLast Go.Proofs.YtnihobcmaabmfaaW.PrintMore
set_option linter.unusedVariables false
set_option linter.unusedSimpArgs false
set_option maxHeartbeats 4000000
set_option maxRecDepth 100000
theorem begin_same (a b c : Int) : ∃ x e, cycles_Begin.f a b c = some (x, e) ∧ cofferdamref05_Begin.f a b c = some (x, e) := by
  have hs : cofferdamref05_Begin.f a b c = cycles_Begin.f a b c := rfl
  rw [hs]
  unfold cycles_Begin.f cycles_may.f
  by_cases h : a > 1099511627776
  · rw [if_pos h]
    exact ⟨_, _, rfl, rfl⟩
  · rw [if_neg h]
    by_cases h1 : b ≥ 1
    · rw [if_pos h1]
      by_cases h2 : b ≤ 4194304
      · rw [if_pos h2]
        by_cases h3 : c ≤ 4194304
        · simp [h3]
        · simp [h3]
      · rw [if_neg h2]
        simp
    · rw [if_neg h1]
      simp
theorem up1 {j : Nat} (h : j < 1000000000000000000) : wrap64 ((j : Int) + 1) = ((j + 1 : Nat) : Int) := by unfold wrap64; omega
theorem turn_l0 (a : Int) (ha : 0 ≤ a) (l : List Int) (h0 : 1 ≤ l.length) (hl : l.length ≤ 64) : ∀ (t k j : Nat), j + t = l.length → t + 1 ≤ k → ∃ p e, cycles_Turn.l0 k a l l (l.length : Int) (j : Int) = some (p, e) ∧ cofferdamref05_Turn.l0 k a l (j : Int) = some (p, e) := by
  intro t
  induction t with
  | zero =>
    intro k j hj hk
    obtain ⟨k, rfl⟩ : ∃ q, k = q + 1 := ⟨k - 1, by omega⟩
    have hw : IntKind.u64.wrap (l.length : Int) = (l.length : Int) := by rw [IntKind.wrap_u64]; omega
    have m0 : 0 ≤ Int.tmod a (l.length : Int) := by rw [Int.tmod_eq_emod_of_nonneg ha]; exact Int.emod_nonneg _ (by omega)
    have m1 : Int.tmod a (l.length : Int) < (l.length : Int) := Int.tmod_lt_of_pos a (by omega)
    simp only [cycles_Turn.l0, cofferdamref05_Turn.l0, hw]
    generalize Int.tmod a (l.length : Int) = m at m0 m1
    have hm : wrap64 m = m := by unfold wrap64; omega
    rw [hm, if_neg (by omega), if_neg (by omega), if_pos m0, if_pos m1, if_neg (by omega)]
    exact ⟨_, _, rfl, rfl⟩
  | succ t ih =>
    intro k j hj hk
    obtain ⟨k, rfl⟩ : ∃ q, k = q + 1 := ⟨k - 1, by omega⟩
    have ih := ih k (j + 1) (by omega) (by omega)
    simp only [cycles_Turn.l0, cofferdamref05_Turn.l0]
    rw [if_pos (by omega), if_pos (by omega), if_pos (by omega), up1 (by omega)]
    by_cases hn : rd l (j : Int) < 0
    · rw [if_pos hn, if_pos hn, if_pos (by omega), if_pos (by omega)]
      exact ⟨_, _, rfl, rfl⟩
    · rw [if_neg hn, if_neg hn]
      by_cases h8 : rd l (j : Int) ≥ 8
      · rw [if_pos h8, if_pos h8, if_pos (by omega), if_pos (by omega)]
        exact ⟨_, _, rfl, rfl⟩
      · rw [if_neg h8, if_neg h8, if_pos (by omega), if_pos (by omega)]
        exact ih
theorem turn_same (a : Int) (ha : 0 ≤ a) (l : List Int) (k : Nat) (hk : 66 ≤ k) : ∃ p e, cycles_Turn.f k a l = some (p, e) ∧ cofferdamref05_Turn.f k a l = some (p, e) := by
  unfold cycles_Turn.f cofferdamref05_Turn.f
  by_cases h1 : a ≥ 1099511627776
  · rw [if_pos h1, if_pos h1]
    exact ⟨_, _, rfl, rfl⟩
  · rw [if_neg h1, if_neg h1]
    by_cases h2 : (l.length : Int) > 64
    · rw [if_pos h2, if_pos h2]
      exact ⟨_, _, rfl, rfl⟩
    · rw [if_neg h2, if_neg h2]
      by_cases h3 : (l.length : Int) = 0
      · rw [if_pos h3, if_pos h3]
        exact ⟨_, _, rfl, rfl⟩
      · rw [if_neg h3, if_neg h3]
        exact turn_l0 a ha l (by omega) (by omega) l.length k 0 (by omega) (by omega)
theorem eq_self_l (l : List Int) (hl : l.length < 1000000000000000000) : ∀ (t k j : Nat), j + t = l.length → t + 1 ≤ k → cofferdamref00_EqInts.l0 k l l (j : Int) = some true := by
  intro t
  induction t with
  | zero =>
    intro k j hj hk
    obtain ⟨k, rfl⟩ : ∃ q, k = q + 1 := ⟨k - 1, by omega⟩
    simp only [cofferdamref00_EqInts.l0]
    rw [if_neg (by omega)]
  | succ t ih =>
    intro k j hj hk
    obtain ⟨k, rfl⟩ : ∃ q, k = q + 1 := ⟨k - 1, by omega⟩
    simp only [cofferdamref00_EqInts.l0]
    rw [if_pos (by omega), if_pos (by omega), if_pos (by omega)]
    simp only [if_true]
    rw [up1 (by omega)]
    exact ih k (j + 1) (by omega) (by omega)
theorem eq_self (l : List Int) (hl : l.length < 1000000000000000000) (k : Nat) (hk : l.length + 1 ≤ k) : cofferdamref00_EqInts.f k l l = some true := by
  unfold cofferdamref00_EqInts.f
  rw [if_pos rfl]
  exact eq_self_l l hl l.length k 0 (by omega) hk
theorem two (w : World) (a b : Value) (t : TypeId) : (w.alloc (.cells #[a, b] t)).cell? ⟨w.heap.size, 0, none⟩ = some a ∧ (w.alloc (.cells #[a, b] t)).cell? ⟨w.heap.size, 1, none⟩ = some b :=
  ⟨blk_cell (heap_alloc_new w _) 0, blk_cell (heap_alloc_new w _) 1⟩
theorem u64_lo' {n : Int} (h : (Lit.int .u64 n).wf = true) : 0 ≤ n := by
  simp [Lit.wf, IntKind.min, IntKind.max, IntKind.signed, IntKind.bits] at h
  omega
theorem begins_any (a s p : Int) (A : Option Addr) (len cap : Nat) (z : List Int) (w : World) (h0 : (Lit.int .u64 a).wf = true) (h1 : (Lit.int .u64 s).wf = true) (h2 : (Lit.int .u64 p).wf = true) (w2 : Rw.IsRow .i64 w A len cap z) (y2 : len * 8 ≤ 140737488351232) :
    Calls Try.prog 5 #[.int .u64 a, .agg #[.int .u64 s, .int .u64 p], .slice A len cap] w fun e w' => e = .returned (.bool true) ∧ Below w.heap.size w w' := by
  obtain ⟨l, rfl, hr2, hm2, hw2, hc2⟩ := ReadsInt.ofRowC w2
  have hC := Aside0.mk (Kd.C_of_reads (d := (0 : Int)) (h1 := fun _ => rfl) hr2)
  have hc := Aside0.mk hc2
  have hn := u64_lo' h0
  clear hr2 hc2 w2 hw2 h0 h1 h2
  obtain ⟨b1, b2, hb1, hb2⟩ := begin_same a s p
  have Hb1 := Aside0.mk hb1
  have Hb2 := Aside0.mk hb2
  obtain ⟨t1, t2, ht1, ht2⟩ := turn_same a hn l 66 (Nat.le_refl _)
  have Ht1 := Aside0.mk ht1
  have Ht2 := Aside0.mk ht2
  have He := Aside0.mk (eq_self l (by omega) (l.length + 1) (Nat.le_refl _))
  have Hcp : Aside0 (cofferdamref00_CopyInts.f l = some l) := ⟨by unfold cofferdamref00_CopyInts.f; rw [if_pos (by simp; omega)]; simp⟩
  clear hb1 hb2 ht1 ht2
  obtain ⟨t0, t1'⟩ := two w (.int .u64 s) (.int .u64 p) 46
  have HB0 := Aside0.mk (below_alloc (Below.refl w.heap.size w) (.cells #[.int .u64 s, .int .u64 p] 46))
  go_enter Try.func5, Try.ntmps5
  go_wp2_with fail
  refine (cycles_Begin.calls a s p b1 b2 _ Hb1.out).mono ?_
  rintro e w1 ⟨rfl, hd⟩
  have c0 := pw_cell_below hd.below t0
  have c1 := pw_cell_below hd.below t1'
  have HB1 := Aside0.mk (below_step HB0.out hd.below)
  clear hd t0 t1' HB0 Hb1
  go_wp2_with fail
  refine (cofferdamref05_Begin.calls a s p b1 b2 _ Hb2.out).mono ?_
  rintro e w2 ⟨rfl, hd⟩
  have HB2 := Aside0.mk (below_step HB1.out hd.below)
  clear hd c0 c1 HB1 Hb2
  go_wp2_with fail
  refine (cofferdamref00_CopyInts.calls A cap l l _ (Kd.C_below hC.out HB2.out) hc.out Hcp.out).mono ?_
  rintro e w3 ⟨v, rfl, hv, hb⟩
  obtain ⟨A3, c3, rfl⟩ := Kd.R_slice hv
  have HV := Aside0.mk (Kd.R_reads' hv)
  have HB3 := Aside0.mk (below_step HB2.out hb)
  clear hv hb HB2 Hcp
  go_wp2_with fail
  refine (cycles_Turn.calls 66 a A3 c3 l t1 t2 _ HV.out.2.2 HV.out.2.1 Ht1.out).mono ?_
  rintro e w4 ⟨rfl, hd⟩
  have HV4 := Aside0.mk (And.intro (Kd.C_below HV.out.2.2 hd.below) HV.out.2.1)
  have HB4 := Aside0.mk (below_step HB3.out hd.below)
  clear hd HB3 HV Ht1
  go_wp2_with fail
  refine (cofferdamref05_Turn.calls 66 a A cap l t1 t2 _ (Kd.C_below hC.out HB4.out) hc.out Ht2.out).mono ?_
  rintro e w5 ⟨rfl, hd⟩
  have HV5 := Aside0.mk (And.intro (Kd.C_below HV4.out.1 hd.below) HV4.out.2)
  have HB5 := Aside0.mk (below_step HB4.out hd.below)
  clear hd HB4 HV4 Ht2
  go_wp2_with fail
  refine (cofferdamref00_EqInts.calls (l.length + 1) A3 c3 l A cap l true _ HV5.out.1 HV5.out.2 (Kd.C_below hC.out HB5.out) hc.out He.out).mono ?_
  rintro e w6 ⟨rfl, hd⟩
  have HB6 := Aside0.mk (below_step HB5.out hd.below)
  clear hd HB5 HV5
  go_wp2_with fail
  refine (awake_yes _).mono ?_
  rintro e w7 ⟨rfl, hb⟩
  have HB7 := Aside0.mk (below_step HB6.out hb)
  clear hb HB6
  go_wp2_with fail
  go_ret
  exact ⟨rfl, HB7.out⟩
end Go.Proofs.Ytnihobcmaabmfaa.H
