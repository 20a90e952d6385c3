/- The law CachePlays by its contracts. -/
import Derived.Test.YtcneepffhplpiaaD6
namespace Go.Proofs.Ytcneepffhplpiaa.H
open Go.RowKit Go.Proofs.YtcneepffhplpiaaW.PrintWords Go.Proofs.YtcneepffhplpiaaW.PrintLast Go.Proofs.YtcneepffhplpiaaW.PrintMore
set_option linter.unusedVariables false
set_option linter.unusedSimpArgs false
set_option maxHeartbeats 8000000
set_option maxRecDepth 100000
def DoRow (w : World) (A : Option Addr) (len : Nat) : Prop := ∀ i, i < len → ∃ (ad : Addr) (x0 x1 x2 : Int), A = some ad ∧ w.cell? (ad.add (i * 3 + 0)) = some (.int .i64 x0) ∧ w.cell? (ad.add (i * 3 + 1)) = some (.int .i64 x1) ∧ w.cell? (ad.add (i * 3 + 2)) = some (.int .u64 x2)
theorem DoRow.later {w w' : World} {A : Option Addr} {len : Nat} (h : DoRow w A len) (hb : Below w.heap.size w w') : DoRow w' A len := fun i hi => by
  obtain ⟨ad, x0, x1, x2, e, h0, h1, h2⟩ := h i hi
  exact ⟨ad, x0, x1, x2, e, pw_cell_below hb h0, pw_cell_below hb h1, pw_cell_below hb h2⟩
theorem plays_c (a0 a1 : Int) (A : Option Addr) (len cap : Nat) (w : World) (hn : a0 ≤ 9223372036854775807) (hS : DoRow w A len) :
    Calls Try.prog 6 #[.int .i64 a0, .int .i64 a1, .slice A len cap] w fun e w' => e = .returned (.bool true) ∧ Below w.heap.size w w' := by
  have HRow := Aside0.mk hS
  clear hS
  by_cases hok : Ok a0 a1
  · obtain ⟨n, rfl⟩ := Int.eq_ofNat_of_zero_le (show 0 ≤ a0 by have := hok.1; omega)
    obtain ⟨wy, rfl⟩ := Int.eq_ofNat_of_zero_le (show 0 ≤ a1 by have := hok.2.2.2.1; omega)
    have HN := Aside0.mk (fun w => new_ok n (wy : Int) w (by have := hok.1; omega) (by have := hok.2.1; omega) hok.2.2.1 hok.2.2.2.1 hok.2.2.2.2)
    have HRN := Aside0.mk (fun w => rnew_ok n (wy : Int) w hok)
    have hn1 : 1 ≤ n := by have := hok.1; omega
    clear hok hn
    go_enter Try.func6, Try.ntmps6
    go_wp2_with fail
    refine (HN.out _).mono ?_
    rintro e w1 ⟨c, b, rfl, hS, hB⟩
    have HS := Aside0.mk hS
    have HB := Aside0.mk hB
    clear hS hB HN
    go_wp2_with fail
    refine (HRN.out _).mono ?_
    rintro e w2 ⟨c2, b2, rfl, hR, hB⟩
    have HH : Aside0 (Both w2 w.heap.size c b c2 b2 wy (List.replicate n nilV) (List.replicate n nilV) (emp n)) := ⟨HS.out.later hB, ⟨hR.hc, hR.hb, emp_rows _ _ _, Nat.le_trans HB.out.size hR.bc, Nat.le_trans HB.out.size hR.bb, hR.small, hR.wy1, hR.wy16, hR.lens⟩, fun k hk hf => by
        have h1 := (HS.out.foot_lt hk).2
        have h2 := (hR.foot_lt hf).1
        omega, fun i hi => by rw [emp_get]; exact List.nodup_nil, Nat.le_trans HB.out.size hB.size⟩
    have HB2 := Aside0.mk (below_step HB.out hB)
    clear hR hB HS HB HRN
    have hml : (emp n).length = n := by simp [emp]
    generalize List.replicate n nilV = vs at HH
    generalize emp n = M at HH hml
    go_wp2_with fail
    go_loopw [11] (fun v11 wr => ∃ (i : Nat) (b b2 : Nat) (vs vs2 : List Value) (M : List (List Int)), i ≤ 300 ∧ v11 = .int .i64 i ∧ M.length = n ∧ Aside0 (Both wr w.heap.size c b c2 b2 wy vs vs2 M) ∧ Aside0 (Below w.heap.size w wr)) (fun v11 _ => 300 - (intOf v11).toNat)
    case atStart => exact ⟨0, b, b2, vs, vs, M, by omega, rfl, hml, HH, HB2⟩
    case round =>
      clear HH HB2 hml vs M
      obtain ⟨i, b, b2, vs, vs2, M, hi, rfl, hml, hH, hB⟩ := hrel
      by_cases hlt : i < len ∧ i < 300
      · obtain ⟨h1, h2⟩ := hlt
        obtain ⟨ad, x0, x1, x2, rfl, q0, q1, q2⟩ := (HRow.out.later hB.out) i h1
        rw [Nat.add_zero] at q0
        rw [add_field ad (i * 3) 1 (by decide)] at q1
        rw [add_field ad (i * 3) 2 (by decide)] at q2
        go_wp2_with fail
        refine (done_any x0 x1 x2 _ w.heap.size c b c2 b2 wy vs vs2 M hH.out (by omega)).mono ?_
        rintro e w5 ⟨b', b2', vs', vs2', M', rfl, hE, hml', hB'⟩
        have HE := Aside0.mk hE
        have HB5 := Aside0.mk (hB.out.trans hB')
        have hml2 : M'.length = n := hml'.trans hml
        clear hE hB' hH hB q0 q1 q2 hml'
        go_wp2_with fail
        go_roundw
        case rel => exact ⟨i + 1, b', b2', vs', vs2', M', by omega, by go_num, hml2, HE, HB5⟩
        case measure => simp [intOf]; omega
      · have hx : ¬ i < len ∨ (i < len ∧ ¬ i < 300) := by omega
        clear hlt
        rcases hx with hx | ⟨hx, hx2⟩
        all_goals
          go_wp2_with fail
          refine (awake_any _).mono ?_
          rintro e w5 ⟨rfl, hb⟩
          have HB5 := Aside0.mk (below_step hB.out hb)
          clear hb hB hH
          go_wp2_with fail
          go_ret
          exact ⟨rfl, HB5.out⟩
  · have HN := Aside0.mk (fun w => new_no a0 a1 w hok)
    have HRN := Aside0.mk (fun w => rnew_no a0 a1 w hn hok)
    clear hok hn
    go_enter Try.func6, Try.ntmps6
    go_wp2_with fail
    refine (HN.out _).mono ?_
    rintro e w1 ⟨rfl, hB⟩
    have HB := Aside0.mk hB
    clear hB HN
    go_wp2_with fail
    refine (HRN.out _).mono ?_
    rintro e w2 ⟨rfl, hB⟩
    have HB2 := Aside0.mk (below_step HB.out hB)
    clear hB HB HRN
    go_wp2_with fail
    refine (awake_any _).mono ?_
    rintro e w3 ⟨rfl, hB⟩
    have HB3 := Aside0.mk (below_step HB2.out hB)
    clear hB HB2
    go_wp2_with fail
    go_ret
    exact ⟨rfl, HB3.out⟩
theorem plays_any (a0 a1 : Int) (A : Option Addr) (len cap : Nat) (w : World) (h0 : (Lit.int .i64 a0).wf = true) (h1 : (Lit.int .i64 a1).wf = true)
    (hS : len ≤ cap ∧ cap ≤ maxLen ∧ ∀ i, i < len → ∃ (ad : Addr) (x0 : Int) (x1 : Int) (x2 : Int), A = some ad ∧ w.cell? (ad.add (i * 3 + 0)) = some (.int .i64 x0) ∧ (Lit.int .i64 x0).wf = true ∧ w.cell? (ad.add (i * 3 + 1)) = some (.int .i64 x1) ∧ (Lit.int .i64 x1).wf = true ∧ w.cell? (ad.add (i * 3 + 2)) = some (.int .u64 x2) ∧ (Lit.int .u64 x2).wf = true) :
    Calls Try.prog 6 #[.int .i64 a0, .int .i64 a1, .slice A len cap] w fun e w' => e = .returned (.bool true) ∧ Below w.heap.size w w' := by
  refine plays_c a0 a1 A len cap w ?_ (fun i hi => ?_)
  · simp [Lit.wf, IntKind.min, IntKind.max, IntKind.signed, IntKind.bits] at h0
    omega
  · obtain ⟨ad, x0, x1, x2, e, q0, _, q1, _, q2, _⟩ := hS.2.2 i hi
    exact ⟨ad, x0, x1, x2, e, q0, q1, q2⟩
end Go.Proofs.Ytcneepffhplpiaa.H
