/- The law CyclesPlays by its contracts. -/
import Derived.Test.YtnihobcmaabmfaaC3
import Derived.RegionTactic
import Derived.Deep.RegionWith
namespace Go.Proofs.Ytnihobcmaabmfaa.H
open Go.RowKit Go.Proofs.YtnihobcmaabmfaaW.PrintWords Go.Proofs.YtnihobcmaabmfaaW.PrintLast Go.Proofs.YtnihobcmaabmfaaW.PrintMore
set_option linter.unusedVariables false
set_option linter.unusedSimpArgs false
set_option maxHeartbeats 8000000
set_option maxRecDepth 100000
/-- A slice of calls: kind and number. -/
def DoRow (w : World) (A : Option Addr) (len : Nat) (K M : Nat → Int) : Prop :=
  len ≤ 9223372036854775807 ∧ ∀ i, i < len → ∃ ad, A = some ad ∧ w.cell? (ad.add (i * 2)) = some (.int .i64 (K i)) ∧ w.cell? ⟨(ad.add (i * 2)).block, (ad.add (i * 2)).off + 1, none⟩ = some (.int .u64 (M i)) ∧ (-9223372036854775808 ≤ K i ∧ K i ≤ 9223372036854775807) ∧ 0 ≤ M i
theorem new_ex (s p n : Int) (w : World) (h : mayB s p = true) (hn : n < 1099511627776) : Calls Try.prog 7 #[.int .u64 s, .int .u64 p, .int .u64 n] w fun e w' => ∃ g, e = .returned (.tuple #[.pointer (some ⟨g, 0, none⟩), .int .i64 0]) ∧ w.heap.size ≤ g ∧ Cn 58 w' g s p n 0 ∧ Below w.heap.size w w' :=
  (new_ok s p n w h hn).mono fun _ _ h => ⟨_, h.1, Nat.le_refl _, h.2.1, h.2.2⟩
theorem rnew_ex (s p n : Int) (w : World) (h : mayB s p = true) (hn : n < 1099511627776) : Calls Try.prog 8 #[.int .u64 s, .int .u64 p, .int .u64 n] w fun e w' => ∃ g, e = .returned (.tuple #[.pointer (some ⟨g, 0, none⟩), .int .i64 0]) ∧ w.heap.size ≤ g ∧ Cn 35 w' g s p n 0 ∧ Below w.heap.size w w' :=
  (rnew_ok s p n w h hn).mono fun _ _ h => ⟨_, h.1, Nat.le_refl _, h.2.1, h.2.2⟩
theorem three (w : World) (a b c : Value) (t : TypeId) : (w.alloc (.cells #[a, b, c] t)).cell? ⟨w.heap.size, 0, none⟩ = some a ∧ (w.alloc (.cells #[a, b, c] t)).cell? ⟨w.heap.size, 1, none⟩ = some b ∧ (w.alloc (.cells #[a, b, c] t)).cell? ⟨w.heap.size, 2, none⟩ = some c :=
  ⟨blk_cell (heap_alloc_new w _) 0, blk_cell (heap_alloc_new w _) 1, blk_cell (heap_alloc_new w _) 2⟩
theorem plays_any (s p n : Int) (A : Option Addr) (len cap : Nat) (K M : Nat → Int) (w : World) (h0 : 0 ≤ s) (h1 : 0 ≤ p) (h2 : 0 ≤ n) (hD : DoRow w A len K M) :
    Calls Try.prog 3 #[.agg #[.int .u64 s, .int .u64 p, .int .u64 n], .slice A len cap] w fun e w' => e = .returned (.bool true) ∧ Below w.heap.size w w' := by
  have HD := Aside0.mk hD
  have hl : len ≤ 9223372036854775807 := hD.1
  clear hD
  by_cases hm : mayB s p = true
  · by_cases hn : n < 1099511627776
    · obtain ⟨s1, s2, p2⟩ := may_of hm
      have Hm := Aside0.mk hm
      clear hm
      go_enter Try.func3, Try.ntmps3
      go_wp2_with fail
      refine (new_ex s p n _ Hm.out hn).mono ?_
      rintro e w1 ⟨gc, rfl, hg, hc, hb⟩
      obtain ⟨t0, t1, t2⟩ := three w (.int .u64 s) (.int .u64 p) (.int .u64 n) 23
      have c0 := pw_cell_below hb t0
      have c1 := pw_cell_below hb t1
      have c2 := pw_cell_below hb t2
      have HB1 := Aside0.mk (below_step (below_alloc (Below.refl w.heap.size w) _) hb)
      have HC1 := Aside0.mk hc
      have hgc : w.heap.size ≤ gc := Nat.le_trans (by simp) hg
      clear hb hc hg t0 t1 t2
      go_wp2_with fail
      refine (rnew_ex s p n _ Hm.out hn).mono ?_
      rintro e w2 ⟨gm, rfl, hg, hc, hb⟩
      have HB2 := Aside0.mk (below_step HB1.out hb)
      have HC2 := Aside0.mk (HC1.out.below hb)
      have HM2 := Aside0.mk hc
      have hgm : w.heap.size ≤ gm := Nat.le_trans HB1.out.size hg
      clear hb hc hg HC1 HB1 c0 c1 c2 Hm
      go_wp2_with fail
      go_loopw [6, 8, 9] (fun v6 v8 v9 wr => ∃ (i : Nat) (q d : Int) (e6 e8 : Int), i ≤ len ∧ i ≤ 300 ∧ 0 ≤ q ∧ q ≤ 1099511627776 ∧ 0 ≤ d ∧ d ≤ s ∧ v6 = .int .i64 e6 ∧ v8 = .int .i64 e8 ∧ v9 = .int .i64 i ∧ Aside0 (Cn 58 wr gc s p q d) ∧ Aside0 (Cn 35 wr gm s p q d) ∧ Aside0 (Below w.heap.size w wr)) (fun _ _ v9 _ => len - (intOf v9).toNat)
      case atStart => exact ⟨0, n, 0, 0, 0, by omega, by omega, h2, by omega, by omega, by omega, rfl, rfl, rfl, HC2, HM2, HB2⟩
      case round =>
        obtain ⟨i, q, d, e6, e8, hi, hi3, q0, q1, d0, d1, rfl, rfl, rfl, hc, hm, hb⟩ := hrel
        clear HC2 HM2 HB2
        obtain ⟨cm0, cm1, cm2, cm3, _, _⟩ := hm.out.cells
        by_cases hlt : i < len ∧ i < 300
        · obtain ⟨hlt, hlt3⟩ := hlt
          obtain ⟨ad, rfl, hk, hx, ⟨k0, k1⟩, x0⟩ := HD.out.2 i hlt
          generalize K i = ki at hk k0 k1
          generalize M i = x at hx x0
          have HX := Aside0.mk hx
          replace hk := pw_cell_below hb.out hk
          clear hx
          go_wp2_with fail
          go_quiet ((first
            | (go_at_call 10; exact quiet_of (now_any gc s p q d _ (Cn.q hc _) s1))
            | (go_at_call 11; exact quiet_of (rnow_any gm s p q d _ (Cn.q hm _) s1))
            | (go_at_call 12; exact Calls.quiet_of_same (number_any gc s p q d _ (Cn.q hc _) s1))
            | (go_at_call 13; exact quiet_of (left_any gc s p q d _ (Cn.q hc _) s1 s2 d0 d1 q0))
            | (go_at_call 14; exact quiet_of (rleft_any gm s p q d _ (Cn.q hm _) s1 s2 d0 d1 q0 q1))))
          go_wp2_with fail
          refine (within_two ki _ ⟨k0, k1⟩).mono ?_
          rintro e w' ⟨rfl, hw⟩
          subst w'
          generalize wm ki = wk
          have hc4 : Aside0 (Cn 58 (wr.drewN nq) gc s p q d) := ⟨hc.out⟩
          have hm4 : Aside0 (Cn 35 (wr.drewN nq) gm s p q d) := ⟨hm.out⟩
          have hb4 : Aside0 (Below w.heap.size w (wr.drewN nq)) := ⟨pw_below_drewN hb.out _⟩
          have hx4 := pw_cell_below hb4.out HX.out
          clear hk hc hm hb cm0 cm1 cm2 cm3
          by_cases hz : wk = 0
          · have hz' : (wk == 0) = true := beq_iff_eq.2 hz
            clear hz
            by_cases hle : x ≤ leftv s q d
            · have hde : d + x ≤ s := by unfold leftv at hle; split at hle <;> omega
              have HLE := Aside0.mk hle
              clear hle
              go_wp2_with fail
              refine (spend_ok gc s p q d x _ hc4.out s1 s2 d0 d1 q0 x0 HLE.out).mono ?_
              rintro e w3 ⟨rfl, hc3, ho⟩
              have hb3 := below_only hb4.out ho hgc
              have HM3 := Aside0.mk (hm4.out.only ho (hm4.out.ne_ hc4.out (by decide)))
              have HC3 := Aside0.mk hc3
              have hx3 := pw_cell_below hb3 HX.out
              have HB3 := Aside0.mk hb3
              clear ho hb3 hc3 hc4 hm4 hb4 hx4
              go_wp2_with fail
              refine (rspend_ok gm s p q d x _ HM3.out s1 s2 d0 d1 q0 x0 q1 HLE.out).mono ?_
              rintro e w5 ⟨rfl, hm5, ho⟩
              have HB5 := Aside0.mk (below_only HB3.out ho hgm)
              have HC5 := Aside0.mk (HC3.out.only ho (HC3.out.ne_ HM3.out (by decide)))
              have HM5 := Aside0.mk hm5
              clear ho hm5 HB3 HC3 HM3 hx3
              go_wp2_with fail
              go_roundw
              case rel => exact ⟨i + 1, q, d + x, 0, 0, by omega, by omega, by omega, by omega, by omega, by omega, rfl, rfl, by go_num, HC5, HM5, HB5⟩
              case measure => simp [intOf]; omega
            · have HLE := Aside0.mk (Int.not_le.1 hle)
              clear hle
              go_wp2_with fail
              refine (spend_no gc s p q d x _ hc4.out s1 s2 d0 d1 q0 x0 HLE.out).mono ?_
              rintro e w3 ⟨rfl, hc3, ho⟩
              have hb3 := below_only hb4.out ho hgc
              have HM3 := Aside0.mk (hm4.out.only ho (hm4.out.ne_ hc4.out (by decide)))
              have HC3 := Aside0.mk hc3
              have hx3 := pw_cell_below hb3 HX.out
              have HB3 := Aside0.mk hb3
              clear ho hb3 hc3 hc4 hm4 hb4 hx4
              go_wp2_with fail
              refine (rspend_no gm s p q d x _ HM3.out s1 s2 d0 d1 q0 x0 q1 HLE.out).mono ?_
              rintro e w5 ⟨rfl, hm5, ho⟩
              have HB5 := Aside0.mk (below_only HB3.out ho hgm)
              have HC5 := Aside0.mk (HC3.out.only ho (HC3.out.ne_ HM3.out (by decide)))
              have HM5 := Aside0.mk hm5
              clear ho hm5 HB3 HC3 HM3 hx3
              go_wp2_with fail
              go_roundw
              case rel => exact ⟨i + 1, q, d, 50, 50, by omega, by omega, by omega, by omega, by omega, by omega, rfl, rfl, by go_num, HC5, HM5, HB5⟩
              case measure => simp [intOf]; omega
          · have hz' : (wk == 0) = false := beq_eq_false_iff_ne.2 hz
            clear hz
            by_cases hh : 1099511627776 ≤ q
            · have hq' : Aside0 ((q == 1099511627776) = true) := ⟨by simp; omega⟩
              go_wp2_with fail
              refine (switch_halt gc s p q d x _ hc4.out s1 s2 d0 d1 q0 x0 hh).mono ?_
              rintro e w3 ⟨rfl, hc3, ho⟩
              have hb3 := below_only hb4.out ho hgc
              have HM3 := Aside0.mk (hm4.out.only ho (hm4.out.ne_ hc4.out (by decide)))
              have HC3 := Aside0.mk hc3
              have hx3 := pw_cell_below hb3 HX.out
              have HB3 := Aside0.mk hb3
              clear ho hb3 hc3 hc4 hm4 hb4 hx4
              go_wp2_with fail
              refine (rswitch_halt gm s p q d x _ HM3.out s1 s2 d0 d1 q0 x0 hq'.out).mono ?_
              rintro e w5 ⟨rfl, hm5, ho⟩
              have HB5 := Aside0.mk (below_only HB3.out ho hgm)
              have HC5 := Aside0.mk (HC3.out.only ho (HC3.out.ne_ HM3.out (by decide)))
              have HM5 := Aside0.mk hm5
              clear ho hm5 HB3 HC3 HM3 hx3
              go_wp2_with fail
              go_roundw
              case rel => exact ⟨i + 1, q, d, 51, 51, by omega, by omega, by omega, by omega, by omega, by omega, rfl, rfl, by go_num, HC5, HM5, HB5⟩
              case measure => simp [intOf]; omega
            · have hq' : Aside0 ((q == 1099511627776) = false) := ⟨by simp; omega⟩
              have hql : q < 1099511627776 := by omega
              clear hh
              by_cases hp : x ≤ p
              · skip
                go_wp2_with fail
                refine (switch_ok gc s p q d x _ hc4.out s1 s2 d0 d1 q0 x0 hql hp).mono ?_
                rintro e w3 ⟨rfl, hc3, ho⟩
                have hb3 := below_only hb4.out ho hgc
                have HM3 := Aside0.mk (hm4.out.only ho (hm4.out.ne_ hc4.out (by decide)))
                have HC3 := Aside0.mk hc3
                have hx3 := pw_cell_below hb3 HX.out
                have HB3 := Aside0.mk hb3
                clear ho hb3 hc3 hc4 hm4 hb4 hx4
                go_wp2_with fail
                refine (rswitch_ok gm s p q d x _ HM3.out s1 s2 d0 d1 q0 x0 hql hq'.out hp).mono ?_
                rintro e w5 ⟨rfl, hm5, ho⟩
                have HB5 := Aside0.mk (below_only HB3.out ho hgm)
                have HC5 := Aside0.mk (HC3.out.only ho (HC3.out.ne_ HM3.out (by decide)))
                have HM5 := Aside0.mk hm5
                clear ho hm5 HB3 HC3 HM3 hx3
                go_wp2_with fail
                go_roundw
                case rel => exact ⟨i + 1, q + 1, 0, 0, 0, by omega, by omega, by omega, by omega, by omega, by omega, rfl, rfl, by go_num, HC5, HM5, HB5⟩
                case measure => simp [intOf]; omega
              · have hp' : p < x := by omega
                clear hp
                go_wp2_with fail
                refine (switch_no gc s p q d x _ hc4.out s1 s2 d0 d1 q0 x0 hql hp').mono ?_
                rintro e w3 ⟨rfl, hc3, ho⟩
                have hb3 := below_only hb4.out ho hgc
                have HM3 := Aside0.mk (hm4.out.only ho (hm4.out.ne_ hc4.out (by decide)))
                have HC3 := Aside0.mk hc3
                have hx3 := pw_cell_below hb3 HX.out
                have HB3 := Aside0.mk hb3
                clear ho hb3 hc3 hc4 hm4 hb4 hx4
                go_wp2_with fail
                refine (rswitch_no gm s p q d x _ HM3.out s1 s2 d0 d1 q0 x0 hql hq'.out hp').mono ?_
                rintro e w5 ⟨rfl, hm5, ho⟩
                have HB5 := Aside0.mk (below_only HB3.out ho hgm)
                have HC5 := Aside0.mk (HC3.out.only ho (HC3.out.ne_ HM3.out (by decide)))
                have HM5 := Aside0.mk hm5
                clear ho hm5 HB3 HC3 HM3 hx3
                go_wp2_with fail
                go_roundw
                case rel => exact ⟨i + 1, q, d, 50, 50, by omega, by omega, by omega, by omega, by omega, by omega, rfl, rfl, by go_num, HC5, HM5, HB5⟩
                case measure => simp [intOf]; omega
        · by_cases hil : i < len
          · have hge : 300 ≤ i := by omega
            clear hlt
            go_wp2_with fail
            go_region_with (first
            | (go_at_call 10; refine (now_any gc s p q d _ (by exact Cn.q hc _) s1).mono ?_; rintro e w' ⟨rfl, hd⟩; obtain ⟨k, rfl⟩ := hd)
            | (go_at_call 11; refine (rnow_any gm s p q d _ (by exact Cn.q hm _) s1).mono ?_; rintro e w' ⟨rfl, hd⟩; obtain ⟨k, rfl⟩ := hd)
            | (go_at_call 12; refine (number_any gc s p q d _ (by exact Cn.q hc _) s1).mono ?_; rintro e w' ⟨rfl, hw⟩; subst w')
            | (go_at_call 13; refine (left_any gc s p q d _ (by exact Cn.q hc _) s1 s2 d0 d1 q0).mono ?_; rintro e w' ⟨rfl, hd⟩; obtain ⟨k, rfl⟩ := hd)
            | (go_at_call 14; refine (rleft_any gm s p q d _ (by exact Cn.q hm _) s1 s2 d0 d1 q0 q1).mono ?_; rintro e w' ⟨rfl, hd⟩; obtain ⟨k, rfl⟩ := hd)
            | (go_at_call 9; refine (awake_yes _).mono ?_; rintro e w9 ⟨rfl, hb9⟩))
            all_goals go_wp2_with fail
            all_goals go_ret
            all_goals exact ⟨rfl, below_step (pw_below_drewN hb.out _) hb9⟩
          · have hge : len ≤ i := by omega
            clear hlt
            go_wp2_with fail
            go_region_with (first
            | (go_at_call 10; refine (now_any gc s p q d _ (by exact Cn.q hc _) s1).mono ?_; rintro e w' ⟨rfl, hd⟩; obtain ⟨k, rfl⟩ := hd)
            | (go_at_call 11; refine (rnow_any gm s p q d _ (by exact Cn.q hm _) s1).mono ?_; rintro e w' ⟨rfl, hd⟩; obtain ⟨k, rfl⟩ := hd)
            | (go_at_call 12; refine (number_any gc s p q d _ (by exact Cn.q hc _) s1).mono ?_; rintro e w' ⟨rfl, hw⟩; subst w')
            | (go_at_call 13; refine (left_any gc s p q d _ (by exact Cn.q hc _) s1 s2 d0 d1 q0).mono ?_; rintro e w' ⟨rfl, hd⟩; obtain ⟨k, rfl⟩ := hd)
            | (go_at_call 14; refine (rleft_any gm s p q d _ (by exact Cn.q hm _) s1 s2 d0 d1 q0 q1).mono ?_; rintro e w' ⟨rfl, hd⟩; obtain ⟨k, rfl⟩ := hd)
            | (go_at_call 9; refine (awake_yes _).mono ?_; rintro e w9 ⟨rfl, hb9⟩))
            all_goals go_wp2_with fail
            all_goals go_ret
            all_goals exact ⟨rfl, below_step (pw_below_drewN hb.out _) hb9⟩
    · obtain ⟨s1, s2, p2⟩ := may_of hm
      have Hm := Aside0.mk hm
      clear hm
      go_enter Try.func3, Try.ntmps3
      go_wp2_with fail
      refine (new_halt s p n _ Hm.out (by omega)).mono ?_
      rintro e w1 ⟨rfl, hw⟩
      subst w1
      go_wp2_with fail
      refine (rnew_halt s p n _ Hm.out (by omega)).mono ?_
      rintro e w1 ⟨rfl, hw⟩
      subst w1
      go_wp2_with fail
      refine (awake_yes _).mono ?_
      rintro e w9 ⟨rfl, hb9⟩
      go_wp2_with fail
      go_ret
      exact ⟨rfl, below_step (below_alloc (Below.refl w.heap.size w) _) hb9⟩
  · have Hm : Aside0 (mayB s p = false) := ⟨by simpa using hm⟩
    clear hm
    go_enter Try.func3, Try.ntmps3
    go_wp2_with fail
    refine (new_arg s p n _ Hm.out).mono ?_
    rintro e w1 ⟨rfl, hw⟩
    subst w1
    go_wp2_with fail
    refine (rnew_arg s p n _ Hm.out).mono ?_
    rintro e w1 ⟨rfl, hw⟩
    subst w1
    go_wp2_with fail
    refine (awake_yes _).mono ?_
    rintro e w9 ⟨rfl, hb9⟩
    go_wp2_with fail
    go_ret
    exact ⟨rfl, below_step (below_alloc (Below.refl w.heap.size w) _) hb9⟩
end Go.Proofs.Ytnihobcmaabmfaa.H
