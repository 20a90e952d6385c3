/- The closed law CyclesNames by its contracts. -/
import Derived.Test.YtnihobcmaabmfaaC5
import Derived.Test.YtnihobcmaabmfaaC6
namespace Go.Proofs.Ytnihobcmaabmfaa.H
open Go.RowKit Go.Proofs.YtnihobcmaabmfaaW.PrintWords Go.Proofs.YtnihobcmaabmfaaW.PrintLast Go.Proofs.YtnihobcmaabmfaaW.PrintMore
set_option linter.unusedVariables false
set_option linter.unusedSimpArgs false
set_option maxHeartbeats 8000000
set_option maxRecDepth 100000
def NV (k : Nat) (v : Value) (w : World) : Prop := (k = 0 ∧ v = .pointer none) ∨ (0 < k ∧ ∃ g, v = .pointer (some ⟨g, 0, none⟩) ∧ Cn 58 w g 0 0 0 0)
theorem NV.none_ {k : Nat} {v : Value} {w : World} (h : NV k v w) : Calls Try.prog 28 #[v] w fun e w' => e = .returned (.bool true) ∧ w' = w := by
  rcases h with ⟨_, rfl⟩ | ⟨_, g, rfl, hc⟩
  · exact none_nil w
  · exact none_zero g 0 0 0 w hc
def fl : List Int := [0, 1099511627775, 1099511627776, 1099511627777, 18446744073709551615]
theorem fl_wf : ∀ k : Nat, k < 5 → (Lit.int .u64 (rd fl (k : Int))).wf = true := by
  intro k hk
  have : k = 0 ∨ k = 1 ∨ k = 2 ∨ k = 3 ∨ k = 4 := by omega
  rcases this with rfl | rfl | rfl | rfl | rfl <;> decide
def mz : Array Value := madeCells #[.int .i64 0] 65
theorem now_v (g : Nat) (s p n d v : Int) (w : World) (hc : Cn 58 w g s p n d) (h1 : 1 ≤ s) (hv : nowv s p n d = v) : Calls Try.prog 10 #[.pointer (some ⟨g, 0, none⟩)] w fun e w' => e = .returned (.int .u64 v) ∧ Drawn0 w w' := by
  subst hv
  exact now_any g s p n d w hc h1
def flc : Array Value := #[.int .u64 0, .int .u64 1099511627775, .int .u64 1099511627776, .int .u64 1099511627777, .int .u64 18446744073709551615]
theorem fl_cell {w : World} {fb : Nat} (h : w.heap[fb]? = some (.cells flc 22 (0, 0))) {k : Nat} (hk : k < 5) : w.cell? ⟨fb, k, none⟩ = some (.int .u64 (rd fl (k : Int))) := by
  have := blk_cell h k
  rw [this]
  have hc : k = 0 ∨ k = 1 ∨ k = 2 ∨ k = 3 ∨ k = 4 := by omega
  rcases hc with rfl | rfl | rfl | rfl | rfl <;> rfl
def dk (i : Nat) : Int := if i = 0 then 0 else 1
def dm (i : Nat) : Int := if i = 0 then 1 else 0
theorem do_new (w : World) : DoRow (w.alloc (.cells #[.int .i64 0, .int .u64 1, .int .i64 1, .int .u64 0, .int .i64 1, .int .u64 0] 38)) (some ⟨w.heap.size, 0, none⟩) 3 dk dm := by
  refine ⟨by decide, fun i hi => ?_⟩
  have hb : (w.alloc (.cells #[.int .i64 0, .int .u64 1, .int .i64 1, .int .u64 0, .int .i64 1, .int .u64 0] 38)).heap[w.heap.size]? = some (.cells #[.int .i64 0, .int .u64 1, .int .i64 1, .int .u64 0, .int .i64 1, .int .u64 0] 38 (0, 0)) := heap_alloc_new w _
  have hc : i = 0 ∨ i = 1 ∨ i = 2 := by omega
  rcases hc with rfl | rfl | rfl
  · exact ⟨_, rfl, blk_cell hb 0, blk_cell hb 1, by decide, by decide⟩
  · exact ⟨_, rfl, blk_cell hb 2, blk_cell hb 3, by decide, by decide⟩
  · exact ⟨_, rfl, blk_cell hb 4, blk_cell hb 5, by decide, by decide⟩
theorem DoRow.later {w w' : World} {A : Option Addr} {len : Nat} {K M : Nat → Int} (h : DoRow w A len K M) (hb : Below w.heap.size w w') : DoRow w' A len K M :=
  ⟨h.1, fun i hi => by
    obtain ⟨ad, e, c0, c1, h1, h2⟩ := h.2 i hi
    exact ⟨ad, e, pw_cell_below hb c0, pw_cell_below hb c1, h1, h2⟩⟩
theorem mz_row {w : World} {mb len : Nat} (h : w.heap[mb]? = some (.cells mz 3 (0, 0))) (hl : len ≤ 65) : Rw.IsRow .i64 w (some ⟨mb, 0, none⟩) len 65 (List.replicate 65 0) := by
  refine .inr ⟨_, rfl, hl, by decide, by simp, fun i hi => ?_, fun n hn => ?_⟩
  · have h65 : i < 65 := by simpa using hi
    rw [add_plain, blk_cell h i]
    have e1 : (List.replicate 65 (0 : Int)).getD i 0 = 0 := by rw [List.getD_eq_getElem?_getD, List.getElem?_replicate, if_pos h65]; rfl
    rw [e1]
    simp [mz, madeCells, h65, Nat.mod_one]
  · obtain rfl : n = 0 := by simpa using List.eq_of_mem_replicate hn
    decide
theorem names_any (w : World) : Calls Try.prog 6 #[] w fun e w' => e = .returned (.bool true) ∧ Below w.heap.size w w' := by
  have hm : ∀ W : World, (Instr.makeSlice 47 (.int .i64 65) (.int .i64 65)).run Try.prog W = .ok (.slice (some ⟨W.heap.size, 0, none⟩) 65 65) (W.alloc (.cells mz 3)) :=
    fun W => Go.Proofs.YtnihobcmaabmfaaW.PrintWords.print_make (P := Try.prog) 47 3 .i64 8 Try.underlying47 info3 (by decide) 65 (by decide) W
  go_enter Try.func6, Try.ntmps6
  go_wp2_with fail
  go_loopw [1, 2] (fun v1 v2 wr => ∃ k : Nat, k ≤ 2 ∧ v2 = .int .i64 k ∧ Aside0 (NV k v1 wr) ∧ Aside0 (Below w.heap.size w wr)) (fun _ v2 _ => 2 - (intOf v2).toNat)
  case atStart => exact ⟨0, by omega, rfl, ⟨.inl ⟨rfl, rfl⟩⟩, ⟨Below.refl _ _⟩⟩
  case round =>
    obtain ⟨k, hk, rfl, hv, hb⟩ := hrel
    by_cases hlt : k < 2
    · have H0 := Aside0.mk hv.out.none_
      go_wp2_with (first
        | (go_at_call 10; refine (now_none u1 wr H0.out).mono ?_; rintro e w' ⟨rfl, hw⟩; subst w')
        | (go_at_call 12; refine (number_none u1 wr H0.out).mono ?_; rintro e w' ⟨rfl, hw⟩; subst w')
        | (go_at_call 13; refine (left_none u1 wr H0.out).mono ?_; rintro e w' ⟨rfl, hw⟩; subst w')
        | (go_at_call 16; refine (spend_none u1 0 wr H0.out).mono ?_; rintro e w' ⟨rfl, hw⟩; subst w')
        | (go_at_call 18; refine (switch_none u1 0 wr H0.out).mono ?_; rintro e w' ⟨rfl, hw⟩; subst w'))
      go_roundw
      case rel => exact ⟨k + 1, by omega, by go_num, ⟨.inr ⟨by omega, _, rfl, heap_alloc_new _ _⟩⟩, ⟨below_alloc hb.out _⟩⟩
      case measure => simp [intOf]; omega
    · clear hv
      go_wp2_with fail
      refine (new_ex 4194304 4194304 1099511627775 _ (by decide) (by decide)).mono ?_
      rintro e w1 ⟨g, rfl, hg, hc, hb1⟩
      have HB1 := Aside0.mk (below_step hb.out hb1)
      have HC1 := Aside0.mk hc
      have hgw : w.heap.size ≤ g := Nat.le_trans hb.out.size hg
      clear hb hc hb1 hg
      go_wp2_with fail
      refine (now_v g 4194304 4194304 1099511627775 0 9223372036846387200 _ HC1.out (by decide) (by kernel_rfl)).mono ?_
      rintro e w2 ⟨rfl, hd⟩
      have HB2 := Aside0.mk (below_step HB1.out hd.below)
      have HC2 := Aside0.mk (HC1.out.below hd.below)
      clear hd HB1 HC1
      go_wp2_with fail
      refine (switch_ok g 4194304 4194304 1099511627775 0 4194304 _ HC2.out (by decide) (by decide) (by decide) (by decide) (by decide) (by decide) (by decide) (by decide)).mono ?_
      rintro e w3 ⟨rfl, hc, ho⟩
      have HB3 := Aside0.mk (below_only HB2.out ho hgw)
      have HC3 := Aside0.mk hc
      clear hc ho HB2 HC2
      go_wp2_with fail
      refine (now_v g 4194304 4194304 1099511627776 0 9223372036854775808 _ HC3.out (by decide) (by kernel_rfl)).mono ?_
      rintro e w4 ⟨rfl, hd⟩
      have HB4 := Aside0.mk (below_step HB3.out hd.below)
      have HC4 := Aside0.mk (HC3.out.below hd.below)
      clear hd HB3 HC3
      go_wp2_with fail
      refine (spend_ok g 4194304 4194304 1099511627776 0 0 _ HC4.out (by decide) (by decide) (by decide) (by decide) (by decide) (by decide) (by decide)).mono ?_
      rintro e w5 ⟨rfl, hc, ho⟩
      have HB5 := Aside0.mk (below_only HB4.out ho hgw)
      have HC5 := Aside0.mk hc
      clear hc ho HB4 HC4
      go_wp2_with fail
      refine (spend_no g 4194304 4194304 1099511627776 0 1 _ HC5.out (by decide) (by decide) (by decide) (by decide) (by decide) (by decide) (by decide)).mono ?_
      rintro e w6 ⟨rfl, hc, ho⟩
      have HB6 := Aside0.mk (below_only HB5.out ho hgw)
      have HC6 := Aside0.mk hc
      clear hc ho HB5 HC5
      go_wp2_with fail
      refine (switch_halt g 4194304 4194304 1099511627776 0 0 _ HC6.out (by decide) (by decide) (by decide) (by decide) (by decide) (by decide) (by decide)).mono ?_
      rintro e w7 ⟨rfl, hc, ho⟩
      have HB7 := Aside0.mk (below_only HB6.out ho hgw)
      have HC7 := Aside0.mk hc
      clear hc ho HB6 HC6
      go_wp2_with fail
      have hM : Aside0 (((w7.alloc (.cells mz 3)).alloc (.cells flc 22)).heap[w7.heap.size]? = some (.cells mz 3 (0, 0))) := ⟨(Below.heap_alloc _ _ _ (by simp)).trans (heap_alloc_new w7 _)⟩
      have hF : Aside0 (((w7.alloc (.cells mz 3)).alloc (.cells flc 22)).heap[w7.heap.size + 1]? = some (.cells flc 22 (0, 0))) := ⟨by have := heap_alloc_new (w7.alloc (.cells mz 3)) (.cells flc 22); simpa using this⟩
      have HB8 := Aside0.mk (below_alloc (below_alloc HB7.out (.cells mz 3)) (.cells flc 22))
      have HC8 : Aside0 (Cn 58 ((w7.alloc (.cells mz 3)).alloc (.cells flc 22)) g 4194304 4194304 1099511627776 0) := ⟨HC7.out.below (below_alloc (below_alloc (Below.refl _ _) _) _)⟩
      obtain ⟨mb, hmb⟩ : ∃ mb, mb = w7.heap.size := ⟨_, rfl⟩
      obtain ⟨fb, hfb⟩ : ∃ fb, fb = w7.heap.size + 1 := ⟨_, rfl⟩
      rw [← hmb] at hM ⊢
      rw [← hfb] at hF
      rw [show mb + 1 = fb by omega]
      have HMB := Aside0.mk hmb
      have HFB := Aside0.mk hfb
      clear hmb hfb HB7 HC7 hm
      change Code.wp Try.prog _ _ _ ((w7.alloc (.cells mz 3)).alloc (.cells flc 22))
      generalize (w7.alloc (.cells mz 3)).alloc (.cells flc 22) = w8 at hM hF HB8 HC8 ⊢
      go_loopw [14] (fun v14 wr => ∃ k : Nat, k ≤ 5 ∧ v14 = .int .i64 k ∧ Aside0 (wr.heap[mb]? = some (.cells mz 3 (0, 0))) ∧ Aside0 (wr.heap[fb]? = some (.cells flc 22 (0, 0))) ∧ Aside0 (Cn 58 wr g 4194304 4194304 1099511627776 0) ∧ Aside0 (Below w.heap.size w wr)) (fun v14 _ => 5 - (intOf v14).toNat)
      case atStart => exact ⟨0, by omega, rfl, hM, hF, HC8, HB8⟩
      case round =>
        obtain ⟨k, hk, rfl, hM2, hF2, hc, hb⟩ := hrel
        clear hM hF HC8 HB8
        by_cases hlt : k < 5
        · have hcell := fl_cell hF2.out hlt
          have hwf := fl_wf k hlt
          have hv0 := u64_lo' hwf
          have HV0 := Aside0.mk hv0
          have HWF := Aside0.mk hwf
          generalize rd fl (k : Int) = v at hcell hv0 HV0 HWF hwf
          clear hwf
          go_wp2_with fail
          have tok1 : True := trivial
          go_region_held3 (fun w' => w'.cell? ⟨fb, k, none⟩ = some (.int .u64 v) ∧ Below wr.heap.size wr w') (exact ⟨pw_cell_below (by (repeat (first | assumption | exact Below.refl _ _ | apply below_alloc | apply pw_below_drewN | apply below_drew))) hcell, by (repeat (first | assumption | exact Below.refl _ _ | apply below_alloc | apply pw_below_drewN | apply below_drew))⟩)
            (first
              | (go_at_call 3; refine (plays_any 1 0 v (some ⟨_, 0, none⟩) 3 3 dk dm _ (by decide) (by decide) HV0.out (by exact (do_new _).later (by (repeat (first | assumption | exact Below.refl _ _ | apply below_alloc | apply pw_below_drewN | apply below_drew))))).mono ?_; rintro e w9 ⟨rfl, hb9⟩; have hB9 := below_step (w := wr) (by (repeat (first | assumption | exact Below.refl _ _ | apply below_alloc | apply pw_below_drewN | apply below_drew))) hb9)
              | (go_at_call 5; have _t := tok1; refine (begins_any v 4194304 4194304 (some ⟨mb, 0, none⟩) 64 65 (List.replicate 65 0) _ HWF.out (by decide) (by decide) (mz_row (by exact blk_grown hM2.out (grown_of_below (by (repeat (first | assumption | exact Below.refl _ _ | apply below_alloc | apply pw_below_drewN | apply below_drew))) none) (by simp)) (by decide)) (by decide)).mono ?_; rintro e wa ⟨rfl, hba⟩; clear tok1; have hBa := below_step (w := wr) (by (repeat (first | assumption | exact Below.refl _ _ | apply below_alloc | apply pw_below_drewN | apply below_drew))) hba)
              | (go_at_call 5; refine (begins_any v 0 4194305 (some ⟨mb, 0, none⟩) 65 65 (List.replicate 65 0) _ HWF.out (by decide) (by decide) (mz_row (by exact blk_grown hM2.out (grown_of_below (by (repeat (first | assumption | exact Below.refl _ _ | apply below_alloc | apply pw_below_drewN | apply below_drew))) none) (by simp)) (by decide)) (by decide)).mono ?_; rintro e wb ⟨rfl, hbb⟩; have hBb := below_step (w := wr) (by (repeat (first | assumption | exact Below.refl _ _ | apply below_alloc | apply pw_below_drewN | apply below_drew))) hbb))
          have HR : Aside0 (Below wr.heap.size wr wb) := ⟨hBb⟩
          have HB9 := Aside0.mk (below_step hb.out HR.out)
          have HM9 : Aside0 (wb.heap[mb]? = some (.cells mz 3 (0, 0))) := ⟨blk_grown hM2.out (grown_of_below HR.out none) (by simp)⟩
          have HF9 : Aside0 (wb.heap[fb]? = some (.cells flc 22 (0, 0))) := ⟨blk_grown hF2.out (grown_of_below HR.out none) (by simp)⟩
          have HC9 := Aside0.mk (hc.out.below HR.out)
          clear hb9 hba hbb hB9 hBa hBb hM2 hF2 hc hb HR hcell
          go_wp2_with fail
          go_roundw
          case rel => exact ⟨k + 1, by omega, by go_num, HM9, HF9, HC9, HB9⟩
          case measure => simp [intOf]; omega
        · clear hM2 hF2
          go_wp2_with fail
          refine (awake_yes _).mono ?_
          rintro e wc ⟨rfl, hbc⟩
          have HBc := Aside0.mk (below_step hb.out hbc)
          have HCc := Aside0.mk (hc.out.below hbc)
          clear hbc hb hc
          go_wp2_with fail
          refine (number_any g 4194304 4194304 1099511627776 0 wc HCc.out (by decide)).mono ?_
          rintro e wd ⟨rfl, hw⟩
          subst wd
          go_wp2_with fail
          refine (left_end g 4194304 4194304 1099511627776 0 wc HCc.out (by decide) (by decide) (by decide) (by decide) (by decide) (by decide)).mono ?_
          rintro e wd ⟨rfl, hw⟩
          subst wd
          go_wp2_with fail
          go_ret
          exact ⟨rfl, HBc.out⟩
end Go.Proofs.Ytnihobcmaabmfaa.H
