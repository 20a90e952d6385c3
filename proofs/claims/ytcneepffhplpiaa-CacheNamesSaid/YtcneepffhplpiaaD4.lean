/- The law CacheApart by its contracts. -/
import Derived.Test.YtcneepffhplpiaaD3
namespace Go.Proofs.Ytcneepffhplpiaa.H
open Go.RowKit Go.Proofs.YtcneepffhplpiaaW.PrintWords Go.Proofs.YtcneepffhplpiaaW.PrintLast Go.Proofs.YtcneepffhplpiaaW.PrintMore
set_option linter.unusedVariables false
set_option linter.unusedSimpArgs false
set_option maxHeartbeats 8000000
set_option maxRecDepth 100000
theorem apart_left {w : World} {base c b c2 b2 : Nat} {wy : Int} {vs vs2 vs' : List Value} {M2 : List (List Int)} (h : St w base c2 b2 wy vs2 M2) (hd : ∀ k, Foot c b vs k → ¬ Foot c2 b2 vs2 k) (hF : ∀ k, Foot c b vs' k → Foot c b vs k ∨ w.heap.size ≤ k) : ∀ k, Foot c b vs' k → ¬ Foot c2 b2 vs2 k := fun k hk hf => by
  rcases hF k hk with h1 | h1
  · exact hd k h1 hf
  · have := (h.foot_lt hf).2
    omega
theorem apart_right {w : World} {base c b c2 b2 : Nat} {wy : Int} {vs vs2 vs' : List Value} {M : List (List Int)} (h : St w base c b wy vs M) (hd : ∀ k, Foot c b vs k → ¬ Foot c2 b2 vs2 k) (hF : ∀ k, Foot c2 b2 vs' k → Foot c2 b2 vs2 k ∨ w.heap.size ≤ k) : ∀ k, Foot c b vs k → ¬ Foot c2 b2 vs' k := fun k hk hf => by
  rcases hF k hf with h1 | h1
  · exact hd k hk h1
  · have := (h.foot_lt hk).2
    omega
theorem other_set (s n r : Int) (h0 : 0 ≤ s) (h1 : s < n) (h2 : 0 ≤ r) (h3 : r < n - 1) : 0 ≤ (s + 1 + r) % n ∧ (s + 1 + r) % n < n ∧ (s + 1 + r) % n ≠ s := by
  refine ⟨Int.emod_nonneg _ (by omega), Int.emod_lt_of_pos _ (by omega), ?_⟩
  by_cases h : s + 1 + r < n
  · rw [Int.emod_eq_of_lt (by omega) h]; omega
  · have e : (s + 1 + r) % n = (s + 1 + r - n) % n := by rw [Int.sub_emod_right]
    rw [e, Int.emod_eq_of_lt (by omega) (by omega)]; omega
theorem row_get {w : World} {k : IntKind} {a : Option Addr} {len cap : Nat} {zs : List Int} (h : Rw.IsRow k w a len cap zs) {i : Nat} (hi : i < len) : ∃ x, a = some x ∧ ∃ z, (∀ w', Below w.heap.size w w' → w'.cell? (x.add i) = some (.int k z)) ∧ (Lit.int k z).wf = true := by
  rcases h with ⟨_, h0, _⟩ | ⟨x, rfl, hl, _, hz, hc, hw⟩
  · omega
  · refine ⟨x, rfl, _, fun w' hb => pw_cell_below hb (hc i (by omega)), hw _ ?_⟩
    have : i < zs.length := by omega
    simp [this]
theorem apart_any (K W0 S0 : Int) (sA : Option Addr) (sl sc : Nat) (sz : List Int) (tA : Option Addr) (tl0 tc : Nat) (tz : List Int) (oA : Option Addr) (ol oc : Nat) (oz : List Int) (w : World)
    (hK : (Lit.int .i64 K).wf = true) (hW : (Lit.int .i64 W0).wf = true) (hS : (Lit.int .i64 S0).wf = true) (hs : Rw.IsRow .i64 w sA sl sc sz) (ht : Rw.IsRow .u64 w tA tl0 tc tz) (ho : Rw.IsRow .u64 w oA ol oc oz) :
    Calls Try.prog 4 #[.agg #[.int .i64 K, .int .i64 W0, .int .i64 S0, .slice sA sl sc, .slice tA tl0 tc, .slice oA ol oc]] w fun e w' => e = .returned (.bool true) ∧ Below w.heap.size w w' := by
  have HTR := Aside0.mk ht
  have HOR := Aside0.mk ho
  clear hK hW hS hs ht ho
  have HB0 := Aside0.mk (below_alloc (Below.refl w.heap.size w) (.cells #[.int .i64 K, .int .i64 W0, .int .i64 S0, .slice sA sl sc, .slice tA tl0 tc, .slice oA ol oc] 25))
  have hbx : Bl (w.alloc (.cells #[.int .i64 K, .int .i64 W0, .int .i64 S0, .slice sA sl sc, .slice tA tl0 tc, .slice oA ol oc] 25)) w.heap.size 25 #[.int .i64 K, .int .i64 W0, .int .i64 S0, .slice sA sl sc, .slice tA tl0 tc, .slice oA ol oc] := heap_alloc_new w _
  have b0 : (w.alloc (.cells #[.int .i64 K, .int .i64 W0, .int .i64 S0, .slice sA sl sc, .slice tA tl0 tc, .slice oA ol oc] 25)).cell? ⟨w.heap.size, 0, none⟩ = some (.int .i64 K) := blk_cell hbx 0
  have b1 : (w.alloc (.cells #[.int .i64 K, .int .i64 W0, .int .i64 S0, .slice sA sl sc, .slice tA tl0 tc, .slice oA ol oc] 25)).cell? ⟨w.heap.size, 1, none⟩ = some (.int .i64 W0) := blk_cell hbx 1
  have b2 : (w.alloc (.cells #[.int .i64 K, .int .i64 W0, .int .i64 S0, .slice sA sl sc, .slice tA tl0 tc, .slice oA ol oc] 25)).cell? ⟨w.heap.size, 2, none⟩ = some (.int .i64 S0) := blk_cell hbx 2
  have b4 : (w.alloc (.cells #[.int .i64 K, .int .i64 W0, .int .i64 S0, .slice sA sl sc, .slice tA tl0 tc, .slice oA ol oc] 25)).cell? ⟨w.heap.size, 4, none⟩ = some (.slice tA tl0 tc) := blk_cell hbx 4
  have b5 : (w.alloc (.cells #[.int .i64 K, .int .i64 W0, .int .i64 S0, .slice sA sl sc, .slice tA tl0 tc, .slice oA ol oc] 25)).cell? ⟨w.heap.size, 5, none⟩ = some (.slice oA ol oc) := blk_cell hbx 5
  clear hbx
  go_enter Try.func4, Try.ntmps4
  go_wp2_with fail
  go_quiet (fail)
  have hdq : Below (w.alloc (.cells #[.int .i64 K, .int .i64 W0, .int .i64 S0, .slice sA sl sc, .slice tA tl0 tc, .slice oA ol oc] 25)).heap.size (w.alloc (.cells #[.int .i64 K, .int .i64 W0, .int .i64 S0, .slice sA sl sc, .slice tA tl0 tc, .slice oA ol oc] 25)) (World.drewN (w.alloc (.cells #[.int .i64 K, .int .i64 W0, .int .i64 S0, .slice sA sl sc, .slice tA tl0 tc, .slice oA ol oc] 25)) nq) := pw_below_drewN (Below.refl _ _) nq
  have HBq := Aside0.mk (below_step HB0.out hdq)
  have d0 := pw_cell_below hdq b0
  have d1 := pw_cell_below hdq b1
  have d2 := pw_cell_below hdq b2
  have HD2 := Aside0.mk d2
  clear b0 b1 b2 b4 b5 hdq HB0 d2
  generalize World.drewN (w.alloc (.cells #[.int .i64 K, .int .i64 W0, .int .i64 S0, .slice sA sl sc, .slice tA tl0 tc, .slice oA ol oc] 25)) nq = wq at HBq d0 d1 HD2 ⊢
  have HK4 := Aside0.mk (within_is K 4 (by omega) (by omega))
  have hk0 : 0 ≤ K % 4 := Int.emod_nonneg _ (by omega)
  have hk1 : K % 4 < 4 := Int.emod_lt_of_pos _ (by omega)
  generalize K % 4 = k4 at HK4 hk0 hk1
  have hkw : IntKind.i64.wrap (1 + k4) = 1 + k4 := IntWalk.i64_in _ (by omega)
  go_wp2_with fail
  go_region_held3 (fun w' => w'.cell? ⟨w.heap.size, 0, none⟩ = some (.int .i64 K) ∧ w'.cell? ⟨w.heap.size, 1, none⟩ = some (.int .i64 W0) ∧ Below wq.heap.size wq w')
    (exact ⟨pw_cell_below (w := wq) (by (repeat (with_reducible first | exact Below.refl _ _ | exact hX2 | exact hX1 | apply below_alloc | apply pw_below_drewN | apply below_drew))) d0, pw_cell_below (w := wq) (by (repeat (with_reducible first | exact Below.refl _ _ | exact hX2 | exact hX1 | apply below_alloc | apply pw_below_drewN | apply below_drew))) d1, (by (repeat (with_reducible first | exact Below.refl _ _ | exact hX2 | exact hX1 | apply below_alloc | apply pw_below_drewN | apply below_drew)))⟩)
    (first
      | (go_at_call 10; refine (cofferdamref00_Within.calls K 4 _ _ HK4.out).mono ?_; rintro e wi ⟨rfl, hd1⟩; have hX1 := below_step (w := wq) (by (repeat (with_reducible first | exact Below.refl _ _ | exact hX2 | exact hX1 | apply below_alloc | apply pw_below_drewN | apply below_drew))) hd1.below)
      | (go_at_call 8; refine (made_any (1 + k4) W0 _).mono ?_; rintro e wm ⟨c, b, rfl, hSm, hBm⟩; have hX2 := below_step (w := wq) (by (repeat (with_reducible first | exact Below.refl _ _ | exact hX2 | exact hX1 | apply below_alloc | apply pw_below_drewN | apply below_drew))) hBm))
  have HA := Aside0.mk (hSm.lower (Nat.le_trans HBq.out.size hX1.size))
  have HB := Aside0.mk (below_step HBq.out hX2)
  have d0' := pw_cell_below hX2 d0
  have d1' := pw_cell_below hX2 d1
  have HD2' := Aside0.mk (pw_cell_below hX2 HD2.out)
  clear hSm hBm hX1 hX2 hd1 d0 d1 HD2 HBq
  have hw0 : 0 ≤ W0 % 8 := Int.emod_nonneg _ (by omega)
  have hw1 : W0 % 8 < 8 := Int.emod_lt_of_pos _ (by omega)
  have hn2 : 2 ≤ two ((1 + k4) % 5) ∧ two ((1 + k4) % 5) ≤ 16 := by
    rw [Int.emod_eq_of_lt (by omega) (by omega)]
    unfold two
    repeat' split
    all_goals omega
  have HMM := Aside0.mk (made_any (1 + k4) W0)
  obtain ⟨wy, hwy⟩ : ∃ wy : Nat, (wy : Int) = 1 + W0 % 8 := ⟨(1 + W0 % 8).toNat, by omega⟩
  rw [← hwy] at HA HMM ⊢
  clear hw0 hw1 hwy
  generalize two ((1 + k4) % 5) = n at HA HMM hn2 ⊢
  obtain ⟨hn2, hn16⟩ := hn2
  have hml : (emp n).length = n := by simp [emp]
  generalize hvs0 : List.replicate n nilV = vs at HA HMM
  generalize hM0 : emp n = M at HA HMM hml
  have HA' := HA
  clear HA hvs0 hM0
  have HA := HA'
  clear HA'
  go_wp2_with fail
  go_region_held3 (fun w' => w'.cell? ⟨w.heap.size, 0, none⟩ = some (.int .i64 K) ∧ w'.cell? ⟨w.heap.size, 1, none⟩ = some (.int .i64 W0) ∧ Below wm.heap.size wm w')
    (exact ⟨pw_cell_below (w := wm) (by (repeat (with_reducible first | exact Below.refl _ _ | exact hX2 | exact hX1 | apply below_alloc | apply pw_below_drewN | apply below_drew))) d0', pw_cell_below (w := wm) (by (repeat (with_reducible first | exact Below.refl _ _ | exact hX2 | exact hX1 | apply below_alloc | apply pw_below_drewN | apply below_drew))) d1', (by (repeat (with_reducible first | exact Below.refl _ _ | exact hX2 | exact hX1 | apply below_alloc | apply pw_below_drewN | apply below_drew)))⟩)
    (first
      | (go_at_call 10; refine (cofferdamref00_Within.calls K 4 _ _ HK4.out).mono ?_; rintro e wi ⟨rfl, hd1⟩; have hX1 := below_step (w := wm) (by (repeat (with_reducible first | exact Below.refl _ _ | exact hX2 | exact hX1 | apply below_alloc | apply pw_below_drewN | apply below_drew))) hd1.below)
      | (go_at_call 8; refine (HMM.out _).mono ?_; rintro e wn ⟨c2, b2', rfl, hSm, hBm⟩; have hX2 := below_step (w := wm) (by (repeat (with_reducible first | exact Below.refl _ _ | exact hX2 | exact hX1 | apply below_alloc | apply pw_below_drewN | apply below_drew))) hBm))
  have HC := Aside0.mk (hSm.lower (Nat.le_trans HB.out.size hX1.size))
  have HB3 := Aside0.mk (below_step HB.out hX2)
  have HA3 := Aside0.mk (HA.out.later hX2)
  have HDJ : Aside0 (∀ k, Foot c b vs k → ¬ Foot c2 b2' vs k) := ⟨fun k hk hf => by
    have h1 := (HA.out.foot_lt hk).2
    have h2 := (hSm.foot_lt hf).1
    have h3 := hX1.size
    omega⟩
  have HD3 := Aside0.mk (pw_cell_below hX2 HD2'.out)
  clear hSm hBm hX1 hX2 hd1 d0' d1' HD2' HB HA HMM HK4 hk0 hk1 hkw
  go_wp2_with fail
  refine (awake_any _).mono ?_
  rintro e w2 ⟨rfl, hb⟩
  have HA4 := Aside0.mk (HA3.out.later hb)
  have HC4 := Aside0.mk (HC.out.later hb)
  have HB4 := Aside0.mk (below_step HB3.out hb)
  have d2 := pw_cell_below hb HD3.out
  clear HA3 HC HB3 HD3 hb
  go_wp2_with fail
  have hwi := within_is S0 (n : Int) (by omega) (by omega)
  have hz0 : 0 ≤ S0 % (n : Int) := Int.emod_nonneg _ (by omega)
  have hz1 : S0 % (n : Int) < (n : Int) := Int.emod_lt_of_pos _ (by omega)
  obtain ⟨s, hs⟩ : ∃ s : Nat, (s : Int) = S0 % (n : Int) := ⟨(S0 % (n : Int)).toNat, by omega⟩
  rw [← hs] at hwi hz1
  have hsn : s < n := by omega
  refine (cofferdamref00_Within.calls S0 (n : Int) _ _ hwi).mono ?_
  rintro e w3 ⟨rfl, hd⟩
  have HA5 := Aside0.mk (HA4.out.later hd.below)
  have HC5 := Aside0.mk (HC4.out.later hd.below)
  have HB5 := Aside0.mk (below_step HB4.out hd.below)
  clear HA4 HC4 HB4 hd d2 hwi hz0 hz1 hs
  go_wp2_with fail
  go_loopw [12] (fun v12 wr => ∃ (i : Nat) (vs1 vs2 : List Value) (M1 M2 : List (List Int)), i ≤ 200 ∧ v12 = .int .i64 i ∧ M1.length = n ∧ M2.length = n ∧ M1.getD s [] = M2.getD s [] ∧ Aside0 (St wr w.heap.size c b wy vs1 M1) ∧ Aside0 (St wr w.heap.size c2 b2' wy vs2 M2) ∧ Aside0 (∀ k, Foot c b vs1 k → ¬ Foot c2 b2' vs2 k) ∧ Aside0 (Below w.heap.size w wr)) (fun v12 _ => 200 - (intOf v12).toNat)
  case atStart => exact ⟨0, vs, vs, M, M, by omega, rfl, hml, hml, rfl, HA5, HC5, HDJ, HB5⟩
  case round =>
    clear HA5 HC5 HDJ HB5 hml vs M
    obtain ⟨i, vs1, vs2, M1, M2, hi, rfl, hl1, hl2, hsame, hA, hC, hDJ, hB⟩ := hrel
    by_cases h1 : i < tl0
    · by_cases h3 : i < 200
      · obtain ⟨x, rfl, u, hux, huw⟩ := row_get HTR.out h1
        have hu := hux _ hB.out
        have HUX := Aside0.mk hux
        clear hux
        have hu0 := (u64_24 huw).1
        go_wp2_with fail
        generalize ht : u % 12 = t
        have hs1 : s < M1.length := by omega
        refine (touch_on _ _ c b (wy : Int) vs1 M1 s t hA.out hs1).mono ?_
        rintro e w4 ⟨vs1', rfl, hS', hK, hF, hB'⟩
        have HS4 := Aside0.mk hS'
        have HT4 := Aside0.mk (hC.out.kept hK (fun k hk hf => hDJ.out k hf hk))
        have HJ4 := Aside0.mk (apart_left hC.out hDJ.out hF)
        have HB4 := Aside0.mk (hB.out.trans hB')
        have hl1' : (M1.set s (tl (wy : Int) (M1.getD s []) t)).length = n := by rw [List.length_set]; exact hl1
        have hg1' : (M1.set s (tl (wy : Int) (M1.getD s []) t)).getD s [] = tl (wy : Int) (M1.getD s []) t := getD_set_same _ _ _ _ hs1
        rw [hsame] at HS4 hl1' hg1' ⊢
        generalize hq : decide (0 ≤ idx (M2.getD s []) t) = q
        generalize M1.set s (tl (wy : Int) (M2.getD s []) t) = M1' at HS4 hl1' hg1'
        clear hS' hK hF hB' hA hC hDJ hB hu hsame hl1 hs1
        by_cases h2 : i < ol
        · obtain ⟨y, rfl, z, hzx, hzw⟩ := row_get HOR.out h2
          have hz4 := hzx _ HB4.out
          have HZX := Aside0.mk hzx
          have hz0 := u64_24 hzw
          clear hzx hzw
          have hr0 : 0 ≤ z % ((n : Int) - 1) := Int.emod_nonneg _ (by omega)
          have hr1 : z % ((n : Int) - 1) < (n : Int) - 1 := Int.emod_lt_of_pos _ (by omega)
          have hos := other_set (s : Int) (n : Int) (z % ((n : Int) - 1)) (by omega) (by omega) hr0 hr1
          have hwi := within_is ((s : Int) + 1 + z % ((n : Int) - 1)) (n : Int) (by omega) (by omega)
          obtain ⟨s', hs'⟩ : ∃ s' : Nat, (s' : Int) = ((s : Int) + 1 + z % ((n : Int) - 1)) % (n : Int) := ⟨(((s : Int) + 1 + z % ((n : Int) - 1)) % (n : Int)).toNat, by omega⟩
          rw [← hs'] at hwi hos
          have HWI := Aside0.mk hwi
          have hs2 : s' < M2.length := by omega
          have hss : s ≠ s' := by omega
          clear hwi hos hs'
          have e1 : IntKind.i64.wrap ((n : Int) - 1) = (n : Int) - 1 := IntWalk.i64_in _ (by omega)
          have e2 : IntKind.u64.wrap ((n : Int) - 1) = (n : Int) - 1 := by simp [IntKind.wrap, IntKind.signed, IntKind.bits]; omega
          have e3 : IntKind.i64.wrap ((s : Int) + 1) = (s : Int) + 1 := IntWalk.i64_in _ (by omega)
          have e5 : Int.tmod z ((n : Int) - 1) = z % ((n : Int) - 1) := Int.tmod_eq_emod_of_nonneg hz0.1
          generalize hrr : z % ((n : Int) - 1) = r at hr0 hr1 HWI e5
          have e6 : IntKind.i64.wrap r = r := IntWalk.i64_in _ (by omega)
          have e7 : IntKind.i64.wrap ((s : Int) + 1 + r) = (s : Int) + 1 + r := IntWalk.i64_in _ (by omega)
          have e8 : ((n : Int) - 1 = 0) = False := by simp; omega
          go_wp2_with fail
          go_region_held3 (fun w' => w'.cell? (y.add i) = some (.int .u64 z) ∧ Below w.heap.size w w')
            (exact ⟨HZX.out _ (by (repeat (with_reducible first | exact hX2 | exact hX1 | exact HB4.out | apply pw_below_drewN | apply below_drew))), (by (repeat (with_reducible first | exact hX2 | exact hX1 | exact HB4.out | apply pw_below_drewN | apply below_drew)))⟩)
            (first
              | (go_at_call 10; refine (cofferdamref00_Within.calls ((s : Int) + 1 + r) (n : Int) _ _ HWI.out).mono ?_; rintro e wi ⟨rfl, hd1⟩; have hX1 := below_step (w := w) (by (repeat (with_reducible first | exact hX2 | exact hX1 | exact HB4.out | apply pw_below_drewN | apply below_drew))) hd1.below; have hY1 := below_step (w := w4) (by (repeat (with_reducible first | exact Below.refl _ _ | exact hY1 | apply pw_below_drewN | apply below_drew))) hd1.below)
              | (go_at_call 11; refine (touch_on _ w.heap.size c2 b2' (wy : Int) vs2 M2 s' _ (HT4.out.later (by (repeat (with_reducible first | exact Below.refl _ _ | exact hY1 | apply pw_below_drewN | apply below_drew)))) hs2).mono ?_; rintro e w5 ⟨vs2', rfl, hS5, hK5, hF5, hB5⟩; have hX2 := Below.trans (by (repeat (with_reducible first | exact hX2 | exact hX1 | exact HB4.out | apply pw_below_drewN | apply below_drew))) hB5))
          have HT5 := Aside0.mk hS5
          have HS5 := Aside0.mk (St.kept (HS4.out.later (by (repeat (with_reducible first | exact Below.refl _ _ | exact hY1 | apply pw_below_drewN | apply below_drew)))) hK5 (fun k hk hf => HJ4.out k hk hf))
          have HJ5 := Aside0.mk (apart_right (HS4.out.later (by (repeat (with_reducible first | exact Below.refl _ _ | exact hY1 | apply pw_below_drewN | apply below_drew)))) HJ4.out hF5)
          have HB5 := Aside0.mk hX2
          have hl2' : (M2.set s' (tl (wy : Int) (M2.getD s' []) (IntKind.u64.wrap (z.tdiv 7)))).length = n := by rw [List.length_set]; exact hl2
          have hg2' : (M2.set s' (tl (wy : Int) (M2.getD s' []) (IntKind.u64.wrap (z.tdiv 7)))).getD s [] = M2.getD s [] := getD_set_other _ _ _ _ _ hss
          generalize M2.set s' (tl (wy : Int) (M2.getD s' []) (IntKind.u64.wrap (z.tdiv 7))) = M3 at HT5 hl2' hg2'
          clear hS5 hK5 hF5 hB5 hX2 hX1 hY1 hd1 hz4 HT4 HS4 HJ4 HB4 HZX HWI e1 e2 e3 e5 e6 e7 e8 hr0 hr1 hrr hs2 hss hz0
          have hu5 := HUX.out _ HB5.out
          go_wp2_with fail
          rw [ht]
          refine (touch_on _ _ c2 b2' (wy : Int) vs2' M3 s t HT5.out (by omega)).mono ?_
          rintro e w6 ⟨vs2n, rfl, hSn, hKn, hFn, hBn⟩
          have HT6 := Aside0.mk hSn
          have HS6 := Aside0.mk (HS5.out.kept hKn (fun k hk hf => HJ5.out k hk hf))
          have HJ6 := Aside0.mk (apart_right HS5.out HJ5.out hFn)
          have HB6 := Aside0.mk (HB5.out.trans hBn)
          have hl6 : (M3.set s (tl (wy : Int) (M3.getD s []) t)).length = n := by rw [List.length_set]; exact hl2'
          have hg6 : (M3.set s (tl (wy : Int) (M3.getD s []) t)).getD s [] = tl (wy : Int) (M3.getD s []) t := getD_set_same _ _ _ _ (by omega)
          have hg7 : M1'.getD s [] = (M3.set s (tl (wy : Int) (M3.getD s []) t)).getD s [] := by rw [hg6, hg1', hg2']
          clear hSn hKn hFn hBn hu5
          have hq3 : decide (0 ≤ idx (M3.getD s []) t) = q := by rw [hg2']; exact hq
          rw [hq3]
          generalize M3.set s (tl (wy : Int) (M3.getD s []) t) = M2' at HT6 hl6 hg7
          go_wp2_with fail
          go_roundw
          case rel => exact ⟨i + 1, vs1', vs2n, M1', M2', by omega, by go_num, hl1', hl6, hg7, HS6, HT6, HJ6, HB6⟩
          case measure => simp [intOf]; omega
        · have hu5 := HUX.out _ HB4.out
          go_wp2_with fail
          rw [ht]
          refine (touch_on _ _ c2 b2' (wy : Int) vs2 M2 s t HT4.out (by omega)).mono ?_
          rintro e w6 ⟨vs2n, rfl, hSn, hKn, hFn, hBn⟩
          have HT6 := Aside0.mk hSn
          have HS6 := Aside0.mk (HS4.out.kept hKn (fun k hk hf => HJ4.out k hk hf))
          have HJ6 := Aside0.mk (apart_right HS4.out HJ4.out hFn)
          have HB6 := Aside0.mk (HB4.out.trans hBn)
          have hl6 : (M2.set s (tl (wy : Int) (M2.getD s []) t)).length = n := by rw [List.length_set]; exact hl2
          have hg6 : (M2.set s (tl (wy : Int) (M2.getD s []) t)).getD s [] = tl (wy : Int) (M2.getD s []) t := getD_set_same _ _ _ _ (by omega)
          have hg7 : M1'.getD s [] = (M2.set s (tl (wy : Int) (M2.getD s []) t)).getD s [] := by rw [hg6, hg1']
          clear hSn hKn hFn hBn hu5
          generalize M2.set s (tl (wy : Int) (M2.getD s []) t) = M2' at HT6 hl6 hg7
          rw [hq]
          go_wp2_with fail
          go_roundw
          case rel => exact ⟨i + 1, vs1', vs2n, M1', M2', by omega, by go_num, hl1', hl6, hg7, HS6, HT6, HJ6, HB6⟩
          case measure => simp [intOf]; omega
      · go_wp2_with fail
        go_ret
        exact ⟨rfl, hB.out⟩
    · go_wp2_with fail
      go_ret
      exact ⟨rfl, hB.out⟩
end Go.Proofs.Ytcneepffhplpiaa.H
