/- The law CacheLast by its contracts. -/
import Derived.Test.YtcneepffhplpiaaD4
import Derived.Test.YtcneepffhplpiaaC7
namespace Go.Proofs.Ytcneepffhplpiaa.H
open Go.RowKit Go.Proofs.YtcneepffhplpiaaW.PrintWords Go.Proofs.YtcneepffhplpiaaW.PrintLast Go.Proofs.YtcneepffhplpiaaW.PrintMore
set_option linter.unusedVariables false
set_option linter.unusedSimpArgs false
set_option maxHeartbeats 8000000
set_option maxRecDepth 100000
theorem last_any (K W0 S0 : Int) (sA : Option Addr) (sl sc : Nat) (sz : List Int) (tA : Option Addr) (tl0 tc : Nat) (tz : List Int) (oA : Option Addr) (ol oc : Nat) (oz : List Int) (w : World)
    (hK : (Lit.int .i64 K).wf = true) (hW : (Lit.int .i64 W0).wf = true) (hS : (Lit.int .i64 S0).wf = true) (hs : Rw.IsRow .i64 w sA sl sc sz) (ht : Rw.IsRow .u64 w tA tl0 tc tz) (ho : Rw.IsRow .u64 w oA ol oc oz) :
    Calls Try.prog 5 #[.agg #[.int .i64 K, .int .i64 W0, .int .i64 S0, .slice sA sl sc, .slice tA tl0 tc, .slice oA ol oc]] w fun e w' => e = .returned (.bool true) ∧ Below w.heap.size w w' := by
  obtain ⟨W1, hW1⟩ : ∃ W1, W1 = w.alloc (.cells #[.int .i64 K, .int .i64 W0, .int .i64 S0, .slice sA sl sc, .slice tA tl0 tc, .slice oA ol oc] 25) := ⟨_, rfl⟩
  have HB0 : Aside0 (Below w.heap.size w W1) := ⟨by rw [hW1]; exact below_alloc (Below.refl w.heap.size w) _⟩
  have hbx : Bl W1 w.heap.size 25 #[.int .i64 K, .int .i64 W0, .int .i64 S0, .slice sA sl sc, .slice tA tl0 tc, .slice oA ol oc] := by rw [hW1]; exact heap_alloc_new w _
  have HSR := Aside0.mk hs
  have HOR := Aside0.mk ho
  have b0 : W1.cell? ⟨w.heap.size, 0, none⟩ = some (.int .i64 K) := blk_cell hbx 0
  have b1 : W1.cell? ⟨w.heap.size, 1, none⟩ = some (.int .i64 W0) := blk_cell hbx 1
  have b3 : Aside0 (W1.cell? ⟨w.heap.size, 3, none⟩ = some (.slice sA sl sc)) := ⟨blk_cell hbx 3⟩
  have b5 : Aside0 (W1.cell? ⟨w.heap.size, 5, none⟩ = some (.slice oA ol oc)) := ⟨blk_cell hbx 5⟩
  have HM := Aside0.mk (made_any K W0)
  clear hK hW hS hs ht ho hbx
  go_enter Try.func5, Try.ntmps5
  have b0' := b0
  have b1' := b1
  rw [hW1] at b0' b1'
  go_wp2_with fail
  rw [← hW1]
  clear b0' b1' hW1
  refine (HM.out _).mono ?_
  rintro e w1 ⟨c, b, rfl, hSa, hB⟩
  have HA := Aside0.mk hSa
  have HB := Aside0.mk hB
  have d0 := pw_cell_below hB b0
  have d1 := pw_cell_below hB b1
  clear hSa hB b0 b1
  have hw0 : 0 ≤ W0 % 8 := Int.emod_nonneg _ (by omega)
  have hw1 : W0 % 8 < 8 := Int.emod_lt_of_pos _ (by omega)
  obtain ⟨wy, hwy⟩ : ∃ wy : Nat, (wy : Int) = 1 + W0 % 8 := ⟨(1 + W0 % 8).toNat, by omega⟩
  have hy1 : 1 ≤ wy := by omega
  have hy8 : wy ≤ 8 := by omega
  rw [← hwy] at HA HM ⊢
  have hn1 := (two_pos (K % 5)).1
  have hn16 := (two_pos (K % 5)).2
  clear hw0 hw1 hwy
  have HLs := Aside0.mk (Last.start (two (K % 5)) wy)
  generalize hnn : two (K % 5) = n at HA HLs HM hn1 hn16 ⊢
  clear hnn
  generalize List.replicate n nilV = vs at HA HM
  generalize emp n = M at HA HM HLs
  go_wp2_with fail
  refine (HM.out _).mono ?_
  rintro e w2 ⟨c2, b2', rfl, hSb, hB⟩
  have HC := Aside0.mk (hSb.lower HB.out.size)
  have HA2 := Aside0.mk (HA.out.later hB)
  have HB2 := Aside0.mk (below_step HB.out hB)
  have HDJ : Aside0 (∀ k, Foot c b vs k → ¬ Foot c2 b2' vs k) := ⟨fun k hk hf => by
    have h1 := (HA.out.foot_lt hk).2
    have h2 := (hSb.foot_lt hf).1
    omega⟩
  clear hSb hB HA HB HM d0 d1
  go_wp2_with fail
  refine (awake_any _).mono ?_
  rintro e w3 ⟨rfl, hb⟩
  have HA3 := Aside0.mk (HA2.out.later hb)
  have HC3 := Aside0.mk (HC.out.later hb)
  have HB3 := Aside0.mk (below_step HB2.out hb)
  clear HA2 HC HB2 hb
  go_wp2_with fail
  go_loopw [9] (fun v9 wr => ∃ (i : Nat) (vs2 : List Value) (M2 : List (List Int)) (H : List (Int × Int)), i ≤ 100 ∧ v9 = .int .i64 i ∧ Aside0 (St wr W1.heap.size c b wy vs M) ∧ Aside0 (St wr W1.heap.size c2 b2' wy vs2 M2) ∧ Aside0 (Last M2 H n wy) ∧ Aside0 (∀ k, Foot c b vs k → ¬ Foot c2 b2' vs2 k) ∧ Aside0 (Below W1.heap.size W1 wr)) (fun v9 _ => 100 - (intOf v9).toNat)
  case atStart => exact ⟨0, vs, M, [], by omega, rfl, HA3, HC3, HLs, HDJ, HB3⟩
  case round =>
    clear HA3 HC3 HDJ HB3
    obtain ⟨i, vs2, M2, H, hi, rfl, hA, hC, hL, hDJ, hB⟩ := hrel
    have d5 := pw_cell_below hB.out b5.out
    by_cases h1 : i < ol ∧ i < 100
    · obtain ⟨h1, h2⟩ := h1
      obtain ⟨y, rfl, z, hzx, hzw⟩ := row_get HOR.out h1
      have hz4 := hzx _ (below_step HB0.out hB.out)
      have HZX := Aside0.mk hzx
      have hz0 := u64_24 hzw
      clear hzx hzw
      have hr0 : 0 ≤ z % (n : Int) := Int.emod_nonneg _ (by omega)
      have hr1 : z % (n : Int) < (n : Int) := Int.emod_lt_of_pos _ (by omega)
      have e1 : IntKind.u64.wrap (n : Int) = (n : Int) := by simp [IntKind.wrap, IntKind.signed, IntKind.bits]; omega
      have e2 : Int.tmod z (n : Int) = z % (n : Int) := Int.tmod_eq_emod_of_nonneg hz0.1
      obtain ⟨s', hs'⟩ : ∃ s' : Nat, (s' : Int) = z % (n : Int) := ⟨(z % (n : Int)).toNat, by omega⟩
      rw [← hs'] at hr0 hr1 e2
      have e3 : IntKind.i64.wrap (s' : Int) = (s' : Int) := IntWalk.i64_in _ (by omega)
      have e4 : ((n : Int) = 0) = False := by simp; omega
      have e5 : ¬ n = 0 := by omega
      have hsn : s' < n := by omega
      have hs2 : s' < M2.length := by rw [hL.out.1]; exact hsn
      clear hs' hr0 hr1
      go_wp2_with fail
      go_region_held3 (fun w' => w'.cell? ⟨w.heap.size, 5, none⟩ = some (.slice (some y) ol oc) ∧ w'.cell? (y.add i) = some (.int .u64 z) ∧ Below W1.heap.size W1 w')
        (exact ⟨pw_cell_below (w := W1) (by (repeat (with_reducible first | exact hX2 | exact hX1 | exact hB.out | apply pw_below_drewN | apply below_drew))) b5.out, HZX.out _ (below_step HB0.out (by (repeat (with_reducible first | exact hX2 | exact hX1 | exact hB.out | apply pw_below_drewN | apply below_drew)))), (by (repeat (with_reducible first | exact hX2 | exact hX1 | exact hB.out | apply pw_below_drewN | apply below_drew)))⟩)
        (first
          | (go_at_call 11; refine (touch_on _ W1.heap.size c2 b2' (wy : Int) vs2 M2 s' _ (hC.out.later (by (repeat (with_reducible first | exact Below.refl _ _ | apply pw_below_drewN | apply below_drew)))) hs2).mono ?_; rintro e w5 ⟨vs2', rfl, hS5, hK5, hF5, hB5⟩; have hX2 := Below.trans (by (repeat (with_reducible first | exact hX2 | exact hX1 | exact hB.out | apply pw_below_drewN | apply below_drew))) hB5))
      have HS5 := Aside0.mk hS5
      have HA5 := Aside0.mk (St.kept (hA.out.later (by (repeat (with_reducible first | exact Below.refl _ _ | apply pw_below_drewN | apply below_drew)))) hK5 (fun k hk hf => hDJ.out k hk hf))
      have HJ5 := Aside0.mk (apart_right (hA.out.later (by (repeat (with_reducible first | exact Below.refl _ _ | apply pw_below_drewN | apply below_drew)))) hDJ.out hF5)
      have HL5 := Aside0.mk (hL.out.next hy1 hsn (IntKind.u64.wrap (z.tdiv 3)))
      have HB5 := Aside0.mk hX2
      generalize M2.set s' (tl (wy : Int) (M2.getD s' []) (IntKind.u64.wrap (z.tdiv 3))) = M3 at HS5 HL5
      clear hS5 hK5 hF5 hB5 hX2 hA hC hL hDJ hB hz4 d5 HZX e1 e2 e3 e4 e5
      go_wp2_with fail
      go_roundw
      case rel => exact ⟨i + 1, vs2', M3, _, by omega, by go_num, HA5, HS5, HL5, HJ5, HB5⟩
      case measure => simp [intOf] <;> omega
    · have d3 := pw_cell_below hB.out b3.out
      have hx : ¬ i < ol ∨ (i < ol ∧ ¬ i < 100) := by omega
      by_cases hsl : sl = 0
      · subst hsl
        have hsn : 0 < n := by omega
        rcases hx with hx | ⟨hx, hx2⟩
        all_goals
          have HA := hA
          have HC := hC
          have HL := hL
          have HD := hDJ
          have HB := hB
          clear hA hC hL hDJ hB
          go_wp2_with fail
          go_loopw [12] (fun v12 wr => ∃ (k : Nat) (vs1 vs2 : List Value) (M1 M2 : List (List Int)), k ≤ wy ∧ v12 = .int .i64 k ∧ Aside0 (St wr W1.heap.size c b wy vs1 M1) ∧ Aside0 (St wr W1.heap.size c2 b2' wy vs2 M2) ∧ Aside0 (Last M1 (TH 0 k) n wy) ∧ Aside0 (Last M2 (TH 0 k ++ H) n wy) ∧ Aside0 (∀ k, Foot c b vs1 k → ¬ Foot c2 b2' vs2 k) ∧ Aside0 (Below W1.heap.size W1 wr)) (fun v12 _ => wy - (intOf v12).toNat)
          case atStart => exact ⟨0, vs, vs2, M, M2, by omega, rfl, HA, HC, HLs, HL, HD, HB⟩
          case round =>
            clear HA HC HL HD HB HLs
            obtain ⟨k, vs1, vs2, M1, M2, hk, rfl, hA, hC, hL1, hL2, hDJ, hB⟩ := hrel
            by_cases hlt : k < wy
            · have m1 : IntKind.i64.wrap (7 * (k : Int)) = 7 * (k : Int) := IntWalk.i64_in _ (by omega)
              have m2 : IntKind.i64.wrap (1000 + 7 * (k : Int)) = 1000 + 7 * (k : Int) := IntWalk.i64_in _ (by omega)
              have m3 : IntKind.u64.wrap (1000 + 7 * (k : Int)) = 1000 + 7 * (k : Int) := by simp [IntKind.wrap, IntKind.signed, IntKind.bits]; omega
              have hs1 : 0 < M1.length := by rw [hL1.out.1]; exact hsn
              have hs2 : 0 < M2.length := by rw [hL2.out.1]; exact hsn
              have hmiss := last_miss hL1.out hsn
              have HN1 := Aside0.mk (hL1.out.next hy1 hsn (1000 + 7 * (k : Int)))
              have HN2 := Aside0.mk (hL2.out.next hy1 hsn (1000 + 7 * (k : Int)))
              have HTN : Aside0 ((((0 : Nat) : Int), 1000 + 7 * (k : Int)) :: TH 0 k = TH 0 (k + 1)) := ⟨rfl⟩
              have HTN2 : Aside0 ((((0 : Nat) : Int), 1000 + 7 * (k : Int)) :: (TH 0 k ++ H) = TH 0 (k + 1) ++ H) := ⟨rfl⟩
              go_wp2_with fail
              obtain ⟨t, htt⟩ : ∃ t, t = 1000 + 7 * (k : Int) := ⟨_, rfl⟩
              rw [← htt] at hmiss HN1 HN2 HTN HTN2 ⊢
              clear m1 m2 m3 htt
              refine (touch_on _ _ c b (wy : Int) vs1 M1 0 t hA.out hs1).mono ?_
              rintro e w5 ⟨vs1', rfl, hS', hK', hF', hB'⟩
              rw [hmiss]
              have HA5 := Aside0.mk hS'
              have HC5 := Aside0.mk (hC.out.kept hK' (fun k hk hf => hDJ.out k hf hk))
              have HJ5 := Aside0.mk (apart_left hC.out hDJ.out hF')
              have HB5 := Aside0.mk (hB.out.trans hB')
              clear hS' hK' hF' hB' hA hC hDJ hB hmiss hs1
              generalize M1.set 0 (tl (wy : Int) (M1.getD 0 []) t) = M1' at HA5 HN1
              go_wp2_with fail
              refine (touch_on _ _ c2 b2' (wy : Int) vs2 M2 0 t HC5.out hs2).mono ?_
              rintro e w6 ⟨vs2', rfl, hS', hK', hF', hB'⟩
              have HC6 := Aside0.mk hS'
              have HA6 := Aside0.mk (HA5.out.kept hK' (fun k hk hf => HJ5.out k hk hf))
              have HJ6 := Aside0.mk (apart_right HA5.out HJ5.out hF')
              have HB6 := Aside0.mk (HB5.out.trans hB')
              clear hS' hK' hF' hB' HA5 HC5 HJ5 HB5 hs2
              generalize M2.set 0 (tl (wy : Int) (M2.getD 0 []) t) = M2' at HC6 HN2
              generalize decide (0 ≤ idx (M2.getD 0 []) t) = q
              go_wp2_with fail
              go_roundw
              case rel => exact ⟨k + 1, vs1', vs2', M1', M2', by omega, by go_num, HA6, HC6, ⟨by rw [← HTN.out]; exact HN1.out⟩, ⟨by rw [← HTN2.out]; exact HN2.out⟩, HJ6, HB6⟩
              case measure => simp [intOf] <;> omega
            · have hkw : k = wy := by omega
              subst hkw
              clear hk hlt
              have HA := hA
              have HC := hC
              have HB := hB
              have HT1 := Aside0.mk (last_lines hL1.out hsn)
              have HT2 := Aside0.mk (last_of hL2.out hsn)
              have HM2 := Aside0.mk (LN_le M2 (fun i hi => by have := hC.out.lens i hi; omega) M2.length (Nat.le_refl _))
              have hm2 := hC.out.small
              have HLN2 : Aside0 ((LN M2 M2.length).length < 4611686018427) := ⟨by have := HM2.out; omega⟩
              clear hA hC hL1 hL2 hDJ hB HM2 hm2
              have w1i : IntKind.i64.wrap ((k : Int) - 1) = (k : Int) - 1 := IntWalk.i64_in _ (by omega)
              go_wp2_with fail
              obtain ⟨w9, hw9⟩ : ∃ w9, w9 = wr := ⟨_, rfl⟩
              rw [← hw9] at HA HC HB ⊢
              clear hw9 w1i
              go_loopw [11, 18] (fun v11 v18 wr => ∃ j : Nat, j ≤ k ∧ v18 = .int .i64 ((k : Int) - 1 - (j : Int)) ∧ Aside0 (Kd.R k39 39 wr w9.heap.size (fun _ => True) v11 (row39 0 ((T k).take j))) ∧ Aside0 (Below w9.heap.size w9 wr)) (fun _ v18 _ => (intOf v18 + 1).toNat)
              case atStart => exact ⟨0, by omega, by simp, ⟨Kd.R_nil _ _ _ _ _⟩, ⟨Below.refl _ _⟩⟩
              case round =>
                obtain ⟨j, hj, rfl, hR, hB3⟩ := hrel
                by_cases hjk : j < k
                · obtain ⟨p, hp⟩ : ∃ p : Nat, p = k - 1 - j := ⟨_, rfl⟩
                  have hpj : (k : Int) - 1 - (j : Int) = (p : Int) := by omega
                  have hp8 : p < 8 := by omega
                  have m1 : IntKind.i64.wrap (7 * (p : Int)) = 7 * (p : Int) := IntWalk.i64_in _ (by omega)
                  have m2 : IntKind.i64.wrap (1000 + 7 * (p : Int)) = 1000 + 7 * (p : Int) := IntWalk.i64_in _ (by omega)
                  have m3 : IntKind.u64.wrap (1000 + 7 * (p : Int)) = 1000 + 7 * (p : Int) := by simp [IntKind.wrap, IntKind.signed, IntKind.bits]; omega
                  have m4 : IntKind.i64.wrap ((p : Int) - 1) = (p : Int) - 1 := IntWalk.i64_in _ (by omega)
                  have hrs := row_step 0 (T k) (j := j) (by rw [T_len]; exact hjk)
                  rw [T_get k j hjk, ← hp] at hrs
                  have HRS := Aside0.mk hrs
                  clear hrs
                  rw [hpj]
                  have HPJ := Aside0.mk hpj
                  have HP := Aside0.mk hp
                  clear hpj hp
                  have hbs : Aside0 (w9.heap.size ≤ wr.heap.size) := ⟨hB3.out.size⟩
                  have hle : Aside0 (((row39 0 ((T k).take j)).length + 1) * 16 ≤ 140737488355328) := ⟨by rw [row39, List.length_map, List.length_take]; omega⟩
                  go_wp2_with (first | ((with_reducible refine gate_builtin (b := .append) (xs := #[.tmp 126, .tmp 133]) rfl ?_); at_builtin; refine Kd.R_append k39 (w0 := w9) w9.heap.size rfl (.tmp 126) (.tmp 133) 37 39 (.agg #[.int .i64 0, .int .u64 0]) 16 rfl Try.underlying37 info39 rfl (by decide) (by omega) _ (row39 0 ((T k).take j)) (⟨((0 : Nat) : Int), 1000 + 7 * (p : Int)⟩ : S39) [.int .i64 ((0 : Nat) : Int), .int .u64 (1000 + 7 * (p : Int))] (fun _ => True) (fun _ => False) rfl rfl (k39_mkM _ _ _ (⟨((0 : Nat) : Int), 1000 + 7 * (p : Int)⟩ : S39)) (fun _ hk => hk.elim) (fun _ _ => trivial) hR.out hB3.out hbs.out hle.out ?_; intro v' wa ho1 hb1 hg1 hat1; have HO := Aside0.mk ho1; have HBa := Aside0.mk hb1; clear ho1 hb1 hg1 hat1; refine Hold.of ?_))
                  unfold Hold
                  have HO' : Aside0 (Kd.R k39 39 wa w9.heap.size (fun _ => True) v' (row39 0 ((T k).take (j + 1)))) := ⟨by rw [HRS.out]; exact HO.out⟩
                  clear HO HRS hR hB3 hbs hle m1 m2 m3
                  go_wp2_with fail
                  go_roundw
                  case rel => exact ⟨j + 1, by omega, by have := HPJ.out; congr 1; omega, HO', HBa⟩
                  case measure => simp [intOf] <;> omega
                · have hje : j = k := by omega
                  subst hje
                  have hR' := hR.out
                  rw [List.take_of_length_le (by rw [T_len]; exact Nat.le_refl _)] at hR'
                  have hneg : ((j : Int) - 1 - (j : Int)) = -1 := by omega
                  rw [hneg]
                  have HAz := Aside0.mk (HA.out.later hB3.out)
                  have HCz := Aside0.mk (HC.out.later hB3.out)
                  have HBz := Aside0.mk (below_step (below_step HB0.out HB.out) hB3.out)
                  obtain ⟨Wn, hWn⟩ : ∃ Wn, Wn = row39 0 (T j) := ⟨_, rfl⟩
                  rw [← hWn] at hR' HT1 HT2
                  have hWl : Wn.length < 4611686018427387904 := by rw [hWn, row39, List.length_map, T_len]; omega
                  clear hWn hR hB3 HA HC HB hneg hj hjk
                  obtain ⟨A8, c8, rfl, hc8, hC8⟩ := Kd.R_reads hR'
                  have HC8 := Aside0.mk hC8
                  clear hR' hC8
                  go_wp2_with fail
                  refine (lines_any _ _ c b (j : Int) vs1 M1 HAz.out).mono ?_
                  rintro e wa ⟨v1, rfl, hR1, hb⟩
                  rw [HT1.out] at hR1
                  obtain ⟨A9, c9, rfl, hc9, hC9⟩ := Kd.R_reads hR1
                  have HC9 := Aside0.mk hC9
                  have HC8a := Aside0.mk (Kd.C_below HC8.out hb)
                  have HCa := Aside0.mk (HCz.out.later hb)
                  have HBa := Aside0.mk (below_step HBz.out hb)
                  clear hR1 hC9 hb HC8 HCz HBz HAz
                  have hsm := same_is Wn hWl
                  have HSM := Aside0.mk hsm
                  clear hsm
                  go_wp2_with fail
                  refine (cofferdamref03_Same.calls _ A9 c9 Wn A8 c8 Wn true _ HC9.out hc9 HC8a.out hc8 HSM.out).mono ?_
                  rintro e wb ⟨rfl, hd⟩
                  have HC8b := Aside0.mk (Kd.C_below HC8a.out hd.below)
                  have HCb := Aside0.mk (HCa.out.later hd.below)
                  have HBb := Aside0.mk (below_step HBa.out hd.below)
                  clear hd HC8a HCa HBa HC9
                  go_wp2_with fail
                  refine (lines_any _ _ c2 b2' (j : Int) vs2 M2 HCb.out).mono ?_
                  rintro e wc ⟨v1, rfl, hR1, hb⟩
                  have HLO := Aside0.mk (of_is (LN M2 M2.length) ((0 : Nat) : Int) HLN2.out)
                  rw [HT2.out] at HLO
                  generalize LN M2 M2.length = LL at hR1 HLO HLN2
                  obtain ⟨A9, c9, rfl, hc9, hC9⟩ := Kd.R_reads hR1
                  have HC9 := Aside0.mk hC9
                  have HC8c := Aside0.mk (Kd.C_below HC8b.out hb)
                  have HBc := Aside0.mk (below_step HBb.out hb)
                  clear hR1 hC9 hb HC8b HCb HBb
                  go_wp2_with fail
                  refine (cofferdamlaw03_of.calls _ A9 c9 LL ((0 : Nat) : Int) Wn _ HC9.out hc9 HLO.out).mono ?_
                  rintro e wd ⟨v2, rfl, hR2, hb⟩
                  obtain ⟨A7, c7, rfl, hc7, hC7⟩ := Kd.R_reads hR2
                  have HC7 := Aside0.mk hC7
                  have HC8d := Aside0.mk (Kd.C_below HC8c.out hb)
                  have HBd := Aside0.mk (below_step HBc.out hb)
                  clear hR2 hC7 hb HC8c HC9 HBc
                  go_wp2_with fail
                  refine (cofferdamref03_Same.calls _ A7 c7 Wn A8 c8 Wn true _ HC7.out hc7 HC8d.out hc8 HSM.out).mono ?_
                  rintro e we ⟨rfl, hd⟩
                  have HBe := Aside0.mk (below_step HBd.out hd.below)
                  clear hd
                  go_wp2_with fail
                  go_ret
                  exact ⟨rfl, HBe.out⟩
      · obtain ⟨x0, rfl, z0, hzx, hzw⟩ := row_get HSR.out (i := 0) (by omega)
        have hz4 := hzx _ (below_step HB0.out hB.out)
        have hz5 : wr.cell? x0 = some (.int .i64 z0) := by
          have e : x0.add 0 = x0 := by obtain ⟨b, o, m⟩ := x0; unfold Addr.add; cases m <;> simp
          rw [e] at hz4
          exact hz4
        clear hz4
        clear hzx hzw
        have hy0 : 0 ≤ IntKind.u64.wrap z0 := by simp [IntKind.wrap, IntKind.signed, IntKind.bits]; omega
        generalize hyy : IntKind.u64.wrap z0 = y0 at hy0
        have hr0 : 0 ≤ y0 % (n : Int) := Int.emod_nonneg _ (by omega)
        have hr1 : y0 % (n : Int) < (n : Int) := Int.emod_lt_of_pos _ (by omega)
        have e1 : IntKind.u64.wrap (n : Int) = (n : Int) := by simp [IntKind.wrap, IntKind.signed, IntKind.bits]; omega
        have e2 : Int.tmod y0 (n : Int) = y0 % (n : Int) := Int.tmod_eq_emod_of_nonneg hy0
        obtain ⟨s, hs'⟩ : ∃ s : Nat, (s : Int) = y0 % (n : Int) := ⟨(y0 % (n : Int)).toNat, by omega⟩
        rw [← hs'] at hr0 hr1 e2
        have e3 : IntKind.i64.wrap (s : Int) = (s : Int) := IntWalk.i64_in _ (by omega)
        have e4 : ((n : Int) = 0) = False := by simp; omega
        have hsn : s < n := by omega
        have h0l : (0 : Int) < (sl : Int) := by omega
        have h0l' : 0 < sl := by omega
        clear hs' hr0 hr1
        rcases hx with hx | ⟨hx, hx2⟩
        all_goals
          have HA := hA
          have HC := hC
          have HL := hL
          have HD := hDJ
          have HB := hB
          clear hA hC hL hDJ hB
          go_wp2_with fail
          go_loopw [12] (fun v12 wr => ∃ (k : Nat) (vs1 vs2 : List Value) (M1 M2 : List (List Int)), k ≤ wy ∧ v12 = .int .i64 k ∧ Aside0 (St wr W1.heap.size c b wy vs1 M1) ∧ Aside0 (St wr W1.heap.size c2 b2' wy vs2 M2) ∧ Aside0 (Last M1 (TH s k) n wy) ∧ Aside0 (Last M2 (TH s k ++ H) n wy) ∧ Aside0 (∀ k, Foot c b vs1 k → ¬ Foot c2 b2' vs2 k) ∧ Aside0 (Below W1.heap.size W1 wr)) (fun v12 _ => wy - (intOf v12).toNat)
          case atStart => exact ⟨0, vs, vs2, M, M2, by omega, rfl, HA, HC, HLs, HL, HD, HB⟩
          case round =>
            clear HA HC HL HD HB HLs
            obtain ⟨k, vs1, vs2, M1, M2, hk, rfl, hA, hC, hL1, hL2, hDJ, hB⟩ := hrel
            by_cases hlt : k < wy
            · have m1 : IntKind.i64.wrap (7 * (k : Int)) = 7 * (k : Int) := IntWalk.i64_in _ (by omega)
              have m2 : IntKind.i64.wrap (1000 + 7 * (k : Int)) = 1000 + 7 * (k : Int) := IntWalk.i64_in _ (by omega)
              have m3 : IntKind.u64.wrap (1000 + 7 * (k : Int)) = 1000 + 7 * (k : Int) := by simp [IntKind.wrap, IntKind.signed, IntKind.bits]; omega
              have hs1 : s < M1.length := by rw [hL1.out.1]; exact hsn
              have hs2 : s < M2.length := by rw [hL2.out.1]; exact hsn
              have hmiss := last_miss hL1.out hsn
              have HN1 := Aside0.mk (hL1.out.next hy1 hsn (1000 + 7 * (k : Int)))
              have HN2 := Aside0.mk (hL2.out.next hy1 hsn (1000 + 7 * (k : Int)))
              have HTN : Aside0 ((((s : Nat) : Int), 1000 + 7 * (k : Int)) :: TH s k = TH s (k + 1)) := ⟨rfl⟩
              have HTN2 : Aside0 ((((s : Nat) : Int), 1000 + 7 * (k : Int)) :: (TH s k ++ H) = TH s (k + 1) ++ H) := ⟨rfl⟩
              go_wp2_with fail
              obtain ⟨t, htt⟩ : ∃ t, t = 1000 + 7 * (k : Int) := ⟨_, rfl⟩
              rw [← htt] at hmiss HN1 HN2 HTN HTN2 ⊢
              clear m1 m2 m3 htt
              refine (touch_on _ _ c b (wy : Int) vs1 M1 s t hA.out hs1).mono ?_
              rintro e w5 ⟨vs1', rfl, hS', hK', hF', hB'⟩
              rw [hmiss]
              have HA5 := Aside0.mk hS'
              have HC5 := Aside0.mk (hC.out.kept hK' (fun k hk hf => hDJ.out k hf hk))
              have HJ5 := Aside0.mk (apart_left hC.out hDJ.out hF')
              have HB5 := Aside0.mk (hB.out.trans hB')
              clear hS' hK' hF' hB' hA hC hDJ hB hmiss hs1
              generalize M1.set s (tl (wy : Int) (M1.getD s []) t) = M1' at HA5 HN1
              go_wp2_with fail
              refine (touch_on _ _ c2 b2' (wy : Int) vs2 M2 s t HC5.out hs2).mono ?_
              rintro e w6 ⟨vs2', rfl, hS', hK', hF', hB'⟩
              have HC6 := Aside0.mk hS'
              have HA6 := Aside0.mk (HA5.out.kept hK' (fun k hk hf => HJ5.out k hk hf))
              have HJ6 := Aside0.mk (apart_right HA5.out HJ5.out hF')
              have HB6 := Aside0.mk (HB5.out.trans hB')
              clear hS' hK' hF' hB' HA5 HC5 HJ5 HB5 hs2
              generalize M2.set s (tl (wy : Int) (M2.getD s []) t) = M2' at HC6 HN2
              generalize decide (0 ≤ idx (M2.getD s []) t) = q
              go_wp2_with fail
              go_roundw
              case rel => exact ⟨k + 1, vs1', vs2', M1', M2', by omega, by go_num, HA6, HC6, ⟨by rw [← HTN.out]; exact HN1.out⟩, ⟨by rw [← HTN2.out]; exact HN2.out⟩, HJ6, HB6⟩
              case measure => simp [intOf] <;> omega
            · have hkw : k = wy := by omega
              subst hkw
              clear hk hlt
              have HA := hA
              have HC := hC
              have HB := hB
              have HT1 := Aside0.mk (last_lines hL1.out hsn)
              have HT2 := Aside0.mk (last_of hL2.out hsn)
              have HM2 := Aside0.mk (LN_le M2 (fun i hi => by have := hC.out.lens i hi; omega) M2.length (Nat.le_refl _))
              have hm2 := hC.out.small
              have HLN2 : Aside0 ((LN M2 M2.length).length < 4611686018427) := ⟨by have := HM2.out; omega⟩
              clear hA hC hL1 hL2 hDJ hB HM2 hm2
              have w1i : IntKind.i64.wrap ((k : Int) - 1) = (k : Int) - 1 := IntWalk.i64_in _ (by omega)
              go_wp2_with fail
              obtain ⟨w9, hw9⟩ : ∃ w9, w9 = wr := ⟨_, rfl⟩
              rw [← hw9] at HA HC HB ⊢
              clear hw9 w1i
              go_loopw [11, 18] (fun v11 v18 wr => ∃ j : Nat, j ≤ k ∧ v18 = .int .i64 ((k : Int) - 1 - (j : Int)) ∧ Aside0 (Kd.R k39 39 wr w9.heap.size (fun _ => True) v11 (row39 s ((T k).take j))) ∧ Aside0 (Below w9.heap.size w9 wr)) (fun _ v18 _ => (intOf v18 + 1).toNat)
              case atStart => exact ⟨0, by omega, by simp, ⟨Kd.R_nil _ _ _ _ _⟩, ⟨Below.refl _ _⟩⟩
              case round =>
                obtain ⟨j, hj, rfl, hR, hB3⟩ := hrel
                by_cases hjk : j < k
                · obtain ⟨p, hp⟩ : ∃ p : Nat, p = k - 1 - j := ⟨_, rfl⟩
                  have hpj : (k : Int) - 1 - (j : Int) = (p : Int) := by omega
                  have hp8 : p < 8 := by omega
                  have m1 : IntKind.i64.wrap (7 * (p : Int)) = 7 * (p : Int) := IntWalk.i64_in _ (by omega)
                  have m2 : IntKind.i64.wrap (1000 + 7 * (p : Int)) = 1000 + 7 * (p : Int) := IntWalk.i64_in _ (by omega)
                  have m3 : IntKind.u64.wrap (1000 + 7 * (p : Int)) = 1000 + 7 * (p : Int) := by simp [IntKind.wrap, IntKind.signed, IntKind.bits]; omega
                  have m4 : IntKind.i64.wrap ((p : Int) - 1) = (p : Int) - 1 := IntWalk.i64_in _ (by omega)
                  have hrs := row_step s (T k) (j := j) (by rw [T_len]; exact hjk)
                  rw [T_get k j hjk, ← hp] at hrs
                  have HRS := Aside0.mk hrs
                  clear hrs
                  rw [hpj]
                  have HPJ := Aside0.mk hpj
                  have HP := Aside0.mk hp
                  clear hpj hp
                  have hbs : Aside0 (w9.heap.size ≤ wr.heap.size) := ⟨hB3.out.size⟩
                  have hle : Aside0 (((row39 s ((T k).take j)).length + 1) * 16 ≤ 140737488355328) := ⟨by rw [row39, List.length_map, List.length_take]; omega⟩
                  go_wp2_with (first | ((with_reducible refine gate_builtin (b := .append) (xs := #[.tmp 126, .tmp 133]) rfl ?_); at_builtin; refine Kd.R_append k39 (w0 := w9) w9.heap.size rfl (.tmp 126) (.tmp 133) 37 39 (.agg #[.int .i64 0, .int .u64 0]) 16 rfl Try.underlying37 info39 rfl (by decide) (by omega) _ (row39 s ((T k).take j)) (⟨((s : Nat) : Int), 1000 + 7 * (p : Int)⟩ : S39) [.int .i64 ((s : Nat) : Int), .int .u64 (1000 + 7 * (p : Int))] (fun _ => True) (fun _ => False) rfl rfl (k39_mkM _ _ _ (⟨((s : Nat) : Int), 1000 + 7 * (p : Int)⟩ : S39)) (fun _ hk => hk.elim) (fun _ _ => trivial) hR.out hB3.out hbs.out hle.out ?_; intro v' wa ho1 hb1 hg1 hat1; have HO := Aside0.mk ho1; have HBa := Aside0.mk hb1; clear ho1 hb1 hg1 hat1; refine Hold.of ?_))
                  unfold Hold
                  have HO' : Aside0 (Kd.R k39 39 wa w9.heap.size (fun _ => True) v' (row39 s ((T k).take (j + 1)))) := ⟨by rw [HRS.out]; exact HO.out⟩
                  clear HO HRS hR hB3 hbs hle m1 m2 m3
                  go_wp2_with fail
                  go_roundw
                  case rel => exact ⟨j + 1, by omega, by have := HPJ.out; congr 1; omega, HO', HBa⟩
                  case measure => simp [intOf] <;> omega
                · have hje : j = k := by omega
                  subst hje
                  have hR' := hR.out
                  rw [List.take_of_length_le (by rw [T_len]; exact Nat.le_refl _)] at hR'
                  have hneg : ((j : Int) - 1 - (j : Int)) = -1 := by omega
                  rw [hneg]
                  have HAz := Aside0.mk (HA.out.later hB3.out)
                  have HCz := Aside0.mk (HC.out.later hB3.out)
                  have HBz := Aside0.mk (below_step (below_step HB0.out HB.out) hB3.out)
                  obtain ⟨Wn, hWn⟩ : ∃ Wn, Wn = row39 s (T j) := ⟨_, rfl⟩
                  rw [← hWn] at hR' HT1 HT2
                  have hWl : Wn.length < 4611686018427387904 := by rw [hWn, row39, List.length_map, T_len]; omega
                  clear hWn hR hB3 HA HC HB hneg hj hjk
                  obtain ⟨A8, c8, rfl, hc8, hC8⟩ := Kd.R_reads hR'
                  have HC8 := Aside0.mk hC8
                  clear hR' hC8
                  go_wp2_with fail
                  refine (lines_any _ _ c b (j : Int) vs1 M1 HAz.out).mono ?_
                  rintro e wa ⟨v1, rfl, hR1, hb⟩
                  rw [HT1.out] at hR1
                  obtain ⟨A9, c9, rfl, hc9, hC9⟩ := Kd.R_reads hR1
                  have HC9 := Aside0.mk hC9
                  have HC8a := Aside0.mk (Kd.C_below HC8.out hb)
                  have HCa := Aside0.mk (HCz.out.later hb)
                  have HBa := Aside0.mk (below_step HBz.out hb)
                  clear hR1 hC9 hb HC8 HCz HBz HAz
                  have hsm := same_is Wn hWl
                  have HSM := Aside0.mk hsm
                  clear hsm
                  go_wp2_with fail
                  refine (cofferdamref03_Same.calls _ A9 c9 Wn A8 c8 Wn true _ HC9.out hc9 HC8a.out hc8 HSM.out).mono ?_
                  rintro e wb ⟨rfl, hd⟩
                  have HC8b := Aside0.mk (Kd.C_below HC8a.out hd.below)
                  have HCb := Aside0.mk (HCa.out.later hd.below)
                  have HBb := Aside0.mk (below_step HBa.out hd.below)
                  clear hd HC8a HCa HBa HC9
                  go_wp2_with fail
                  refine (lines_any _ _ c2 b2' (j : Int) vs2 M2 HCb.out).mono ?_
                  rintro e wc ⟨v1, rfl, hR1, hb⟩
                  have HLO := Aside0.mk (of_is (LN M2 M2.length) ((s : Nat) : Int) HLN2.out)
                  rw [HT2.out] at HLO
                  generalize LN M2 M2.length = LL at hR1 HLO HLN2
                  obtain ⟨A9, c9, rfl, hc9, hC9⟩ := Kd.R_reads hR1
                  have HC9 := Aside0.mk hC9
                  have HC8c := Aside0.mk (Kd.C_below HC8b.out hb)
                  have HBc := Aside0.mk (below_step HBb.out hb)
                  clear hR1 hC9 hb HC8b HCb HBb
                  go_wp2_with fail
                  refine (cofferdamlaw03_of.calls _ A9 c9 LL ((s : Nat) : Int) Wn _ HC9.out hc9 HLO.out).mono ?_
                  rintro e wd ⟨v2, rfl, hR2, hb⟩
                  obtain ⟨A7, c7, rfl, hc7, hC7⟩ := Kd.R_reads hR2
                  have HC7 := Aside0.mk hC7
                  have HC8d := Aside0.mk (Kd.C_below HC8c.out hb)
                  have HBd := Aside0.mk (below_step HBc.out hb)
                  clear hR2 hC7 hb HC8c HC9 HBc
                  go_wp2_with fail
                  refine (cofferdamref03_Same.calls _ A7 c7 Wn A8 c8 Wn true _ HC7.out hc7 HC8d.out hc8 HSM.out).mono ?_
                  rintro e we ⟨rfl, hd⟩
                  have HBe := Aside0.mk (below_step HBd.out hd.below)
                  clear hd
                  go_wp2_with fail
                  go_ret
                  exact ⟨rfl, HBe.out⟩
end Go.Proofs.Ytcneepffhplpiaa.H
