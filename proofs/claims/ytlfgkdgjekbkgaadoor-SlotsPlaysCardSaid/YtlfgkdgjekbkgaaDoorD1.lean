/- The law SlotsPlays by its contracts. -/
import Derived.Test.YtlfgkdgjekbkgaaDoorC7
namespace Go.Proofs.YtlfgkdgjekbkgaaDoor.H
open Go.RowKit Go.Proofs.YtlfgkdgjekbkgaaDoorW.PrintWords Go.Proofs.YtlfgkdgjekbkgaaDoorW.PrintLast Go.Proofs.YtlfgkdgjekbkgaaDoorW.PrintMore
set_option linter.unusedVariables false
set_option linter.unusedSimpArgs false
set_option maxHeartbeats 8000000
set_option maxRecDepth 100000
def DoRow (w : World) (A : Option Addr) (len : Nat) : Prop := ∀ i, i < len → ∃ (ad : Addr) (x0 : Bool) (x1 : Int), A = some ad ∧ w.cell? (ad.add (i * 2 + 0)) = some (.bool x0) ∧ w.cell? (ad.add (i * 2 + 1)) = some (.int .i64 x1)
theorem DoRow.later {w w' : World} {A : Option Addr} {len : Nat} (h : DoRow w A len) (hb : Below w.heap.size w w') : DoRow w' A len := fun i hi => by
  obtain ⟨ad, x0, x1, e, h0, h1⟩ := h i hi
  exact ⟨ad, x0, x1, e, pw_cell_below hb h0, pw_cell_below hb h1⟩
theorem two_start {w0 w : World} {base : Nat} {vp vq : Value} {S S2 : Option (List Bool)} (h : Two w base vp vq S S2) (hs : usL S2 = usL S) : (usL S2).length ≤ 1024 := by rw [hs]; exact usL_small h
/-- What stays behind a look at both areas. -/
theorem own_mine {w w' : World} {b n : Nat} {v : Value} {xs : List Value} (h : w.ownsRow b 3 1 v n xs) (hb : Below w.heap.size w w') : w'.ownsRow b 3 1 v n xs := pw_own_below h hb
theorem plays_c (a0 a1 : Int) (A : Option Addr) (len cap : Nat) (w : World) (hTb : Tb w) (hS : DoRow w A len) :
    Calls Tryd.prog 3 #[.int .i64 a0, .int .i64 a1, .slice A len cap] w fun e w' => e = .returned (.bool true) ∧ Below w.heap.size w w' := by
  have HRow := Aside0.mk hS
  have HTB := Aside0.mk hTb
  clear hS hTb
  by_cases hok : 0 ≤ a0 ∧ a0 ≤ 1024
  · obtain ⟨n, rfl⟩ := Int.eq_ofNat_of_zero_le hok.1
    have hn : n ≤ 1024 := by omega
    clear hok
    go_enter Tryd.func3, Tryd.ntmps3
    go_wp2_with fail
    refine (new_ok n _ hn HTB.out).mono ?_
    rintro e w1 ⟨c, b, rfl, hS, hB⟩
    have HS := Aside0.mk hS
    have HB := Aside0.mk hB
    clear hS hB
    go_wp2_with fail
    refine (rnew_ok n _ hn).mono ?_
    rintro e w2 ⟨c2, b2, rfl, hR, hB⟩
    have HH : Aside0 (Two w2 w.heap.size (.pointer (some ⟨c, 0, none⟩)) (.pointer (some ⟨c2, 0, none⟩)) (some (List.replicate n false)) (some (List.replicate n false))) := ⟨⟨c, b, rfl, HS.out.later hB⟩, ⟨c2, b2, rfl, hR.low HB.out.size⟩, Nat.le_trans HB.out.size hB.size⟩
    have HB2 := Aside0.mk (below_step HB.out hB)
    clear hR hB HS HB
    generalize some (List.replicate n false) = S0 at HH
    go_wp2_with fail
    go_loopw [11] (fun v11 wr => ∃ (i : Nat) (S : Option (List Bool)), i ≤ 1030 ∧ v11 = .int .i64 i ∧ Aside0 (Two wr w.heap.size (.pointer (some ⟨c, 0, none⟩)) (.pointer (some ⟨c2, 0, none⟩)) S S) ∧ Aside0 (Below w.heap.size w wr)) (fun v11 _ => 1030 - (intOf v11).toNat)
    case atStart => exact ⟨0, S0, by omega, rfl, HH, HB2⟩
    case round =>
      clear HH HB2
      obtain ⟨i, S, hi, rfl, hH, hB⟩ := hrel
      by_cases hlt : (i : Int) < a1 ∧ i < 1030
      · obtain ⟨h1, h2⟩ := hlt
        go_wp2_with fail
        refine (p_take _ _ _ _ _ _ hH.out).mono ?_
        rintro e w3 ⟨rfl, hH3, hb3⟩
        have HH3 := Aside0.mk hH3
        have HB3 := Aside0.mk (hB.out.trans hb3)
        clear hH3 hb3 hH hB
        go_wp2_with fail
        refine (q_take _ _ _ _ _ _ HH3.out).mono ?_
        rintro e w4 ⟨rfl, hH4, hb4⟩
        have HH4 := Aside0.mk hH4
        have HB4 := Aside0.mk (HB3.out.trans hb4)
        clear hH4 hb4 HH3 HB3
        generalize tkA S = ra
        generalize tkB S = rb
        go_wp2_with fail
        go_roundw
        case rel => exact ⟨i + 1, tkS S, by omega, by go_num, HH4, HB4⟩
        case measure => simp [intOf]; omega
      · have hx : a1 ≤ (i : Int) ∨ ((i : Int) < a1 ∧ 1030 ≤ i) := by omega
        clear hlt
        rcases hx with hx | ⟨hx, hx2⟩
        · go_wp2_with fail
          go_loopw [16] (fun v16 wr => ∃ (i : Nat) (S : Option (List Bool)), i ≤ 200 ∧ v16 = .int .i64 i ∧ Aside0 (Two wr w.heap.size (.pointer (some ⟨c, 0, none⟩)) (.pointer (some ⟨c2, 0, none⟩)) S S) ∧ Aside0 (Below w.heap.size w wr)) (fun v16 _ => 200 - (intOf v16).toNat)
          case atStart => exact ⟨0, S, by omega, rfl, hH, hB⟩
          case round =>
            clear hH hB
            obtain ⟨i, S, hi, rfl, hH, hB⟩ := hrel
            by_cases hlt2 : i < len ∧ i < 200
            · obtain ⟨h1, h2⟩ := hlt2
              obtain ⟨ad, x0, x1, rfl, q0, q1⟩ := HRow.out i h1
              rw [Nat.add_zero] at q0
              rw [add_field ad (i * 2) 1 (by decide)] at q1
              have Q1 := Aside0.mk q1
              replace q0 := pw_cell_below hB.out q0
              replace q1 := pw_cell_below hB.out q1
              cases x0
              · go_wp2_with fail
                refine (p_take _ _ _ _ _ _ hH.out).mono ?_
                rintro e w3 ⟨rfl, hH3, hb3⟩
                have HH3 := Aside0.mk hH3
                have HB3 := Aside0.mk (hB.out.trans hb3)
                clear hH3 hb3 hH hB q0 q1
                go_wp2_with fail
                refine (q_take _ _ _ _ _ _ HH3.out).mono ?_
                rintro e w4 ⟨rfl, hH4, hb4⟩
                have HT := Aside0.mk hH4
                have HB := Aside0.mk (HB3.out.trans hb4)
                clear hH4 hb4 HH3 HB3
                generalize tkA S = ra
                generalize tkB S = rb
                generalize tkS S = S' at HT
                clear S
                rename Option (List Bool) => S
                go_wp2_with fail
                refine (p_used _ _ _ _ _ _ HT.out).mono ?_
                rintro e wx ⟨vx, rfl, hox, hbx⟩
                have HBX := Aside0.mk hbx
                have HTX := Aside0.mk (HT.out.later hbx)
                have HOX := Aside0.mk hox
                clear hbx hox
                go_wp2_with fail
                refine (p_used _ _ _ _ _ _ HTX.out).mono ?_
                rintro e wy ⟨vy, rfl, hoy, hby⟩
                have HOY := Aside0.mk hoy
                have HOX2 := Aside0.mk (own_mine HOX.out hby)
                have HXB : Aside0 (∀ g, vx.ownBlock = some g → w4.heap.size ≤ g ∧ g < wx.heap.size) := ⟨fun g hg => ⟨own_base HOX.out g hg, own_lt HOX.out g hg⟩⟩
                have HBY := Aside0.mk (HBX.out.trans (hby.mono HBX.out.size))
                have HTY := Aside0.mk (HTX.out.later hby)
                clear hoy hby HBX HTX HOX
                go_wp2_with fail
                refine (p_free _ _ _ _ _ _ HTY.out).mono ?_
                rintro e w5 ⟨rfl, hb5⟩
                have HOX3 := Aside0.mk (own_mine HOX2.out hb5)
                have HOY3 := Aside0.mk (own_mine HOY.out hb5)
                have HB5 := Aside0.mk (HBY.out.trans (hb5.mono HBY.out.size))
                have HT5 := Aside0.mk (HTY.out.later hb5)
                clear hb5 HOX2 HOY HBY HTY
                go_wp2_with fail
                refine (q_free _ _ _ _ _ _ HT5.out).mono ?_
                rintro e w6 ⟨rfl, hb6⟩
                have HOX4 := Aside0.mk (own_mine HOX3.out hb6)
                have HOY4 := Aside0.mk (own_mine HOY3.out hb6)
                have HB6 := Aside0.mk (HB5.out.trans (hb6.mono HB5.out.size))
                have HT6 := Aside0.mk (HT5.out.later hb6)
                clear hb6 HOX3 HOY3 HB5 HT5
                go_wp2_with fail
                refine (q_used _ _ _ _ _ _ HT6.out).mono ?_
                rintro e w7 ⟨vr, rfl, hor, hb7⟩
                have HOX5 := Aside0.mk (own_mine HOX4.out hb7)
                have HOY5 := Aside0.mk (own_mine HOY4.out hb7)
                have HOR := Aside0.mk hor
                have HB7 := Aside0.mk (HB6.out.trans (hb7.mono HB6.out.size))
                clear hb7 hor HOX4 HOY4 HB6 HT6
                go_wp2_with fail
                refine (eq_any _ _ _ _ _ _ (Nat.lt_of_le_of_lt (usL_small HT.out) (by decide)) HOX5.out HOR.out).mono ?_
                rintro e w8 ⟨rfl, hd⟩
                have HOX6 := Aside0.mk (own_mine HOX5.out hd.below)
                have HOY6 := Aside0.mk (own_mine HOY5.out hd.below)
                have HB8 := Aside0.mk (HB7.out.trans (hd.below.mono HB7.out.size))
                clear hd HOX5 HOY5 HB7 HOR
                obtain ⟨Ax, cx, hvx⟩ := own_slice HOX6.out
                subst hvx
                have hsm := usL_small HT.out
                have HSM := Aside0.mk hsm
                obtain ⟨L, hL0⟩ : ∃ L, L = usL S := ⟨_, rfl⟩
                have HLE := Aside0.mk hL0
                rw [← hL0] at HOX6 HOY6 hsm ⊢
                clear hL0
                obtain ⟨nl, hnl⟩ : ∃ nl, nl = L.length := ⟨_, rfl⟩
                rw [← hnl] at HOX6 hsm ⊢
                have HXL : Aside0 (∃ l : List Int, w8.ownsRow w4.heap.size 3 1 (.slice Ax nl cx) nl (nums .i64 l)) := ⟨⟨L, HOX6.out⟩⟩
                clear hnl HOX6
                go_wp2_with fail
                go_loopw [23] (fun v23 wr => ∃ k : Nat, k ≤ nl ∧ v23 = .int .i64 k ∧ Aside0 (∃ l : List Int, wr.ownsRow w4.heap.size 3 1 (.slice Ax nl cx) nl (nums .i64 l)) ∧ Aside0 (wr.ownsRow wx.heap.size 3 1 vy L.length (nums .i64 L)) ∧ Aside0 (Below w4.heap.size w4 wr)) (fun v23 _ => nl - (intOf v23).toNat)
                case atStart => exact ⟨0, by omega, rfl, HXL, HOY6, HB8⟩
                case round =>
                  clear HXL HOY6 HB8
                  obtain ⟨k, hk, rfl, hX, hY, hB8⟩ := hrel
                  by_cases hkl : k < nl
                  · obtain ⟨l, ho⟩ := hX.out
                    obtain ⟨g, cap', hfe, hgb, hgl⟩ := ho.form (by omega)
                    injection hfe with hfe1 _ hfe3
                    subst hfe1 hfe3
                    obtain ⟨hc, hf⟩ := own_at ho (k : Int) (by omega) (by omega)
                    rw [Int.toNat_natCast] at hc hf
                    have hput := (own_store ho (k : Int) (-1)).1
                    rw [Int.toNat_natCast] at hput
                    have HX2 : Aside0 (∃ l : List Int, (wr.setCell ⟨g, k, none⟩ (.int .i64 (-1))).ownsRow w4.heap.size 3 1 (.slice (some ⟨g, 0, none⟩) nl cx) nl (nums .i64 l)) := ⟨⟨_, hput⟩⟩
                    have hgx := HXB.out g rfl
                    have HY2 : Aside0 ((wr.setCell ⟨g, k, none⟩ (.int .i64 (-1))).ownsRow wx.heap.size 3 1 vy L.length (nums .i64 L)) := ⟨own_setCell hY.out (fun e => by have := own_base hY.out g e.symm; omega) _⟩
                    have HB9 : Aside0 (Below w4.heap.size w4 (wr.setCell ⟨g, k, none⟩ (.int .i64 (-1)))) := ⟨hB8.out.setCell hgx.1 _⟩
                    generalize rd l (k : Int) = z at hc
                    clear ho hput hX hY hB8 hgx
                    go_wp2_with fail
                    go_roundw
                    case rel => exact ⟨k + 1, by omega, by go_num, HX2, HY2, HB9⟩
                    case measure => simp [intOf]; omega
                  · have HT9 := Aside0.mk (HT.out.later hB8.out)
                    have HY9 : Aside0 (wr.ownsRow wx.heap.size 3 1 vy (usL S).length (nums .i64 (usL S))) := ⟨by rw [← HLE.out]; exact hY.out⟩
                    have hk1 : (k : Int) = (nl : Int) := by omega
                    clear hX hY
                    go_wp2_with fail
                    refine (q_used _ _ _ _ _ _ HT9.out).mono ?_
                    rintro e wq ⟨vq2, rfl, hoq, hbq⟩
                    have HOY9 := Aside0.mk (own_mine HY9.out hbq)
                    have HOQ := Aside0.mk hoq
                    have HBq := Aside0.mk (hB8.out.trans (hbq.mono hB8.out.size))
                    clear hbq hoq HT9 hB8
                    go_wp2_with fail
                    refine (eq_any _ _ _ _ _ _ (Nat.lt_of_le_of_lt HSM.out (by decide)) HOY9.out HOQ.out).mono ?_
                    rintro e wz ⟨rfl, hd⟩
                    have HBZ := Aside0.mk (HBq.out.trans (hd.below.mono HBq.out.size))
                    have HTZ := Aside0.mk (HT.out.later HBZ.out)
                    have HBB := Aside0.mk (below_base HB.out HBZ.out (Nat.le_refl _))
                    clear hd HOY9 HOQ HBq HBZ
                    go_wp2_with fail
                    go_roundw
                    case rel => exact ⟨i + 1, S, by omega, by go_num, HTZ, HBB⟩
                    case measure => simp [intOf]; omega
              · go_wp2_with fail
                go_region_with (first
                  | (go_at_call 10; first
                      | (refine (p_give _ w.heap.size (.pointer (some ⟨c, 0, none⟩)) (.pointer (some ⟨c2, 0, none⟩)) S S x1 (by first | exact hH.out | exact hH.out.drew)).mono ?_; rintro e w' ⟨rfl, hT, hb⟩; have HG := Aside0.mk hT; have HBG : Aside0 (Below w.heap.size w w') := ⟨by first | exact hB.out.trans hb | exact (below_drew hB.out).trans hb⟩; have q1 := pw_cell_below HBG.out Q1.out; clear hT hb)
                      | (refine (p_give _ w.heap.size (.pointer (some ⟨c, 0, none⟩)) (.pointer (some ⟨c2, 0, none⟩)) S (gvS x1 S) x1 (by first | exact HG.out | exact HG.out.drew)).mono ?_; rintro e w' ⟨rfl, hT, hb⟩; have HG2 := Aside0.mk hT; have HBG2 : Aside0 (Below w.heap.size w w') := ⟨by first | exact HBG.out.trans hb | exact (below_drew HBG.out).trans hb⟩; clear hT hb))
                  | (go_at_call 11; first
                      | (refine (q_give _ w.heap.size (.pointer (some ⟨c, 0, none⟩)) (.pointer (some ⟨c2, 0, none⟩)) S S x1 (by first | exact hH.out | exact hH.out.drew)).mono ?_; rintro e w' ⟨rfl, hT, hb⟩; have HG := Aside0.mk hT; have HBG : Aside0 (Below w.heap.size w w') := ⟨by first | exact hB.out.trans hb | exact (below_drew hB.out).trans hb⟩; have q1 := pw_cell_below HBG.out Q1.out; clear hT hb)
                      | (refine (q_give _ w.heap.size (.pointer (some ⟨c, 0, none⟩)) (.pointer (some ⟨c2, 0, none⟩)) (gvS x1 S) S x1 (by first | exact HG.out | exact HG.out.drew)).mono ?_; rintro e w' ⟨rfl, hT, hb⟩; have HG2 := Aside0.mk hT; have HBG2 : Aside0 (Below w.heap.size w w') := ⟨by first | exact HBG.out.trans hb | exact (below_drew HBG.out).trans hb⟩; clear hT hb)))
                all_goals
                  have HT := HG2
                  have HB := HBG2
                  clear HG HBG HG2 HBG2 hH hB Q1 q0 q1
                  generalize gvB x1 S = ra
                  generalize gvS x1 S = S' at HT
                  clear S
                  rename Option (List Bool) => S
                  go_wp2_with fail
                  refine (p_used _ _ _ _ _ _ HT.out).mono ?_
                  rintro e wx ⟨vx, rfl, hox, hbx⟩
                  have HBX := Aside0.mk hbx
                  have HTX := Aside0.mk (HT.out.later hbx)
                  have HOX := Aside0.mk hox
                  clear hbx hox
                  go_wp2_with fail
                  refine (p_used _ _ _ _ _ _ HTX.out).mono ?_
                  rintro e wy ⟨vy, rfl, hoy, hby⟩
                  have HOY := Aside0.mk hoy
                  have HOX2 := Aside0.mk (own_mine HOX.out hby)
                  have HXB : Aside0 (∀ g, vx.ownBlock = some g → w'.heap.size ≤ g ∧ g < wx.heap.size) := ⟨fun g hg => ⟨own_base HOX.out g hg, own_lt HOX.out g hg⟩⟩
                  have HBY := Aside0.mk (HBX.out.trans (hby.mono HBX.out.size))
                  have HTY := Aside0.mk (HTX.out.later hby)
                  clear hoy hby HBX HTX HOX
                  go_wp2_with fail
                  refine (p_free _ _ _ _ _ _ HTY.out).mono ?_
                  rintro e w5 ⟨rfl, hb5⟩
                  have HOX3 := Aside0.mk (own_mine HOX2.out hb5)
                  have HOY3 := Aside0.mk (own_mine HOY.out hb5)
                  have HB5 := Aside0.mk (HBY.out.trans (hb5.mono HBY.out.size))
                  have HT5 := Aside0.mk (HTY.out.later hb5)
                  clear hb5 HOX2 HOY HBY HTY
                  go_wp2_with fail
                  refine (q_free _ _ _ _ _ _ HT5.out).mono ?_
                  rintro e w6 ⟨rfl, hb6⟩
                  have HOX4 := Aside0.mk (own_mine HOX3.out hb6)
                  have HOY4 := Aside0.mk (own_mine HOY3.out hb6)
                  have HB6 := Aside0.mk (HB5.out.trans (hb6.mono HB5.out.size))
                  have HT6 := Aside0.mk (HT5.out.later hb6)
                  clear hb6 HOX3 HOY3 HB5 HT5
                  go_wp2_with fail
                  refine (q_used _ _ _ _ _ _ HT6.out).mono ?_
                  rintro e w7 ⟨vr, rfl, hor, hb7⟩
                  have HOX5 := Aside0.mk (own_mine HOX4.out hb7)
                  have HOY5 := Aside0.mk (own_mine HOY4.out hb7)
                  have HOR := Aside0.mk hor
                  have HB7 := Aside0.mk (HB6.out.trans (hb7.mono HB6.out.size))
                  clear hb7 hor HOX4 HOY4 HB6 HT6
                  go_wp2_with fail
                  refine (eq_any _ _ _ _ _ _ (Nat.lt_of_le_of_lt (usL_small HT.out) (by decide)) HOX5.out HOR.out).mono ?_
                  rintro e w8 ⟨rfl, hd⟩
                  have HOX6 := Aside0.mk (own_mine HOX5.out hd.below)
                  have HOY6 := Aside0.mk (own_mine HOY5.out hd.below)
                  have HB8 := Aside0.mk (HB7.out.trans (hd.below.mono HB7.out.size))
                  clear hd HOX5 HOY5 HB7 HOR
                  obtain ⟨Ax, cx, hvx⟩ := own_slice HOX6.out
                  subst hvx
                  have hsm := usL_small HT.out
                  have HSM := Aside0.mk hsm
                  obtain ⟨L, hL0⟩ : ∃ L, L = usL S := ⟨_, rfl⟩
                  have HLE := Aside0.mk hL0
                  rw [← hL0] at HOX6 HOY6 hsm ⊢
                  clear hL0
                  obtain ⟨nl, hnl⟩ : ∃ nl, nl = L.length := ⟨_, rfl⟩
                  rw [← hnl] at HOX6 hsm ⊢
                  have HXL : Aside0 (∃ l : List Int, w8.ownsRow w'.heap.size 3 1 (.slice Ax nl cx) nl (nums .i64 l)) := ⟨⟨L, HOX6.out⟩⟩
                  clear hnl HOX6
                  go_wp2_with fail
                  go_loopw [23] (fun v23 wr => ∃ k : Nat, k ≤ nl ∧ v23 = .int .i64 k ∧ Aside0 (∃ l : List Int, wr.ownsRow w'.heap.size 3 1 (.slice Ax nl cx) nl (nums .i64 l)) ∧ Aside0 (wr.ownsRow wx.heap.size 3 1 vy L.length (nums .i64 L)) ∧ Aside0 (Below w'.heap.size w' wr)) (fun v23 _ => nl - (intOf v23).toNat)
                  case atStart => exact ⟨0, by omega, rfl, HXL, HOY6, HB8⟩
                  case round =>
                    clear HXL HOY6 HB8
                    obtain ⟨k, hk, rfl, hX, hY, hB8⟩ := hrel
                    by_cases hkl : k < nl
                    · obtain ⟨l, ho⟩ := hX.out
                      obtain ⟨g, cap', hfe, hgb, hgl⟩ := ho.form (by omega)
                      injection hfe with hfe1 _ hfe3
                      subst hfe1 hfe3
                      obtain ⟨hc, hf⟩ := own_at ho (k : Int) (by omega) (by omega)
                      rw [Int.toNat_natCast] at hc hf
                      have hput := (own_store ho (k : Int) (-1)).1
                      rw [Int.toNat_natCast] at hput
                      have HX2 : Aside0 (∃ l : List Int, (wr.setCell ⟨g, k, none⟩ (.int .i64 (-1))).ownsRow w'.heap.size 3 1 (.slice (some ⟨g, 0, none⟩) nl cx) nl (nums .i64 l)) := ⟨⟨_, hput⟩⟩
                      have hgx := HXB.out g rfl
                      have HY2 : Aside0 ((wr.setCell ⟨g, k, none⟩ (.int .i64 (-1))).ownsRow wx.heap.size 3 1 vy L.length (nums .i64 L)) := ⟨own_setCell hY.out (fun e => by have := own_base hY.out g e.symm; omega) _⟩
                      have HB9 : Aside0 (Below w'.heap.size w' (wr.setCell ⟨g, k, none⟩ (.int .i64 (-1)))) := ⟨hB8.out.setCell hgx.1 _⟩
                      generalize rd l (k : Int) = z at hc
                      clear ho hput hX hY hB8 hgx
                      go_wp2_with fail
                      go_roundw
                      case rel => exact ⟨k + 1, by omega, by go_num, HX2, HY2, HB9⟩
                      case measure => simp [intOf]; omega
                    · have HT9 := Aside0.mk (HT.out.later hB8.out)
                      have HY9 : Aside0 (wr.ownsRow wx.heap.size 3 1 vy (usL S).length (nums .i64 (usL S))) := ⟨by rw [← HLE.out]; exact hY.out⟩
                      have hk1 : (k : Int) = (nl : Int) := by omega
                      clear hX hY
                      go_wp2_with fail
                      refine (q_used _ _ _ _ _ _ HT9.out).mono ?_
                      rintro e wq ⟨vq2, rfl, hoq, hbq⟩
                      have HOY9 := Aside0.mk (own_mine HY9.out hbq)
                      have HOQ := Aside0.mk hoq
                      have HBq := Aside0.mk (hB8.out.trans (hbq.mono hB8.out.size))
                      clear hbq hoq HT9 hB8
                      go_wp2_with fail
                      refine (eq_any _ _ _ _ _ _ (Nat.lt_of_le_of_lt HSM.out (by decide)) HOY9.out HOQ.out).mono ?_
                      rintro e wz ⟨rfl, hd⟩
                      have HBZ := Aside0.mk (HBq.out.trans (hd.below.mono HBq.out.size))
                      have HTZ := Aside0.mk (HT.out.later HBZ.out)
                      have HBB := Aside0.mk (below_base HB.out HBZ.out (Nat.le_refl _))
                      clear hd HOY9 HOQ HBq HBZ
                      go_wp2_with fail
                      go_roundw
                      case rel => exact ⟨i + 1, S, by omega, by go_num, HTZ, HBB⟩
                      case measure => simp [intOf]; omega
            · have hx2 : ¬ i < len ∨ (i < len ∧ ¬ i < 200) := by omega
              clear hlt2
              rcases hx2 with hx2 | ⟨hx2, hx3⟩
              · go_wp2_with fail
                refine (p_free _ _ _ _ _ _ hH.out).mono ?_
                rintro e w5 ⟨rfl, hb5⟩
                have HB5 := Aside0.mk (below_base hB.out hb5 (Nat.le_refl _))
                have HT5 := Aside0.mk (hH.out.later hb5)
                clear hb5 hB
                go_wp2_with fail
                refine (q_free _ _ _ _ _ _ HT5.out).mono ?_
                rintro e w6 ⟨rfl, hb6⟩
                have HB6 := Aside0.mk (below_base HB5.out hb6 (Nat.le_refl _))
                have HT6 := Aside0.mk (HT5.out.later hb6)
                clear hb6 HB5 HT5
                go_wp2_with fail
                refine (p_used _ _ _ _ _ _ HT6.out).mono ?_
                rintro e wx ⟨vx, rfl, hox, hbx⟩
                have HBX := Aside0.mk (below_base HB6.out hbx (Nat.le_refl _))
                have HTX := Aside0.mk (HT6.out.later hbx)
                have HOX := Aside0.mk hox
                clear hbx hox HB6 HT6
                go_wp2_with fail
                refine (q_used _ _ _ _ _ _ HTX.out).mono ?_
                rintro e wy ⟨vy, rfl, hoy, hby⟩
                have HOY := Aside0.mk hoy
                have HOX2 := Aside0.mk (own_mine HOX.out hby)
                have HBY := Aside0.mk (below_base HBX.out hby (Nat.le_refl _))
                clear hoy hby HBX HTX HOX
                go_wp2_with fail
                refine (eq_any _ _ _ _ _ _ (Nat.lt_of_le_of_lt (usL_small hH.out) (by decide)) HOX2.out HOY.out).mono ?_
                rintro e wz ⟨rfl, hd⟩
                have HBZ := Aside0.mk (below_base HBY.out hd.below (Nat.le_refl _))
                clear hd HOX2 HOY HBY
                go_wp2_with fail
                refine (works_yes _ (HTB.out.later HBZ.out)).mono ?_
                rintro e wk ⟨rfl, hbk⟩
                have HBK := Aside0.mk (below_base HBZ.out hbk (Nat.le_refl _))
                clear hbk HBZ
                go_wp2_with fail
                go_ret
                exact ⟨rfl, HBK.out⟩
              · go_wp2_with fail
                refine (p_free _ _ _ _ _ _ hH.out).mono ?_
                rintro e w5 ⟨rfl, hb5⟩
                have HB5 := Aside0.mk (below_base hB.out hb5 (Nat.le_refl _))
                have HT5 := Aside0.mk (hH.out.later hb5)
                clear hb5 hB
                go_wp2_with fail
                refine (q_free _ _ _ _ _ _ HT5.out).mono ?_
                rintro e w6 ⟨rfl, hb6⟩
                have HB6 := Aside0.mk (below_base HB5.out hb6 (Nat.le_refl _))
                have HT6 := Aside0.mk (HT5.out.later hb6)
                clear hb6 HB5 HT5
                go_wp2_with fail
                refine (p_used _ _ _ _ _ _ HT6.out).mono ?_
                rintro e wx ⟨vx, rfl, hox, hbx⟩
                have HBX := Aside0.mk (below_base HB6.out hbx (Nat.le_refl _))
                have HTX := Aside0.mk (HT6.out.later hbx)
                have HOX := Aside0.mk hox
                clear hbx hox HB6 HT6
                go_wp2_with fail
                refine (q_used _ _ _ _ _ _ HTX.out).mono ?_
                rintro e wy ⟨vy, rfl, hoy, hby⟩
                have HOY := Aside0.mk hoy
                have HOX2 := Aside0.mk (own_mine HOX.out hby)
                have HBY := Aside0.mk (below_base HBX.out hby (Nat.le_refl _))
                clear hoy hby HBX HTX HOX
                go_wp2_with fail
                refine (eq_any _ _ _ _ _ _ (Nat.lt_of_le_of_lt (usL_small hH.out) (by decide)) HOX2.out HOY.out).mono ?_
                rintro e wz ⟨rfl, hd⟩
                have HBZ := Aside0.mk (below_base HBY.out hd.below (Nat.le_refl _))
                clear hd HOX2 HOY HBY
                go_wp2_with fail
                refine (works_yes _ (HTB.out.later HBZ.out)).mono ?_
                rintro e wk ⟨rfl, hbk⟩
                have HBK := Aside0.mk (below_base HBZ.out hbk (Nat.le_refl _))
                clear hbk HBZ
                go_wp2_with fail
                go_ret
                exact ⟨rfl, HBK.out⟩
        · go_wp2_with fail
          go_loopw [16] (fun v16 wr => ∃ (i : Nat) (S : Option (List Bool)), i ≤ 200 ∧ v16 = .int .i64 i ∧ Aside0 (Two wr w.heap.size (.pointer (some ⟨c, 0, none⟩)) (.pointer (some ⟨c2, 0, none⟩)) S S) ∧ Aside0 (Below w.heap.size w wr)) (fun v16 _ => 200 - (intOf v16).toNat)
          case atStart => exact ⟨0, S, by omega, rfl, hH, hB⟩
          case round =>
            clear hH hB
            obtain ⟨i, S, hi, rfl, hH, hB⟩ := hrel
            by_cases hlt2 : i < len ∧ i < 200
            · obtain ⟨h1, h2⟩ := hlt2
              obtain ⟨ad, x0, x1, rfl, q0, q1⟩ := HRow.out i h1
              rw [Nat.add_zero] at q0
              rw [add_field ad (i * 2) 1 (by decide)] at q1
              have Q1 := Aside0.mk q1
              replace q0 := pw_cell_below hB.out q0
              replace q1 := pw_cell_below hB.out q1
              cases x0
              · go_wp2_with fail
                refine (p_take _ _ _ _ _ _ hH.out).mono ?_
                rintro e w3 ⟨rfl, hH3, hb3⟩
                have HH3 := Aside0.mk hH3
                have HB3 := Aside0.mk (hB.out.trans hb3)
                clear hH3 hb3 hH hB q0 q1
                go_wp2_with fail
                refine (q_take _ _ _ _ _ _ HH3.out).mono ?_
                rintro e w4 ⟨rfl, hH4, hb4⟩
                have HT := Aside0.mk hH4
                have HB := Aside0.mk (HB3.out.trans hb4)
                clear hH4 hb4 HH3 HB3
                generalize tkA S = ra
                generalize tkB S = rb
                generalize tkS S = S' at HT
                clear S
                rename Option (List Bool) => S
                go_wp2_with fail
                refine (p_used _ _ _ _ _ _ HT.out).mono ?_
                rintro e wx ⟨vx, rfl, hox, hbx⟩
                have HBX := Aside0.mk hbx
                have HTX := Aside0.mk (HT.out.later hbx)
                have HOX := Aside0.mk hox
                clear hbx hox
                go_wp2_with fail
                refine (p_used _ _ _ _ _ _ HTX.out).mono ?_
                rintro e wy ⟨vy, rfl, hoy, hby⟩
                have HOY := Aside0.mk hoy
                have HOX2 := Aside0.mk (own_mine HOX.out hby)
                have HXB : Aside0 (∀ g, vx.ownBlock = some g → w4.heap.size ≤ g ∧ g < wx.heap.size) := ⟨fun g hg => ⟨own_base HOX.out g hg, own_lt HOX.out g hg⟩⟩
                have HBY := Aside0.mk (HBX.out.trans (hby.mono HBX.out.size))
                have HTY := Aside0.mk (HTX.out.later hby)
                clear hoy hby HBX HTX HOX
                go_wp2_with fail
                refine (p_free _ _ _ _ _ _ HTY.out).mono ?_
                rintro e w5 ⟨rfl, hb5⟩
                have HOX3 := Aside0.mk (own_mine HOX2.out hb5)
                have HOY3 := Aside0.mk (own_mine HOY.out hb5)
                have HB5 := Aside0.mk (HBY.out.trans (hb5.mono HBY.out.size))
                have HT5 := Aside0.mk (HTY.out.later hb5)
                clear hb5 HOX2 HOY HBY HTY
                go_wp2_with fail
                refine (q_free _ _ _ _ _ _ HT5.out).mono ?_
                rintro e w6 ⟨rfl, hb6⟩
                have HOX4 := Aside0.mk (own_mine HOX3.out hb6)
                have HOY4 := Aside0.mk (own_mine HOY3.out hb6)
                have HB6 := Aside0.mk (HB5.out.trans (hb6.mono HB5.out.size))
                have HT6 := Aside0.mk (HT5.out.later hb6)
                clear hb6 HOX3 HOY3 HB5 HT5
                go_wp2_with fail
                refine (q_used _ _ _ _ _ _ HT6.out).mono ?_
                rintro e w7 ⟨vr, rfl, hor, hb7⟩
                have HOX5 := Aside0.mk (own_mine HOX4.out hb7)
                have HOY5 := Aside0.mk (own_mine HOY4.out hb7)
                have HOR := Aside0.mk hor
                have HB7 := Aside0.mk (HB6.out.trans (hb7.mono HB6.out.size))
                clear hb7 hor HOX4 HOY4 HB6 HT6
                go_wp2_with fail
                refine (eq_any _ _ _ _ _ _ (Nat.lt_of_le_of_lt (usL_small HT.out) (by decide)) HOX5.out HOR.out).mono ?_
                rintro e w8 ⟨rfl, hd⟩
                have HOX6 := Aside0.mk (own_mine HOX5.out hd.below)
                have HOY6 := Aside0.mk (own_mine HOY5.out hd.below)
                have HB8 := Aside0.mk (HB7.out.trans (hd.below.mono HB7.out.size))
                clear hd HOX5 HOY5 HB7 HOR
                obtain ⟨Ax, cx, hvx⟩ := own_slice HOX6.out
                subst hvx
                have hsm := usL_small HT.out
                have HSM := Aside0.mk hsm
                obtain ⟨L, hL0⟩ : ∃ L, L = usL S := ⟨_, rfl⟩
                have HLE := Aside0.mk hL0
                rw [← hL0] at HOX6 HOY6 hsm ⊢
                clear hL0
                obtain ⟨nl, hnl⟩ : ∃ nl, nl = L.length := ⟨_, rfl⟩
                rw [← hnl] at HOX6 hsm ⊢
                have HXL : Aside0 (∃ l : List Int, w8.ownsRow w4.heap.size 3 1 (.slice Ax nl cx) nl (nums .i64 l)) := ⟨⟨L, HOX6.out⟩⟩
                clear hnl HOX6
                go_wp2_with fail
                go_loopw [23] (fun v23 wr => ∃ k : Nat, k ≤ nl ∧ v23 = .int .i64 k ∧ Aside0 (∃ l : List Int, wr.ownsRow w4.heap.size 3 1 (.slice Ax nl cx) nl (nums .i64 l)) ∧ Aside0 (wr.ownsRow wx.heap.size 3 1 vy L.length (nums .i64 L)) ∧ Aside0 (Below w4.heap.size w4 wr)) (fun v23 _ => nl - (intOf v23).toNat)
                case atStart => exact ⟨0, by omega, rfl, HXL, HOY6, HB8⟩
                case round =>
                  clear HXL HOY6 HB8
                  obtain ⟨k, hk, rfl, hX, hY, hB8⟩ := hrel
                  by_cases hkl : k < nl
                  · obtain ⟨l, ho⟩ := hX.out
                    obtain ⟨g, cap', hfe, hgb, hgl⟩ := ho.form (by omega)
                    injection hfe with hfe1 _ hfe3
                    subst hfe1 hfe3
                    obtain ⟨hc, hf⟩ := own_at ho (k : Int) (by omega) (by omega)
                    rw [Int.toNat_natCast] at hc hf
                    have hput := (own_store ho (k : Int) (-1)).1
                    rw [Int.toNat_natCast] at hput
                    have HX2 : Aside0 (∃ l : List Int, (wr.setCell ⟨g, k, none⟩ (.int .i64 (-1))).ownsRow w4.heap.size 3 1 (.slice (some ⟨g, 0, none⟩) nl cx) nl (nums .i64 l)) := ⟨⟨_, hput⟩⟩
                    have hgx := HXB.out g rfl
                    have HY2 : Aside0 ((wr.setCell ⟨g, k, none⟩ (.int .i64 (-1))).ownsRow wx.heap.size 3 1 vy L.length (nums .i64 L)) := ⟨own_setCell hY.out (fun e => by have := own_base hY.out g e.symm; omega) _⟩
                    have HB9 : Aside0 (Below w4.heap.size w4 (wr.setCell ⟨g, k, none⟩ (.int .i64 (-1)))) := ⟨hB8.out.setCell hgx.1 _⟩
                    generalize rd l (k : Int) = z at hc
                    clear ho hput hX hY hB8 hgx
                    go_wp2_with fail
                    go_roundw
                    case rel => exact ⟨k + 1, by omega, by go_num, HX2, HY2, HB9⟩
                    case measure => simp [intOf]; omega
                  · have HT9 := Aside0.mk (HT.out.later hB8.out)
                    have HY9 : Aside0 (wr.ownsRow wx.heap.size 3 1 vy (usL S).length (nums .i64 (usL S))) := ⟨by rw [← HLE.out]; exact hY.out⟩
                    have hk1 : (k : Int) = (nl : Int) := by omega
                    clear hX hY
                    go_wp2_with fail
                    refine (q_used _ _ _ _ _ _ HT9.out).mono ?_
                    rintro e wq ⟨vq2, rfl, hoq, hbq⟩
                    have HOY9 := Aside0.mk (own_mine HY9.out hbq)
                    have HOQ := Aside0.mk hoq
                    have HBq := Aside0.mk (hB8.out.trans (hbq.mono hB8.out.size))
                    clear hbq hoq HT9 hB8
                    go_wp2_with fail
                    refine (eq_any _ _ _ _ _ _ (Nat.lt_of_le_of_lt HSM.out (by decide)) HOY9.out HOQ.out).mono ?_
                    rintro e wz ⟨rfl, hd⟩
                    have HBZ := Aside0.mk (HBq.out.trans (hd.below.mono HBq.out.size))
                    have HTZ := Aside0.mk (HT.out.later HBZ.out)
                    have HBB := Aside0.mk (below_base HB.out HBZ.out (Nat.le_refl _))
                    clear hd HOY9 HOQ HBq HBZ
                    go_wp2_with fail
                    go_roundw
                    case rel => exact ⟨i + 1, S, by omega, by go_num, HTZ, HBB⟩
                    case measure => simp [intOf]; omega
              · go_wp2_with fail
                go_region_with (first
                  | (go_at_call 10; first
                      | (refine (p_give _ w.heap.size (.pointer (some ⟨c, 0, none⟩)) (.pointer (some ⟨c2, 0, none⟩)) S S x1 (by first | exact hH.out | exact hH.out.drew)).mono ?_; rintro e w' ⟨rfl, hT, hb⟩; have HG := Aside0.mk hT; have HBG : Aside0 (Below w.heap.size w w') := ⟨by first | exact hB.out.trans hb | exact (below_drew hB.out).trans hb⟩; have q1 := pw_cell_below HBG.out Q1.out; clear hT hb)
                      | (refine (p_give _ w.heap.size (.pointer (some ⟨c, 0, none⟩)) (.pointer (some ⟨c2, 0, none⟩)) S (gvS x1 S) x1 (by first | exact HG.out | exact HG.out.drew)).mono ?_; rintro e w' ⟨rfl, hT, hb⟩; have HG2 := Aside0.mk hT; have HBG2 : Aside0 (Below w.heap.size w w') := ⟨by first | exact HBG.out.trans hb | exact (below_drew HBG.out).trans hb⟩; clear hT hb))
                  | (go_at_call 11; first
                      | (refine (q_give _ w.heap.size (.pointer (some ⟨c, 0, none⟩)) (.pointer (some ⟨c2, 0, none⟩)) S S x1 (by first | exact hH.out | exact hH.out.drew)).mono ?_; rintro e w' ⟨rfl, hT, hb⟩; have HG := Aside0.mk hT; have HBG : Aside0 (Below w.heap.size w w') := ⟨by first | exact hB.out.trans hb | exact (below_drew hB.out).trans hb⟩; have q1 := pw_cell_below HBG.out Q1.out; clear hT hb)
                      | (refine (q_give _ w.heap.size (.pointer (some ⟨c, 0, none⟩)) (.pointer (some ⟨c2, 0, none⟩)) (gvS x1 S) S x1 (by first | exact HG.out | exact HG.out.drew)).mono ?_; rintro e w' ⟨rfl, hT, hb⟩; have HG2 := Aside0.mk hT; have HBG2 : Aside0 (Below w.heap.size w w') := ⟨by first | exact HBG.out.trans hb | exact (below_drew HBG.out).trans hb⟩; clear hT hb)))
                all_goals
                  have HT := HG2
                  have HB := HBG2
                  clear HG HBG HG2 HBG2 hH hB Q1 q0 q1
                  generalize gvB x1 S = ra
                  generalize gvS x1 S = S' at HT
                  clear S
                  rename Option (List Bool) => S
                  go_wp2_with fail
                  refine (p_used _ _ _ _ _ _ HT.out).mono ?_
                  rintro e wx ⟨vx, rfl, hox, hbx⟩
                  have HBX := Aside0.mk hbx
                  have HTX := Aside0.mk (HT.out.later hbx)
                  have HOX := Aside0.mk hox
                  clear hbx hox
                  go_wp2_with fail
                  refine (p_used _ _ _ _ _ _ HTX.out).mono ?_
                  rintro e wy ⟨vy, rfl, hoy, hby⟩
                  have HOY := Aside0.mk hoy
                  have HOX2 := Aside0.mk (own_mine HOX.out hby)
                  have HXB : Aside0 (∀ g, vx.ownBlock = some g → w'.heap.size ≤ g ∧ g < wx.heap.size) := ⟨fun g hg => ⟨own_base HOX.out g hg, own_lt HOX.out g hg⟩⟩
                  have HBY := Aside0.mk (HBX.out.trans (hby.mono HBX.out.size))
                  have HTY := Aside0.mk (HTX.out.later hby)
                  clear hoy hby HBX HTX HOX
                  go_wp2_with fail
                  refine (p_free _ _ _ _ _ _ HTY.out).mono ?_
                  rintro e w5 ⟨rfl, hb5⟩
                  have HOX3 := Aside0.mk (own_mine HOX2.out hb5)
                  have HOY3 := Aside0.mk (own_mine HOY.out hb5)
                  have HB5 := Aside0.mk (HBY.out.trans (hb5.mono HBY.out.size))
                  have HT5 := Aside0.mk (HTY.out.later hb5)
                  clear hb5 HOX2 HOY HBY HTY
                  go_wp2_with fail
                  refine (q_free _ _ _ _ _ _ HT5.out).mono ?_
                  rintro e w6 ⟨rfl, hb6⟩
                  have HOX4 := Aside0.mk (own_mine HOX3.out hb6)
                  have HOY4 := Aside0.mk (own_mine HOY3.out hb6)
                  have HB6 := Aside0.mk (HB5.out.trans (hb6.mono HB5.out.size))
                  have HT6 := Aside0.mk (HT5.out.later hb6)
                  clear hb6 HOX3 HOY3 HB5 HT5
                  go_wp2_with fail
                  refine (q_used _ _ _ _ _ _ HT6.out).mono ?_
                  rintro e w7 ⟨vr, rfl, hor, hb7⟩
                  have HOX5 := Aside0.mk (own_mine HOX4.out hb7)
                  have HOY5 := Aside0.mk (own_mine HOY4.out hb7)
                  have HOR := Aside0.mk hor
                  have HB7 := Aside0.mk (HB6.out.trans (hb7.mono HB6.out.size))
                  clear hb7 hor HOX4 HOY4 HB6 HT6
                  go_wp2_with fail
                  refine (eq_any _ _ _ _ _ _ (Nat.lt_of_le_of_lt (usL_small HT.out) (by decide)) HOX5.out HOR.out).mono ?_
                  rintro e w8 ⟨rfl, hd⟩
                  have HOX6 := Aside0.mk (own_mine HOX5.out hd.below)
                  have HOY6 := Aside0.mk (own_mine HOY5.out hd.below)
                  have HB8 := Aside0.mk (HB7.out.trans (hd.below.mono HB7.out.size))
                  clear hd HOX5 HOY5 HB7 HOR
                  obtain ⟨Ax, cx, hvx⟩ := own_slice HOX6.out
                  subst hvx
                  have hsm := usL_small HT.out
                  have HSM := Aside0.mk hsm
                  obtain ⟨L, hL0⟩ : ∃ L, L = usL S := ⟨_, rfl⟩
                  have HLE := Aside0.mk hL0
                  rw [← hL0] at HOX6 HOY6 hsm ⊢
                  clear hL0
                  obtain ⟨nl, hnl⟩ : ∃ nl, nl = L.length := ⟨_, rfl⟩
                  rw [← hnl] at HOX6 hsm ⊢
                  have HXL : Aside0 (∃ l : List Int, w8.ownsRow w'.heap.size 3 1 (.slice Ax nl cx) nl (nums .i64 l)) := ⟨⟨L, HOX6.out⟩⟩
                  clear hnl HOX6
                  go_wp2_with fail
                  go_loopw [23] (fun v23 wr => ∃ k : Nat, k ≤ nl ∧ v23 = .int .i64 k ∧ Aside0 (∃ l : List Int, wr.ownsRow w'.heap.size 3 1 (.slice Ax nl cx) nl (nums .i64 l)) ∧ Aside0 (wr.ownsRow wx.heap.size 3 1 vy L.length (nums .i64 L)) ∧ Aside0 (Below w'.heap.size w' wr)) (fun v23 _ => nl - (intOf v23).toNat)
                  case atStart => exact ⟨0, by omega, rfl, HXL, HOY6, HB8⟩
                  case round =>
                    clear HXL HOY6 HB8
                    obtain ⟨k, hk, rfl, hX, hY, hB8⟩ := hrel
                    by_cases hkl : k < nl
                    · obtain ⟨l, ho⟩ := hX.out
                      obtain ⟨g, cap', hfe, hgb, hgl⟩ := ho.form (by omega)
                      injection hfe with hfe1 _ hfe3
                      subst hfe1 hfe3
                      obtain ⟨hc, hf⟩ := own_at ho (k : Int) (by omega) (by omega)
                      rw [Int.toNat_natCast] at hc hf
                      have hput := (own_store ho (k : Int) (-1)).1
                      rw [Int.toNat_natCast] at hput
                      have HX2 : Aside0 (∃ l : List Int, (wr.setCell ⟨g, k, none⟩ (.int .i64 (-1))).ownsRow w'.heap.size 3 1 (.slice (some ⟨g, 0, none⟩) nl cx) nl (nums .i64 l)) := ⟨⟨_, hput⟩⟩
                      have hgx := HXB.out g rfl
                      have HY2 : Aside0 ((wr.setCell ⟨g, k, none⟩ (.int .i64 (-1))).ownsRow wx.heap.size 3 1 vy L.length (nums .i64 L)) := ⟨own_setCell hY.out (fun e => by have := own_base hY.out g e.symm; omega) _⟩
                      have HB9 : Aside0 (Below w'.heap.size w' (wr.setCell ⟨g, k, none⟩ (.int .i64 (-1)))) := ⟨hB8.out.setCell hgx.1 _⟩
                      generalize rd l (k : Int) = z at hc
                      clear ho hput hX hY hB8 hgx
                      go_wp2_with fail
                      go_roundw
                      case rel => exact ⟨k + 1, by omega, by go_num, HX2, HY2, HB9⟩
                      case measure => simp [intOf]; omega
                    · have HT9 := Aside0.mk (HT.out.later hB8.out)
                      have HY9 : Aside0 (wr.ownsRow wx.heap.size 3 1 vy (usL S).length (nums .i64 (usL S))) := ⟨by rw [← HLE.out]; exact hY.out⟩
                      have hk1 : (k : Int) = (nl : Int) := by omega
                      clear hX hY
                      go_wp2_with fail
                      refine (q_used _ _ _ _ _ _ HT9.out).mono ?_
                      rintro e wq ⟨vq2, rfl, hoq, hbq⟩
                      have HOY9 := Aside0.mk (own_mine HY9.out hbq)
                      have HOQ := Aside0.mk hoq
                      have HBq := Aside0.mk (hB8.out.trans (hbq.mono hB8.out.size))
                      clear hbq hoq HT9 hB8
                      go_wp2_with fail
                      refine (eq_any _ _ _ _ _ _ (Nat.lt_of_le_of_lt HSM.out (by decide)) HOY9.out HOQ.out).mono ?_
                      rintro e wz ⟨rfl, hd⟩
                      have HBZ := Aside0.mk (HBq.out.trans (hd.below.mono HBq.out.size))
                      have HTZ := Aside0.mk (HT.out.later HBZ.out)
                      have HBB := Aside0.mk (below_base HB.out HBZ.out (Nat.le_refl _))
                      clear hd HOY9 HOQ HBq HBZ
                      go_wp2_with fail
                      go_roundw
                      case rel => exact ⟨i + 1, S, by omega, by go_num, HTZ, HBB⟩
                      case measure => simp [intOf]; omega
            · have hx2 : ¬ i < len ∨ (i < len ∧ ¬ i < 200) := by omega
              clear hlt2
              rcases hx2 with hx2 | ⟨hx2, hx3⟩
              · go_wp2_with fail
                refine (p_free _ _ _ _ _ _ hH.out).mono ?_
                rintro e w5 ⟨rfl, hb5⟩
                have HB5 := Aside0.mk (below_base hB.out hb5 (Nat.le_refl _))
                have HT5 := Aside0.mk (hH.out.later hb5)
                clear hb5 hB
                go_wp2_with fail
                refine (q_free _ _ _ _ _ _ HT5.out).mono ?_
                rintro e w6 ⟨rfl, hb6⟩
                have HB6 := Aside0.mk (below_base HB5.out hb6 (Nat.le_refl _))
                have HT6 := Aside0.mk (HT5.out.later hb6)
                clear hb6 HB5 HT5
                go_wp2_with fail
                refine (p_used _ _ _ _ _ _ HT6.out).mono ?_
                rintro e wx ⟨vx, rfl, hox, hbx⟩
                have HBX := Aside0.mk (below_base HB6.out hbx (Nat.le_refl _))
                have HTX := Aside0.mk (HT6.out.later hbx)
                have HOX := Aside0.mk hox
                clear hbx hox HB6 HT6
                go_wp2_with fail
                refine (q_used _ _ _ _ _ _ HTX.out).mono ?_
                rintro e wy ⟨vy, rfl, hoy, hby⟩
                have HOY := Aside0.mk hoy
                have HOX2 := Aside0.mk (own_mine HOX.out hby)
                have HBY := Aside0.mk (below_base HBX.out hby (Nat.le_refl _))
                clear hoy hby HBX HTX HOX
                go_wp2_with fail
                refine (eq_any _ _ _ _ _ _ (Nat.lt_of_le_of_lt (usL_small hH.out) (by decide)) HOX2.out HOY.out).mono ?_
                rintro e wz ⟨rfl, hd⟩
                have HBZ := Aside0.mk (below_base HBY.out hd.below (Nat.le_refl _))
                clear hd HOX2 HOY HBY
                go_wp2_with fail
                refine (works_yes _ (HTB.out.later HBZ.out)).mono ?_
                rintro e wk ⟨rfl, hbk⟩
                have HBK := Aside0.mk (below_base HBZ.out hbk (Nat.le_refl _))
                clear hbk HBZ
                go_wp2_with fail
                go_ret
                exact ⟨rfl, HBK.out⟩
              · go_wp2_with fail
                refine (p_free _ _ _ _ _ _ hH.out).mono ?_
                rintro e w5 ⟨rfl, hb5⟩
                have HB5 := Aside0.mk (below_base hB.out hb5 (Nat.le_refl _))
                have HT5 := Aside0.mk (hH.out.later hb5)
                clear hb5 hB
                go_wp2_with fail
                refine (q_free _ _ _ _ _ _ HT5.out).mono ?_
                rintro e w6 ⟨rfl, hb6⟩
                have HB6 := Aside0.mk (below_base HB5.out hb6 (Nat.le_refl _))
                have HT6 := Aside0.mk (HT5.out.later hb6)
                clear hb6 HB5 HT5
                go_wp2_with fail
                refine (p_used _ _ _ _ _ _ HT6.out).mono ?_
                rintro e wx ⟨vx, rfl, hox, hbx⟩
                have HBX := Aside0.mk (below_base HB6.out hbx (Nat.le_refl _))
                have HTX := Aside0.mk (HT6.out.later hbx)
                have HOX := Aside0.mk hox
                clear hbx hox HB6 HT6
                go_wp2_with fail
                refine (q_used _ _ _ _ _ _ HTX.out).mono ?_
                rintro e wy ⟨vy, rfl, hoy, hby⟩
                have HOY := Aside0.mk hoy
                have HOX2 := Aside0.mk (own_mine HOX.out hby)
                have HBY := Aside0.mk (below_base HBX.out hby (Nat.le_refl _))
                clear hoy hby HBX HTX HOX
                go_wp2_with fail
                refine (eq_any _ _ _ _ _ _ (Nat.lt_of_le_of_lt (usL_small hH.out) (by decide)) HOX2.out HOY.out).mono ?_
                rintro e wz ⟨rfl, hd⟩
                have HBZ := Aside0.mk (below_base HBY.out hd.below (Nat.le_refl _))
                clear hd HOX2 HOY HBY
                go_wp2_with fail
                refine (works_yes _ (HTB.out.later HBZ.out)).mono ?_
                rintro e wk ⟨rfl, hbk⟩
                have HBK := Aside0.mk (below_base HBZ.out hbk (Nat.le_refl _))
                clear hbk HBZ
                go_wp2_with fail
                go_ret
                exact ⟨rfl, HBK.out⟩
  · have HN := Aside0.mk (fun w => new_no a0 w hok)
    have HRN := Aside0.mk (fun w => rnew_no a0 w hok)
    clear hok
    go_enter Tryd.func3, Tryd.ntmps3
    go_wp2_with fail
    refine (HN.out _).mono ?_
    rintro e w1 ⟨rfl, hd⟩
    have HB := Aside0.mk hd.below
    clear hd
    go_wp2_with fail
    refine (HRN.out _).mono ?_
    rintro e w2 ⟨rfl, hd⟩
    have HB2 := Aside0.mk (below_base HB.out hd.below (Nat.le_refl _))
    have HH : Aside0 (Two w2 w.heap.size (.pointer none) (.pointer none) none none) := ⟨rfl, rfl, HB2.out.size⟩
    obtain ⟨S0, hS0⟩ : ∃ S0 : Option (List Bool), none = S0 := ⟨_, rfl⟩
    rw [hS0] at HH
    clear hd HB HN HRN hS0
    go_wp2_with fail
    go_loopw [11] (fun v11 wr => ∃ (i : Nat) (S : Option (List Bool)), i ≤ 1030 ∧ v11 = .int .i64 i ∧ Aside0 (Two wr w.heap.size (.pointer none) (.pointer none) S S) ∧ Aside0 (Below w.heap.size w wr)) (fun v11 _ => 1030 - (intOf v11).toNat)
    case atStart => exact ⟨0, S0, by omega, rfl, HH, HB2⟩
    case round =>
      clear HH HB2
      obtain ⟨i, S, hi, rfl, hH, hB⟩ := hrel
      by_cases hlt : (i : Int) < a1 ∧ i < 1030
      · obtain ⟨h1, h2⟩ := hlt
        go_wp2_with fail
        refine (p_take _ _ _ _ _ _ hH.out).mono ?_
        rintro e w3 ⟨rfl, hH3, hb3⟩
        have HH3 := Aside0.mk hH3
        have HB3 := Aside0.mk (hB.out.trans hb3)
        clear hH3 hb3 hH hB
        go_wp2_with fail
        refine (q_take _ _ _ _ _ _ HH3.out).mono ?_
        rintro e w4 ⟨rfl, hH4, hb4⟩
        have HH4 := Aside0.mk hH4
        have HB4 := Aside0.mk (HB3.out.trans hb4)
        clear hH4 hb4 HH3 HB3
        generalize tkA S = ra
        generalize tkB S = rb
        go_wp2_with fail
        go_roundw
        case rel => exact ⟨i + 1, tkS S, by omega, by go_num, HH4, HB4⟩
        case measure => simp [intOf]; omega
      · have hx : a1 ≤ (i : Int) ∨ ((i : Int) < a1 ∧ 1030 ≤ i) := by omega
        clear hlt
        rcases hx with hx | ⟨hx, hx2⟩
        · go_wp2_with fail
          go_loopw [16] (fun v16 wr => ∃ (i : Nat) (S : Option (List Bool)), i ≤ 200 ∧ v16 = .int .i64 i ∧ Aside0 (Two wr w.heap.size (.pointer none) (.pointer none) S S) ∧ Aside0 (Below w.heap.size w wr)) (fun v16 _ => 200 - (intOf v16).toNat)
          case atStart => exact ⟨0, S, by omega, rfl, hH, hB⟩
          case round =>
            clear hH hB
            obtain ⟨i, S, hi, rfl, hH, hB⟩ := hrel
            by_cases hlt2 : i < len ∧ i < 200
            · obtain ⟨h1, h2⟩ := hlt2
              obtain ⟨ad, x0, x1, rfl, q0, q1⟩ := HRow.out i h1
              rw [Nat.add_zero] at q0
              rw [add_field ad (i * 2) 1 (by decide)] at q1
              have Q1 := Aside0.mk q1
              replace q0 := pw_cell_below hB.out q0
              replace q1 := pw_cell_below hB.out q1
              cases x0
              · go_wp2_with fail
                refine (p_take _ _ _ _ _ _ hH.out).mono ?_
                rintro e w3 ⟨rfl, hH3, hb3⟩
                have HH3 := Aside0.mk hH3
                have HB3 := Aside0.mk (hB.out.trans hb3)
                clear hH3 hb3 hH hB q0 q1
                go_wp2_with fail
                refine (q_take _ _ _ _ _ _ HH3.out).mono ?_
                rintro e w4 ⟨rfl, hH4, hb4⟩
                have HT := Aside0.mk hH4
                have HB := Aside0.mk (HB3.out.trans hb4)
                clear hH4 hb4 HH3 HB3
                generalize tkA S = ra
                generalize tkB S = rb
                generalize tkS S = S' at HT
                clear S
                rename Option (List Bool) => S
                go_wp2_with fail
                refine (p_used _ _ _ _ _ _ HT.out).mono ?_
                rintro e wx ⟨vx, rfl, hox, hbx⟩
                have HBX := Aside0.mk hbx
                have HTX := Aside0.mk (HT.out.later hbx)
                have HOX := Aside0.mk hox
                clear hbx hox
                go_wp2_with fail
                refine (p_used _ _ _ _ _ _ HTX.out).mono ?_
                rintro e wy ⟨vy, rfl, hoy, hby⟩
                have HOY := Aside0.mk hoy
                have HOX2 := Aside0.mk (own_mine HOX.out hby)
                have HXB : Aside0 (∀ g, vx.ownBlock = some g → w4.heap.size ≤ g ∧ g < wx.heap.size) := ⟨fun g hg => ⟨own_base HOX.out g hg, own_lt HOX.out g hg⟩⟩
                have HBY := Aside0.mk (HBX.out.trans (hby.mono HBX.out.size))
                have HTY := Aside0.mk (HTX.out.later hby)
                clear hoy hby HBX HTX HOX
                go_wp2_with fail
                refine (p_free _ _ _ _ _ _ HTY.out).mono ?_
                rintro e w5 ⟨rfl, hb5⟩
                have HOX3 := Aside0.mk (own_mine HOX2.out hb5)
                have HOY3 := Aside0.mk (own_mine HOY.out hb5)
                have HB5 := Aside0.mk (HBY.out.trans (hb5.mono HBY.out.size))
                have HT5 := Aside0.mk (HTY.out.later hb5)
                clear hb5 HOX2 HOY HBY HTY
                go_wp2_with fail
                refine (q_free _ _ _ _ _ _ HT5.out).mono ?_
                rintro e w6 ⟨rfl, hb6⟩
                have HOX4 := Aside0.mk (own_mine HOX3.out hb6)
                have HOY4 := Aside0.mk (own_mine HOY3.out hb6)
                have HB6 := Aside0.mk (HB5.out.trans (hb6.mono HB5.out.size))
                have HT6 := Aside0.mk (HT5.out.later hb6)
                clear hb6 HOX3 HOY3 HB5 HT5
                go_wp2_with fail
                refine (q_used _ _ _ _ _ _ HT6.out).mono ?_
                rintro e w7 ⟨vr, rfl, hor, hb7⟩
                have HOX5 := Aside0.mk (own_mine HOX4.out hb7)
                have HOY5 := Aside0.mk (own_mine HOY4.out hb7)
                have HOR := Aside0.mk hor
                have HB7 := Aside0.mk (HB6.out.trans (hb7.mono HB6.out.size))
                clear hb7 hor HOX4 HOY4 HB6 HT6
                go_wp2_with fail
                refine (eq_any _ _ _ _ _ _ (Nat.lt_of_le_of_lt (usL_small HT.out) (by decide)) HOX5.out HOR.out).mono ?_
                rintro e w8 ⟨rfl, hd⟩
                have HOX6 := Aside0.mk (own_mine HOX5.out hd.below)
                have HOY6 := Aside0.mk (own_mine HOY5.out hd.below)
                have HB8 := Aside0.mk (HB7.out.trans (hd.below.mono HB7.out.size))
                clear hd HOX5 HOY5 HB7 HOR
                obtain ⟨Ax, cx, hvx⟩ := own_slice HOX6.out
                subst hvx
                have hsm := usL_small HT.out
                have HSM := Aside0.mk hsm
                obtain ⟨L, hL0⟩ : ∃ L, L = usL S := ⟨_, rfl⟩
                have HLE := Aside0.mk hL0
                rw [← hL0] at HOX6 HOY6 hsm ⊢
                clear hL0
                obtain ⟨nl, hnl⟩ : ∃ nl, nl = L.length := ⟨_, rfl⟩
                rw [← hnl] at HOX6 hsm ⊢
                have HXL : Aside0 (∃ l : List Int, w8.ownsRow w4.heap.size 3 1 (.slice Ax nl cx) nl (nums .i64 l)) := ⟨⟨L, HOX6.out⟩⟩
                clear hnl HOX6
                go_wp2_with fail
                go_loopw [23] (fun v23 wr => ∃ k : Nat, k ≤ nl ∧ v23 = .int .i64 k ∧ Aside0 (∃ l : List Int, wr.ownsRow w4.heap.size 3 1 (.slice Ax nl cx) nl (nums .i64 l)) ∧ Aside0 (wr.ownsRow wx.heap.size 3 1 vy L.length (nums .i64 L)) ∧ Aside0 (Below w4.heap.size w4 wr)) (fun v23 _ => nl - (intOf v23).toNat)
                case atStart => exact ⟨0, by omega, rfl, HXL, HOY6, HB8⟩
                case round =>
                  clear HXL HOY6 HB8
                  obtain ⟨k, hk, rfl, hX, hY, hB8⟩ := hrel
                  by_cases hkl : k < nl
                  · obtain ⟨l, ho⟩ := hX.out
                    obtain ⟨g, cap', hfe, hgb, hgl⟩ := ho.form (by omega)
                    injection hfe with hfe1 _ hfe3
                    subst hfe1 hfe3
                    obtain ⟨hc, hf⟩ := own_at ho (k : Int) (by omega) (by omega)
                    rw [Int.toNat_natCast] at hc hf
                    have hput := (own_store ho (k : Int) (-1)).1
                    rw [Int.toNat_natCast] at hput
                    have HX2 : Aside0 (∃ l : List Int, (wr.setCell ⟨g, k, none⟩ (.int .i64 (-1))).ownsRow w4.heap.size 3 1 (.slice (some ⟨g, 0, none⟩) nl cx) nl (nums .i64 l)) := ⟨⟨_, hput⟩⟩
                    have hgx := HXB.out g rfl
                    have HY2 : Aside0 ((wr.setCell ⟨g, k, none⟩ (.int .i64 (-1))).ownsRow wx.heap.size 3 1 vy L.length (nums .i64 L)) := ⟨own_setCell hY.out (fun e => by have := own_base hY.out g e.symm; omega) _⟩
                    have HB9 : Aside0 (Below w4.heap.size w4 (wr.setCell ⟨g, k, none⟩ (.int .i64 (-1)))) := ⟨hB8.out.setCell hgx.1 _⟩
                    generalize rd l (k : Int) = z at hc
                    clear ho hput hX hY hB8 hgx
                    go_wp2_with fail
                    go_roundw
                    case rel => exact ⟨k + 1, by omega, by go_num, HX2, HY2, HB9⟩
                    case measure => simp [intOf]; omega
                  · have HT9 := Aside0.mk (HT.out.later hB8.out)
                    have HY9 : Aside0 (wr.ownsRow wx.heap.size 3 1 vy (usL S).length (nums .i64 (usL S))) := ⟨by rw [← HLE.out]; exact hY.out⟩
                    have hk1 : (k : Int) = (nl : Int) := by omega
                    clear hX hY
                    go_wp2_with fail
                    refine (q_used _ _ _ _ _ _ HT9.out).mono ?_
                    rintro e wq ⟨vq2, rfl, hoq, hbq⟩
                    have HOY9 := Aside0.mk (own_mine HY9.out hbq)
                    have HOQ := Aside0.mk hoq
                    have HBq := Aside0.mk (hB8.out.trans (hbq.mono hB8.out.size))
                    clear hbq hoq HT9 hB8
                    go_wp2_with fail
                    refine (eq_any _ _ _ _ _ _ (Nat.lt_of_le_of_lt HSM.out (by decide)) HOY9.out HOQ.out).mono ?_
                    rintro e wz ⟨rfl, hd⟩
                    have HBZ := Aside0.mk (HBq.out.trans (hd.below.mono HBq.out.size))
                    have HTZ := Aside0.mk (HT.out.later HBZ.out)
                    have HBB := Aside0.mk (below_base HB.out HBZ.out (Nat.le_refl _))
                    clear hd HOY9 HOQ HBq HBZ
                    go_wp2_with fail
                    go_roundw
                    case rel => exact ⟨i + 1, S, by omega, by go_num, HTZ, HBB⟩
                    case measure => simp [intOf]; omega
              · go_wp2_with fail
                go_region_with (first
                  | (go_at_call 10; first
                      | (refine (p_give _ w.heap.size (.pointer none) (.pointer none) S S x1 (by first | exact hH.out | exact hH.out.drew)).mono ?_; rintro e w' ⟨rfl, hT, hb⟩; have HG := Aside0.mk hT; have HBG : Aside0 (Below w.heap.size w w') := ⟨by first | exact hB.out.trans hb | exact (below_drew hB.out).trans hb⟩; have q1 := pw_cell_below HBG.out Q1.out; clear hT hb)
                      | (refine (p_give _ w.heap.size (.pointer none) (.pointer none) S (gvS x1 S) x1 (by first | exact HG.out | exact HG.out.drew)).mono ?_; rintro e w' ⟨rfl, hT, hb⟩; have HG2 := Aside0.mk hT; have HBG2 : Aside0 (Below w.heap.size w w') := ⟨by first | exact HBG.out.trans hb | exact (below_drew HBG.out).trans hb⟩; clear hT hb))
                  | (go_at_call 11; first
                      | (refine (q_give _ w.heap.size (.pointer none) (.pointer none) S S x1 (by first | exact hH.out | exact hH.out.drew)).mono ?_; rintro e w' ⟨rfl, hT, hb⟩; have HG := Aside0.mk hT; have HBG : Aside0 (Below w.heap.size w w') := ⟨by first | exact hB.out.trans hb | exact (below_drew hB.out).trans hb⟩; have q1 := pw_cell_below HBG.out Q1.out; clear hT hb)
                      | (refine (q_give _ w.heap.size (.pointer none) (.pointer none) (gvS x1 S) S x1 (by first | exact HG.out | exact HG.out.drew)).mono ?_; rintro e w' ⟨rfl, hT, hb⟩; have HG2 := Aside0.mk hT; have HBG2 : Aside0 (Below w.heap.size w w') := ⟨by first | exact HBG.out.trans hb | exact (below_drew HBG.out).trans hb⟩; clear hT hb)))
                all_goals
                  have HT := HG2
                  have HB := HBG2
                  clear HG HBG HG2 HBG2 hH hB Q1 q0 q1
                  generalize gvB x1 S = ra
                  generalize gvS x1 S = S' at HT
                  clear S
                  rename Option (List Bool) => S
                  go_wp2_with fail
                  refine (p_used _ _ _ _ _ _ HT.out).mono ?_
                  rintro e wx ⟨vx, rfl, hox, hbx⟩
                  have HBX := Aside0.mk hbx
                  have HTX := Aside0.mk (HT.out.later hbx)
                  have HOX := Aside0.mk hox
                  clear hbx hox
                  go_wp2_with fail
                  refine (p_used _ _ _ _ _ _ HTX.out).mono ?_
                  rintro e wy ⟨vy, rfl, hoy, hby⟩
                  have HOY := Aside0.mk hoy
                  have HOX2 := Aside0.mk (own_mine HOX.out hby)
                  have HXB : Aside0 (∀ g, vx.ownBlock = some g → w'.heap.size ≤ g ∧ g < wx.heap.size) := ⟨fun g hg => ⟨own_base HOX.out g hg, own_lt HOX.out g hg⟩⟩
                  have HBY := Aside0.mk (HBX.out.trans (hby.mono HBX.out.size))
                  have HTY := Aside0.mk (HTX.out.later hby)
                  clear hoy hby HBX HTX HOX
                  go_wp2_with fail
                  refine (p_free _ _ _ _ _ _ HTY.out).mono ?_
                  rintro e w5 ⟨rfl, hb5⟩
                  have HOX3 := Aside0.mk (own_mine HOX2.out hb5)
                  have HOY3 := Aside0.mk (own_mine HOY.out hb5)
                  have HB5 := Aside0.mk (HBY.out.trans (hb5.mono HBY.out.size))
                  have HT5 := Aside0.mk (HTY.out.later hb5)
                  clear hb5 HOX2 HOY HBY HTY
                  go_wp2_with fail
                  refine (q_free _ _ _ _ _ _ HT5.out).mono ?_
                  rintro e w6 ⟨rfl, hb6⟩
                  have HOX4 := Aside0.mk (own_mine HOX3.out hb6)
                  have HOY4 := Aside0.mk (own_mine HOY3.out hb6)
                  have HB6 := Aside0.mk (HB5.out.trans (hb6.mono HB5.out.size))
                  have HT6 := Aside0.mk (HT5.out.later hb6)
                  clear hb6 HOX3 HOY3 HB5 HT5
                  go_wp2_with fail
                  refine (q_used _ _ _ _ _ _ HT6.out).mono ?_
                  rintro e w7 ⟨vr, rfl, hor, hb7⟩
                  have HOX5 := Aside0.mk (own_mine HOX4.out hb7)
                  have HOY5 := Aside0.mk (own_mine HOY4.out hb7)
                  have HOR := Aside0.mk hor
                  have HB7 := Aside0.mk (HB6.out.trans (hb7.mono HB6.out.size))
                  clear hb7 hor HOX4 HOY4 HB6 HT6
                  go_wp2_with fail
                  refine (eq_any _ _ _ _ _ _ (Nat.lt_of_le_of_lt (usL_small HT.out) (by decide)) HOX5.out HOR.out).mono ?_
                  rintro e w8 ⟨rfl, hd⟩
                  have HOX6 := Aside0.mk (own_mine HOX5.out hd.below)
                  have HOY6 := Aside0.mk (own_mine HOY5.out hd.below)
                  have HB8 := Aside0.mk (HB7.out.trans (hd.below.mono HB7.out.size))
                  clear hd HOX5 HOY5 HB7 HOR
                  obtain ⟨Ax, cx, hvx⟩ := own_slice HOX6.out
                  subst hvx
                  have hsm := usL_small HT.out
                  have HSM := Aside0.mk hsm
                  obtain ⟨L, hL0⟩ : ∃ L, L = usL S := ⟨_, rfl⟩
                  have HLE := Aside0.mk hL0
                  rw [← hL0] at HOX6 HOY6 hsm ⊢
                  clear hL0
                  obtain ⟨nl, hnl⟩ : ∃ nl, nl = L.length := ⟨_, rfl⟩
                  rw [← hnl] at HOX6 hsm ⊢
                  have HXL : Aside0 (∃ l : List Int, w8.ownsRow w'.heap.size 3 1 (.slice Ax nl cx) nl (nums .i64 l)) := ⟨⟨L, HOX6.out⟩⟩
                  clear hnl HOX6
                  go_wp2_with fail
                  go_loopw [23] (fun v23 wr => ∃ k : Nat, k ≤ nl ∧ v23 = .int .i64 k ∧ Aside0 (∃ l : List Int, wr.ownsRow w'.heap.size 3 1 (.slice Ax nl cx) nl (nums .i64 l)) ∧ Aside0 (wr.ownsRow wx.heap.size 3 1 vy L.length (nums .i64 L)) ∧ Aside0 (Below w'.heap.size w' wr)) (fun v23 _ => nl - (intOf v23).toNat)
                  case atStart => exact ⟨0, by omega, rfl, HXL, HOY6, HB8⟩
                  case round =>
                    clear HXL HOY6 HB8
                    obtain ⟨k, hk, rfl, hX, hY, hB8⟩ := hrel
                    by_cases hkl : k < nl
                    · obtain ⟨l, ho⟩ := hX.out
                      obtain ⟨g, cap', hfe, hgb, hgl⟩ := ho.form (by omega)
                      injection hfe with hfe1 _ hfe3
                      subst hfe1 hfe3
                      obtain ⟨hc, hf⟩ := own_at ho (k : Int) (by omega) (by omega)
                      rw [Int.toNat_natCast] at hc hf
                      have hput := (own_store ho (k : Int) (-1)).1
                      rw [Int.toNat_natCast] at hput
                      have HX2 : Aside0 (∃ l : List Int, (wr.setCell ⟨g, k, none⟩ (.int .i64 (-1))).ownsRow w'.heap.size 3 1 (.slice (some ⟨g, 0, none⟩) nl cx) nl (nums .i64 l)) := ⟨⟨_, hput⟩⟩
                      have hgx := HXB.out g rfl
                      have HY2 : Aside0 ((wr.setCell ⟨g, k, none⟩ (.int .i64 (-1))).ownsRow wx.heap.size 3 1 vy L.length (nums .i64 L)) := ⟨own_setCell hY.out (fun e => by have := own_base hY.out g e.symm; omega) _⟩
                      have HB9 : Aside0 (Below w'.heap.size w' (wr.setCell ⟨g, k, none⟩ (.int .i64 (-1)))) := ⟨hB8.out.setCell hgx.1 _⟩
                      generalize rd l (k : Int) = z at hc
                      clear ho hput hX hY hB8 hgx
                      go_wp2_with fail
                      go_roundw
                      case rel => exact ⟨k + 1, by omega, by go_num, HX2, HY2, HB9⟩
                      case measure => simp [intOf]; omega
                    · have HT9 := Aside0.mk (HT.out.later hB8.out)
                      have HY9 : Aside0 (wr.ownsRow wx.heap.size 3 1 vy (usL S).length (nums .i64 (usL S))) := ⟨by rw [← HLE.out]; exact hY.out⟩
                      have hk1 : (k : Int) = (nl : Int) := by omega
                      clear hX hY
                      go_wp2_with fail
                      refine (q_used _ _ _ _ _ _ HT9.out).mono ?_
                      rintro e wq ⟨vq2, rfl, hoq, hbq⟩
                      have HOY9 := Aside0.mk (own_mine HY9.out hbq)
                      have HOQ := Aside0.mk hoq
                      have HBq := Aside0.mk (hB8.out.trans (hbq.mono hB8.out.size))
                      clear hbq hoq HT9 hB8
                      go_wp2_with fail
                      refine (eq_any _ _ _ _ _ _ (Nat.lt_of_le_of_lt HSM.out (by decide)) HOY9.out HOQ.out).mono ?_
                      rintro e wz ⟨rfl, hd⟩
                      have HBZ := Aside0.mk (HBq.out.trans (hd.below.mono HBq.out.size))
                      have HTZ := Aside0.mk (HT.out.later HBZ.out)
                      have HBB := Aside0.mk (below_base HB.out HBZ.out (Nat.le_refl _))
                      clear hd HOY9 HOQ HBq HBZ
                      go_wp2_with fail
                      go_roundw
                      case rel => exact ⟨i + 1, S, by omega, by go_num, HTZ, HBB⟩
                      case measure => simp [intOf]; omega
            · have hx2 : ¬ i < len ∨ (i < len ∧ ¬ i < 200) := by omega
              clear hlt2
              rcases hx2 with hx2 | ⟨hx2, hx3⟩
              · go_wp2_with fail
                refine (p_free _ _ _ _ _ _ hH.out).mono ?_
                rintro e w5 ⟨rfl, hb5⟩
                have HB5 := Aside0.mk (below_base hB.out hb5 (Nat.le_refl _))
                have HT5 := Aside0.mk (hH.out.later hb5)
                clear hb5 hB
                go_wp2_with fail
                refine (q_free _ _ _ _ _ _ HT5.out).mono ?_
                rintro e w6 ⟨rfl, hb6⟩
                have HB6 := Aside0.mk (below_base HB5.out hb6 (Nat.le_refl _))
                have HT6 := Aside0.mk (HT5.out.later hb6)
                clear hb6 HB5 HT5
                go_wp2_with fail
                refine (p_used _ _ _ _ _ _ HT6.out).mono ?_
                rintro e wx ⟨vx, rfl, hox, hbx⟩
                have HBX := Aside0.mk (below_base HB6.out hbx (Nat.le_refl _))
                have HTX := Aside0.mk (HT6.out.later hbx)
                have HOX := Aside0.mk hox
                clear hbx hox HB6 HT6
                go_wp2_with fail
                refine (q_used _ _ _ _ _ _ HTX.out).mono ?_
                rintro e wy ⟨vy, rfl, hoy, hby⟩
                have HOY := Aside0.mk hoy
                have HOX2 := Aside0.mk (own_mine HOX.out hby)
                have HBY := Aside0.mk (below_base HBX.out hby (Nat.le_refl _))
                clear hoy hby HBX HTX HOX
                go_wp2_with fail
                refine (eq_any _ _ _ _ _ _ (Nat.lt_of_le_of_lt (usL_small hH.out) (by decide)) HOX2.out HOY.out).mono ?_
                rintro e wz ⟨rfl, hd⟩
                have HBZ := Aside0.mk (below_base HBY.out hd.below (Nat.le_refl _))
                clear hd HOX2 HOY HBY
                go_wp2_with fail
                refine (works_yes _ (HTB.out.later HBZ.out)).mono ?_
                rintro e wk ⟨rfl, hbk⟩
                have HBK := Aside0.mk (below_base HBZ.out hbk (Nat.le_refl _))
                clear hbk HBZ
                go_wp2_with fail
                go_ret
                exact ⟨rfl, HBK.out⟩
              · go_wp2_with fail
                refine (p_free _ _ _ _ _ _ hH.out).mono ?_
                rintro e w5 ⟨rfl, hb5⟩
                have HB5 := Aside0.mk (below_base hB.out hb5 (Nat.le_refl _))
                have HT5 := Aside0.mk (hH.out.later hb5)
                clear hb5 hB
                go_wp2_with fail
                refine (q_free _ _ _ _ _ _ HT5.out).mono ?_
                rintro e w6 ⟨rfl, hb6⟩
                have HB6 := Aside0.mk (below_base HB5.out hb6 (Nat.le_refl _))
                have HT6 := Aside0.mk (HT5.out.later hb6)
                clear hb6 HB5 HT5
                go_wp2_with fail
                refine (p_used _ _ _ _ _ _ HT6.out).mono ?_
                rintro e wx ⟨vx, rfl, hox, hbx⟩
                have HBX := Aside0.mk (below_base HB6.out hbx (Nat.le_refl _))
                have HTX := Aside0.mk (HT6.out.later hbx)
                have HOX := Aside0.mk hox
                clear hbx hox HB6 HT6
                go_wp2_with fail
                refine (q_used _ _ _ _ _ _ HTX.out).mono ?_
                rintro e wy ⟨vy, rfl, hoy, hby⟩
                have HOY := Aside0.mk hoy
                have HOX2 := Aside0.mk (own_mine HOX.out hby)
                have HBY := Aside0.mk (below_base HBX.out hby (Nat.le_refl _))
                clear hoy hby HBX HTX HOX
                go_wp2_with fail
                refine (eq_any _ _ _ _ _ _ (Nat.lt_of_le_of_lt (usL_small hH.out) (by decide)) HOX2.out HOY.out).mono ?_
                rintro e wz ⟨rfl, hd⟩
                have HBZ := Aside0.mk (below_base HBY.out hd.below (Nat.le_refl _))
                clear hd HOX2 HOY HBY
                go_wp2_with fail
                refine (works_yes _ (HTB.out.later HBZ.out)).mono ?_
                rintro e wk ⟨rfl, hbk⟩
                have HBK := Aside0.mk (below_base HBZ.out hbk (Nat.le_refl _))
                clear hbk HBZ
                go_wp2_with fail
                go_ret
                exact ⟨rfl, HBK.out⟩
        · go_wp2_with fail
          go_loopw [16] (fun v16 wr => ∃ (i : Nat) (S : Option (List Bool)), i ≤ 200 ∧ v16 = .int .i64 i ∧ Aside0 (Two wr w.heap.size (.pointer none) (.pointer none) S S) ∧ Aside0 (Below w.heap.size w wr)) (fun v16 _ => 200 - (intOf v16).toNat)
          case atStart => exact ⟨0, S, by omega, rfl, hH, hB⟩
          case round =>
            clear hH hB
            obtain ⟨i, S, hi, rfl, hH, hB⟩ := hrel
            by_cases hlt2 : i < len ∧ i < 200
            · obtain ⟨h1, h2⟩ := hlt2
              obtain ⟨ad, x0, x1, rfl, q0, q1⟩ := HRow.out i h1
              rw [Nat.add_zero] at q0
              rw [add_field ad (i * 2) 1 (by decide)] at q1
              have Q1 := Aside0.mk q1
              replace q0 := pw_cell_below hB.out q0
              replace q1 := pw_cell_below hB.out q1
              cases x0
              · go_wp2_with fail
                refine (p_take _ _ _ _ _ _ hH.out).mono ?_
                rintro e w3 ⟨rfl, hH3, hb3⟩
                have HH3 := Aside0.mk hH3
                have HB3 := Aside0.mk (hB.out.trans hb3)
                clear hH3 hb3 hH hB q0 q1
                go_wp2_with fail
                refine (q_take _ _ _ _ _ _ HH3.out).mono ?_
                rintro e w4 ⟨rfl, hH4, hb4⟩
                have HT := Aside0.mk hH4
                have HB := Aside0.mk (HB3.out.trans hb4)
                clear hH4 hb4 HH3 HB3
                generalize tkA S = ra
                generalize tkB S = rb
                generalize tkS S = S' at HT
                clear S
                rename Option (List Bool) => S
                go_wp2_with fail
                refine (p_used _ _ _ _ _ _ HT.out).mono ?_
                rintro e wx ⟨vx, rfl, hox, hbx⟩
                have HBX := Aside0.mk hbx
                have HTX := Aside0.mk (HT.out.later hbx)
                have HOX := Aside0.mk hox
                clear hbx hox
                go_wp2_with fail
                refine (p_used _ _ _ _ _ _ HTX.out).mono ?_
                rintro e wy ⟨vy, rfl, hoy, hby⟩
                have HOY := Aside0.mk hoy
                have HOX2 := Aside0.mk (own_mine HOX.out hby)
                have HXB : Aside0 (∀ g, vx.ownBlock = some g → w4.heap.size ≤ g ∧ g < wx.heap.size) := ⟨fun g hg => ⟨own_base HOX.out g hg, own_lt HOX.out g hg⟩⟩
                have HBY := Aside0.mk (HBX.out.trans (hby.mono HBX.out.size))
                have HTY := Aside0.mk (HTX.out.later hby)
                clear hoy hby HBX HTX HOX
                go_wp2_with fail
                refine (p_free _ _ _ _ _ _ HTY.out).mono ?_
                rintro e w5 ⟨rfl, hb5⟩
                have HOX3 := Aside0.mk (own_mine HOX2.out hb5)
                have HOY3 := Aside0.mk (own_mine HOY.out hb5)
                have HB5 := Aside0.mk (HBY.out.trans (hb5.mono HBY.out.size))
                have HT5 := Aside0.mk (HTY.out.later hb5)
                clear hb5 HOX2 HOY HBY HTY
                go_wp2_with fail
                refine (q_free _ _ _ _ _ _ HT5.out).mono ?_
                rintro e w6 ⟨rfl, hb6⟩
                have HOX4 := Aside0.mk (own_mine HOX3.out hb6)
                have HOY4 := Aside0.mk (own_mine HOY3.out hb6)
                have HB6 := Aside0.mk (HB5.out.trans (hb6.mono HB5.out.size))
                have HT6 := Aside0.mk (HT5.out.later hb6)
                clear hb6 HOX3 HOY3 HB5 HT5
                go_wp2_with fail
                refine (q_used _ _ _ _ _ _ HT6.out).mono ?_
                rintro e w7 ⟨vr, rfl, hor, hb7⟩
                have HOX5 := Aside0.mk (own_mine HOX4.out hb7)
                have HOY5 := Aside0.mk (own_mine HOY4.out hb7)
                have HOR := Aside0.mk hor
                have HB7 := Aside0.mk (HB6.out.trans (hb7.mono HB6.out.size))
                clear hb7 hor HOX4 HOY4 HB6 HT6
                go_wp2_with fail
                refine (eq_any _ _ _ _ _ _ (Nat.lt_of_le_of_lt (usL_small HT.out) (by decide)) HOX5.out HOR.out).mono ?_
                rintro e w8 ⟨rfl, hd⟩
                have HOX6 := Aside0.mk (own_mine HOX5.out hd.below)
                have HOY6 := Aside0.mk (own_mine HOY5.out hd.below)
                have HB8 := Aside0.mk (HB7.out.trans (hd.below.mono HB7.out.size))
                clear hd HOX5 HOY5 HB7 HOR
                obtain ⟨Ax, cx, hvx⟩ := own_slice HOX6.out
                subst hvx
                have hsm := usL_small HT.out
                have HSM := Aside0.mk hsm
                obtain ⟨L, hL0⟩ : ∃ L, L = usL S := ⟨_, rfl⟩
                have HLE := Aside0.mk hL0
                rw [← hL0] at HOX6 HOY6 hsm ⊢
                clear hL0
                obtain ⟨nl, hnl⟩ : ∃ nl, nl = L.length := ⟨_, rfl⟩
                rw [← hnl] at HOX6 hsm ⊢
                have HXL : Aside0 (∃ l : List Int, w8.ownsRow w4.heap.size 3 1 (.slice Ax nl cx) nl (nums .i64 l)) := ⟨⟨L, HOX6.out⟩⟩
                clear hnl HOX6
                go_wp2_with fail
                go_loopw [23] (fun v23 wr => ∃ k : Nat, k ≤ nl ∧ v23 = .int .i64 k ∧ Aside0 (∃ l : List Int, wr.ownsRow w4.heap.size 3 1 (.slice Ax nl cx) nl (nums .i64 l)) ∧ Aside0 (wr.ownsRow wx.heap.size 3 1 vy L.length (nums .i64 L)) ∧ Aside0 (Below w4.heap.size w4 wr)) (fun v23 _ => nl - (intOf v23).toNat)
                case atStart => exact ⟨0, by omega, rfl, HXL, HOY6, HB8⟩
                case round =>
                  clear HXL HOY6 HB8
                  obtain ⟨k, hk, rfl, hX, hY, hB8⟩ := hrel
                  by_cases hkl : k < nl
                  · obtain ⟨l, ho⟩ := hX.out
                    obtain ⟨g, cap', hfe, hgb, hgl⟩ := ho.form (by omega)
                    injection hfe with hfe1 _ hfe3
                    subst hfe1 hfe3
                    obtain ⟨hc, hf⟩ := own_at ho (k : Int) (by omega) (by omega)
                    rw [Int.toNat_natCast] at hc hf
                    have hput := (own_store ho (k : Int) (-1)).1
                    rw [Int.toNat_natCast] at hput
                    have HX2 : Aside0 (∃ l : List Int, (wr.setCell ⟨g, k, none⟩ (.int .i64 (-1))).ownsRow w4.heap.size 3 1 (.slice (some ⟨g, 0, none⟩) nl cx) nl (nums .i64 l)) := ⟨⟨_, hput⟩⟩
                    have hgx := HXB.out g rfl
                    have HY2 : Aside0 ((wr.setCell ⟨g, k, none⟩ (.int .i64 (-1))).ownsRow wx.heap.size 3 1 vy L.length (nums .i64 L)) := ⟨own_setCell hY.out (fun e => by have := own_base hY.out g e.symm; omega) _⟩
                    have HB9 : Aside0 (Below w4.heap.size w4 (wr.setCell ⟨g, k, none⟩ (.int .i64 (-1)))) := ⟨hB8.out.setCell hgx.1 _⟩
                    generalize rd l (k : Int) = z at hc
                    clear ho hput hX hY hB8 hgx
                    go_wp2_with fail
                    go_roundw
                    case rel => exact ⟨k + 1, by omega, by go_num, HX2, HY2, HB9⟩
                    case measure => simp [intOf]; omega
                  · have HT9 := Aside0.mk (HT.out.later hB8.out)
                    have HY9 : Aside0 (wr.ownsRow wx.heap.size 3 1 vy (usL S).length (nums .i64 (usL S))) := ⟨by rw [← HLE.out]; exact hY.out⟩
                    have hk1 : (k : Int) = (nl : Int) := by omega
                    clear hX hY
                    go_wp2_with fail
                    refine (q_used _ _ _ _ _ _ HT9.out).mono ?_
                    rintro e wq ⟨vq2, rfl, hoq, hbq⟩
                    have HOY9 := Aside0.mk (own_mine HY9.out hbq)
                    have HOQ := Aside0.mk hoq
                    have HBq := Aside0.mk (hB8.out.trans (hbq.mono hB8.out.size))
                    clear hbq hoq HT9 hB8
                    go_wp2_with fail
                    refine (eq_any _ _ _ _ _ _ (Nat.lt_of_le_of_lt HSM.out (by decide)) HOY9.out HOQ.out).mono ?_
                    rintro e wz ⟨rfl, hd⟩
                    have HBZ := Aside0.mk (HBq.out.trans (hd.below.mono HBq.out.size))
                    have HTZ := Aside0.mk (HT.out.later HBZ.out)
                    have HBB := Aside0.mk (below_base HB.out HBZ.out (Nat.le_refl _))
                    clear hd HOY9 HOQ HBq HBZ
                    go_wp2_with fail
                    go_roundw
                    case rel => exact ⟨i + 1, S, by omega, by go_num, HTZ, HBB⟩
                    case measure => simp [intOf]; omega
              · go_wp2_with fail
                go_region_with (first
                  | (go_at_call 10; first
                      | (refine (p_give _ w.heap.size (.pointer none) (.pointer none) S S x1 (by first | exact hH.out | exact hH.out.drew)).mono ?_; rintro e w' ⟨rfl, hT, hb⟩; have HG := Aside0.mk hT; have HBG : Aside0 (Below w.heap.size w w') := ⟨by first | exact hB.out.trans hb | exact (below_drew hB.out).trans hb⟩; have q1 := pw_cell_below HBG.out Q1.out; clear hT hb)
                      | (refine (p_give _ w.heap.size (.pointer none) (.pointer none) S (gvS x1 S) x1 (by first | exact HG.out | exact HG.out.drew)).mono ?_; rintro e w' ⟨rfl, hT, hb⟩; have HG2 := Aside0.mk hT; have HBG2 : Aside0 (Below w.heap.size w w') := ⟨by first | exact HBG.out.trans hb | exact (below_drew HBG.out).trans hb⟩; clear hT hb))
                  | (go_at_call 11; first
                      | (refine (q_give _ w.heap.size (.pointer none) (.pointer none) S S x1 (by first | exact hH.out | exact hH.out.drew)).mono ?_; rintro e w' ⟨rfl, hT, hb⟩; have HG := Aside0.mk hT; have HBG : Aside0 (Below w.heap.size w w') := ⟨by first | exact hB.out.trans hb | exact (below_drew hB.out).trans hb⟩; have q1 := pw_cell_below HBG.out Q1.out; clear hT hb)
                      | (refine (q_give _ w.heap.size (.pointer none) (.pointer none) (gvS x1 S) S x1 (by first | exact HG.out | exact HG.out.drew)).mono ?_; rintro e w' ⟨rfl, hT, hb⟩; have HG2 := Aside0.mk hT; have HBG2 : Aside0 (Below w.heap.size w w') := ⟨by first | exact HBG.out.trans hb | exact (below_drew HBG.out).trans hb⟩; clear hT hb)))
                all_goals
                  have HT := HG2
                  have HB := HBG2
                  clear HG HBG HG2 HBG2 hH hB Q1 q0 q1
                  generalize gvB x1 S = ra
                  generalize gvS x1 S = S' at HT
                  clear S
                  rename Option (List Bool) => S
                  go_wp2_with fail
                  refine (p_used _ _ _ _ _ _ HT.out).mono ?_
                  rintro e wx ⟨vx, rfl, hox, hbx⟩
                  have HBX := Aside0.mk hbx
                  have HTX := Aside0.mk (HT.out.later hbx)
                  have HOX := Aside0.mk hox
                  clear hbx hox
                  go_wp2_with fail
                  refine (p_used _ _ _ _ _ _ HTX.out).mono ?_
                  rintro e wy ⟨vy, rfl, hoy, hby⟩
                  have HOY := Aside0.mk hoy
                  have HOX2 := Aside0.mk (own_mine HOX.out hby)
                  have HXB : Aside0 (∀ g, vx.ownBlock = some g → w'.heap.size ≤ g ∧ g < wx.heap.size) := ⟨fun g hg => ⟨own_base HOX.out g hg, own_lt HOX.out g hg⟩⟩
                  have HBY := Aside0.mk (HBX.out.trans (hby.mono HBX.out.size))
                  have HTY := Aside0.mk (HTX.out.later hby)
                  clear hoy hby HBX HTX HOX
                  go_wp2_with fail
                  refine (p_free _ _ _ _ _ _ HTY.out).mono ?_
                  rintro e w5 ⟨rfl, hb5⟩
                  have HOX3 := Aside0.mk (own_mine HOX2.out hb5)
                  have HOY3 := Aside0.mk (own_mine HOY.out hb5)
                  have HB5 := Aside0.mk (HBY.out.trans (hb5.mono HBY.out.size))
                  have HT5 := Aside0.mk (HTY.out.later hb5)
                  clear hb5 HOX2 HOY HBY HTY
                  go_wp2_with fail
                  refine (q_free _ _ _ _ _ _ HT5.out).mono ?_
                  rintro e w6 ⟨rfl, hb6⟩
                  have HOX4 := Aside0.mk (own_mine HOX3.out hb6)
                  have HOY4 := Aside0.mk (own_mine HOY3.out hb6)
                  have HB6 := Aside0.mk (HB5.out.trans (hb6.mono HB5.out.size))
                  have HT6 := Aside0.mk (HT5.out.later hb6)
                  clear hb6 HOX3 HOY3 HB5 HT5
                  go_wp2_with fail
                  refine (q_used _ _ _ _ _ _ HT6.out).mono ?_
                  rintro e w7 ⟨vr, rfl, hor, hb7⟩
                  have HOX5 := Aside0.mk (own_mine HOX4.out hb7)
                  have HOY5 := Aside0.mk (own_mine HOY4.out hb7)
                  have HOR := Aside0.mk hor
                  have HB7 := Aside0.mk (HB6.out.trans (hb7.mono HB6.out.size))
                  clear hb7 hor HOX4 HOY4 HB6 HT6
                  go_wp2_with fail
                  refine (eq_any _ _ _ _ _ _ (Nat.lt_of_le_of_lt (usL_small HT.out) (by decide)) HOX5.out HOR.out).mono ?_
                  rintro e w8 ⟨rfl, hd⟩
                  have HOX6 := Aside0.mk (own_mine HOX5.out hd.below)
                  have HOY6 := Aside0.mk (own_mine HOY5.out hd.below)
                  have HB8 := Aside0.mk (HB7.out.trans (hd.below.mono HB7.out.size))
                  clear hd HOX5 HOY5 HB7 HOR
                  obtain ⟨Ax, cx, hvx⟩ := own_slice HOX6.out
                  subst hvx
                  have hsm := usL_small HT.out
                  have HSM := Aside0.mk hsm
                  obtain ⟨L, hL0⟩ : ∃ L, L = usL S := ⟨_, rfl⟩
                  have HLE := Aside0.mk hL0
                  rw [← hL0] at HOX6 HOY6 hsm ⊢
                  clear hL0
                  obtain ⟨nl, hnl⟩ : ∃ nl, nl = L.length := ⟨_, rfl⟩
                  rw [← hnl] at HOX6 hsm ⊢
                  have HXL : Aside0 (∃ l : List Int, w8.ownsRow w'.heap.size 3 1 (.slice Ax nl cx) nl (nums .i64 l)) := ⟨⟨L, HOX6.out⟩⟩
                  clear hnl HOX6
                  go_wp2_with fail
                  go_loopw [23] (fun v23 wr => ∃ k : Nat, k ≤ nl ∧ v23 = .int .i64 k ∧ Aside0 (∃ l : List Int, wr.ownsRow w'.heap.size 3 1 (.slice Ax nl cx) nl (nums .i64 l)) ∧ Aside0 (wr.ownsRow wx.heap.size 3 1 vy L.length (nums .i64 L)) ∧ Aside0 (Below w'.heap.size w' wr)) (fun v23 _ => nl - (intOf v23).toNat)
                  case atStart => exact ⟨0, by omega, rfl, HXL, HOY6, HB8⟩
                  case round =>
                    clear HXL HOY6 HB8
                    obtain ⟨k, hk, rfl, hX, hY, hB8⟩ := hrel
                    by_cases hkl : k < nl
                    · obtain ⟨l, ho⟩ := hX.out
                      obtain ⟨g, cap', hfe, hgb, hgl⟩ := ho.form (by omega)
                      injection hfe with hfe1 _ hfe3
                      subst hfe1 hfe3
                      obtain ⟨hc, hf⟩ := own_at ho (k : Int) (by omega) (by omega)
                      rw [Int.toNat_natCast] at hc hf
                      have hput := (own_store ho (k : Int) (-1)).1
                      rw [Int.toNat_natCast] at hput
                      have HX2 : Aside0 (∃ l : List Int, (wr.setCell ⟨g, k, none⟩ (.int .i64 (-1))).ownsRow w'.heap.size 3 1 (.slice (some ⟨g, 0, none⟩) nl cx) nl (nums .i64 l)) := ⟨⟨_, hput⟩⟩
                      have hgx := HXB.out g rfl
                      have HY2 : Aside0 ((wr.setCell ⟨g, k, none⟩ (.int .i64 (-1))).ownsRow wx.heap.size 3 1 vy L.length (nums .i64 L)) := ⟨own_setCell hY.out (fun e => by have := own_base hY.out g e.symm; omega) _⟩
                      have HB9 : Aside0 (Below w'.heap.size w' (wr.setCell ⟨g, k, none⟩ (.int .i64 (-1)))) := ⟨hB8.out.setCell hgx.1 _⟩
                      generalize rd l (k : Int) = z at hc
                      clear ho hput hX hY hB8 hgx
                      go_wp2_with fail
                      go_roundw
                      case rel => exact ⟨k + 1, by omega, by go_num, HX2, HY2, HB9⟩
                      case measure => simp [intOf]; omega
                    · have HT9 := Aside0.mk (HT.out.later hB8.out)
                      have HY9 : Aside0 (wr.ownsRow wx.heap.size 3 1 vy (usL S).length (nums .i64 (usL S))) := ⟨by rw [← HLE.out]; exact hY.out⟩
                      have hk1 : (k : Int) = (nl : Int) := by omega
                      clear hX hY
                      go_wp2_with fail
                      refine (q_used _ _ _ _ _ _ HT9.out).mono ?_
                      rintro e wq ⟨vq2, rfl, hoq, hbq⟩
                      have HOY9 := Aside0.mk (own_mine HY9.out hbq)
                      have HOQ := Aside0.mk hoq
                      have HBq := Aside0.mk (hB8.out.trans (hbq.mono hB8.out.size))
                      clear hbq hoq HT9 hB8
                      go_wp2_with fail
                      refine (eq_any _ _ _ _ _ _ (Nat.lt_of_le_of_lt HSM.out (by decide)) HOY9.out HOQ.out).mono ?_
                      rintro e wz ⟨rfl, hd⟩
                      have HBZ := Aside0.mk (HBq.out.trans (hd.below.mono HBq.out.size))
                      have HTZ := Aside0.mk (HT.out.later HBZ.out)
                      have HBB := Aside0.mk (below_base HB.out HBZ.out (Nat.le_refl _))
                      clear hd HOY9 HOQ HBq HBZ
                      go_wp2_with fail
                      go_roundw
                      case rel => exact ⟨i + 1, S, by omega, by go_num, HTZ, HBB⟩
                      case measure => simp [intOf]; omega
            · have hx2 : ¬ i < len ∨ (i < len ∧ ¬ i < 200) := by omega
              clear hlt2
              rcases hx2 with hx2 | ⟨hx2, hx3⟩
              · go_wp2_with fail
                refine (p_free _ _ _ _ _ _ hH.out).mono ?_
                rintro e w5 ⟨rfl, hb5⟩
                have HB5 := Aside0.mk (below_base hB.out hb5 (Nat.le_refl _))
                have HT5 := Aside0.mk (hH.out.later hb5)
                clear hb5 hB
                go_wp2_with fail
                refine (q_free _ _ _ _ _ _ HT5.out).mono ?_
                rintro e w6 ⟨rfl, hb6⟩
                have HB6 := Aside0.mk (below_base HB5.out hb6 (Nat.le_refl _))
                have HT6 := Aside0.mk (HT5.out.later hb6)
                clear hb6 HB5 HT5
                go_wp2_with fail
                refine (p_used _ _ _ _ _ _ HT6.out).mono ?_
                rintro e wx ⟨vx, rfl, hox, hbx⟩
                have HBX := Aside0.mk (below_base HB6.out hbx (Nat.le_refl _))
                have HTX := Aside0.mk (HT6.out.later hbx)
                have HOX := Aside0.mk hox
                clear hbx hox HB6 HT6
                go_wp2_with fail
                refine (q_used _ _ _ _ _ _ HTX.out).mono ?_
                rintro e wy ⟨vy, rfl, hoy, hby⟩
                have HOY := Aside0.mk hoy
                have HOX2 := Aside0.mk (own_mine HOX.out hby)
                have HBY := Aside0.mk (below_base HBX.out hby (Nat.le_refl _))
                clear hoy hby HBX HTX HOX
                go_wp2_with fail
                refine (eq_any _ _ _ _ _ _ (Nat.lt_of_le_of_lt (usL_small hH.out) (by decide)) HOX2.out HOY.out).mono ?_
                rintro e wz ⟨rfl, hd⟩
                have HBZ := Aside0.mk (below_base HBY.out hd.below (Nat.le_refl _))
                clear hd HOX2 HOY HBY
                go_wp2_with fail
                refine (works_yes _ (HTB.out.later HBZ.out)).mono ?_
                rintro e wk ⟨rfl, hbk⟩
                have HBK := Aside0.mk (below_base HBZ.out hbk (Nat.le_refl _))
                clear hbk HBZ
                go_wp2_with fail
                go_ret
                exact ⟨rfl, HBK.out⟩
              · go_wp2_with fail
                refine (p_free _ _ _ _ _ _ hH.out).mono ?_
                rintro e w5 ⟨rfl, hb5⟩
                have HB5 := Aside0.mk (below_base hB.out hb5 (Nat.le_refl _))
                have HT5 := Aside0.mk (hH.out.later hb5)
                clear hb5 hB
                go_wp2_with fail
                refine (q_free _ _ _ _ _ _ HT5.out).mono ?_
                rintro e w6 ⟨rfl, hb6⟩
                have HB6 := Aside0.mk (below_base HB5.out hb6 (Nat.le_refl _))
                have HT6 := Aside0.mk (HT5.out.later hb6)
                clear hb6 HB5 HT5
                go_wp2_with fail
                refine (p_used _ _ _ _ _ _ HT6.out).mono ?_
                rintro e wx ⟨vx, rfl, hox, hbx⟩
                have HBX := Aside0.mk (below_base HB6.out hbx (Nat.le_refl _))
                have HTX := Aside0.mk (HT6.out.later hbx)
                have HOX := Aside0.mk hox
                clear hbx hox HB6 HT6
                go_wp2_with fail
                refine (q_used _ _ _ _ _ _ HTX.out).mono ?_
                rintro e wy ⟨vy, rfl, hoy, hby⟩
                have HOY := Aside0.mk hoy
                have HOX2 := Aside0.mk (own_mine HOX.out hby)
                have HBY := Aside0.mk (below_base HBX.out hby (Nat.le_refl _))
                clear hoy hby HBX HTX HOX
                go_wp2_with fail
                refine (eq_any _ _ _ _ _ _ (Nat.lt_of_le_of_lt (usL_small hH.out) (by decide)) HOX2.out HOY.out).mono ?_
                rintro e wz ⟨rfl, hd⟩
                have HBZ := Aside0.mk (below_base HBY.out hd.below (Nat.le_refl _))
                clear hd HOX2 HOY HBY
                go_wp2_with fail
                refine (works_yes _ (HTB.out.later HBZ.out)).mono ?_
                rintro e wk ⟨rfl, hbk⟩
                have HBK := Aside0.mk (below_base HBZ.out hbk (Nat.le_refl _))
                clear hbk HBZ
                go_wp2_with fail
                go_ret
                exact ⟨rfl, HBK.out⟩
end Go.Proofs.YtlfgkdgjekbkgaaDoor.H
