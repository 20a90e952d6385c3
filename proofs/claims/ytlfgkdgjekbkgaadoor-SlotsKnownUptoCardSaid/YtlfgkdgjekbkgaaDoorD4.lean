/- The law SlotsKnown by its contracts. -/
import Derived.Test.YtlfgkdgjekbkgaaDoorD3
namespace Go.Proofs.YtlfgkdgjekbkgaaDoor.H
open Go.RowKit Go.Proofs.YtlfgkdgjekbkgaaDoorW.PrintWords Go.Proofs.YtlfgkdgjekbkgaaDoorW.PrintLast Go.Proofs.YtlfgkdgjekbkgaaDoorW.PrintMore
set_option linter.unusedVariables false
set_option linter.unusedSimpArgs false
set_option maxHeartbeats 8000000
set_option maxRecDepth 100000
/-- The great area when i slots are taken. -/
def Tk (i : Nat) : List Bool := List.replicate i true ++ List.replicate (1024 - i) false
theorem Tk_len (i : Nat) (h : i ≤ 1024) : (Tk i).length = 1024 := by simp [Tk]; omega
theorem Tk_bt (i k : Nat) (h : i ≤ 1024) : bt (Tk i) k = decide (k < i) := by
  unfold bt Tk
  by_cases h1 : k < i
  · simp [List.getElem?_append, h1]
  · by_cases h2 : k < 1024
    · simp [List.getElem?_append, h1, List.getElem?_replicate]
      split <;> rfl
    · simp [List.getElem?_append, h1, List.getElem?_replicate]
      split <;> rfl
theorem Tk_fr (i : Nat) (h : i < 1024) : fr (Tk i) = i := by
  have := fr_is (Tk i) i (fun k hk => by rw [Tk_bt i k (by omega)]; simp [hk]) (by rw [Tk_bt i i (by omega)]; simp)
  rw [Tk_len i (by omega)] at this
  omega
theorem Tk_set (i : Nat) (h : i < 1024) : (Tk i).set i true = Tk (i + 1) := by
  apply List.ext_getElem?
  intro k
  have e1 := Tk_len i (by omega)
  have e2 := Tk_len (i + 1) (by omega)
  by_cases hk : k < 1024
  · have b1 := bt_set (Tk i) i k true (by omega)
    have b2 := Tk_bt (i + 1) k (by omega)
    rw [Tk_bt i k (by omega)] at b1
    have h1 : ((Tk i).set i true)[k]? = some (bt ((Tk i).set i true) k) := by
      unfold bt
      rw [List.getD_eq_getElem?_getD, List.getElem?_eq_getElem (by rw [List.length_set]; omega)]
      rfl
    have h2 : (Tk (i + 1))[k]? = some (bt (Tk (i + 1)) k) := by
      unfold bt
      rw [List.getD_eq_getElem?_getD, List.getElem?_eq_getElem (by omega)]
      rfl
    rw [h1, h2, b1, b2]
    by_cases e : k = i
    · subst e; simp
    · simp only [if_neg e]
      congr 1
      rw [decide_eq_decide]
      omega
  · rw [List.getElem?_eq_none (by rw [List.length_set]; omega), List.getElem?_eq_none (by omega)]
theorem Tk_zero : List.replicate 1024 false = Tk 0 := rfl
theorem Tk_full : fr (Tk 1024) = (Tk 1024).length := by
  have := fr_is (Tk 1024) 1024 (fun k hk => by rw [Tk_bt 1024 k (by omega)]; simp [hk]) (by rw [Tk_bt 1024 1024 (by omega)]; simp)
  rw [Tk_len 1024 (by omega)] at this ⊢
  simpa using this
theorem Tk_cnt : (U (Tk 1024) (Tk 1024).length).length = 1024 := by rw [cnt_full _ Tk_full, Tk_len 1024 (by omega)]
/-- No area: nil, or a box that New did not make. -/
def NV (w : World) (v : Value) : Prop := v = .pointer none ∨ ∃ c, v = .pointer (some ⟨c, 0, none⟩) ∧ Bl w c 46 #[.int .i64 0, .slice none 0 0]
theorem NV.later {w w' : World} {v : Value} (h : NV w v) (hb : Below w.heap.size w w') : NV w' v := by
  rcases h with h | ⟨c, h, hc⟩
  · exact .inl h
  · exact .inr ⟨c, h, hc.later hb⟩
theorem there_box (w : World) (c : Nat) (h : Bl w c 46 #[.int .i64 0, .slice none 0 0]) : Calls Tryd.prog 20 #[.pointer (some ⟨c, 0, none⟩)] w fun e w' => e = .returned (.bool false) ∧ Drawn0 w w' := by
  have hc1 : w.cell? ⟨c, 1, none⟩ = some (.slice none 0 0) := blk_cell h 1
  clear h
  go_enter Tryd.func20, Tryd.ntmps20
  go_wp2_with fail
  go_ret
  exact ⟨rfl, Drawn0.refl _⟩
theorem n_take (w : World) (v : Value) (h : NV w v) : Calls Tryd.prog 8 #[v] w fun e w' => e = .returned (.tuple #[.int .i64 0, .int .i64 1]) ∧ Drawn0 w w' := by
  rcases h with rfl | ⟨c, rfl, hc⟩
  · exact take_nil w
  · have HT := Aside0.mk (there_box w c hc)
    clear hc
    go_enter Tryd.func8, Tryd.ntmps8
    go_wp2_with fail
    refine HT.out.mono ?_
    rintro e w1 ⟨rfl, hd⟩
    go_wp2_with fail
    go_ret2
    exact ⟨rfl, hd⟩
theorem n_give (w : World) (v : Value) (s : Int) (h : NV w v) : Calls Tryd.prog 10 #[v, .int .i64 s] w fun e w' => e = .returned (.int .i64 1) ∧ Drawn0 w w' := by
  rcases h with rfl | ⟨c, rfl, hc⟩
  · exact give_nil w s
  · have HT := Aside0.mk (there_box w c hc)
    clear hc
    go_enter Tryd.func10, Tryd.ntmps10
    go_wp2_with fail
    refine HT.out.mono ?_
    rintro e w1 ⟨rfl, hd⟩
    go_wp2_with fail
    go_ret
    exact ⟨rfl, hd⟩
theorem n_used (w : World) (v : Value) (h : NV w v) : Calls Tryd.prog 12 #[v] w fun e w' => e = .returned (.slice none 0 0) ∧ Drawn0 w w' := by
  rcases h with rfl | ⟨c, rfl, hc⟩
  · exact used_nil w
  · have HT := Aside0.mk (there_box w c hc)
    clear hc
    go_enter Tryd.func12, Tryd.ntmps12
    go_wp2_with fail
    refine HT.out.mono ?_
    rintro e w1 ⟨rfl, hd⟩
    go_wp2_with fail
    go_ret
    exact ⟨rfl, hd⟩
theorem n_free (w : World) (v : Value) (h : NV w v) : Calls Tryd.prog 13 #[v] w fun e w' => e = .returned (.int .i64 0) ∧ Drawn0 w w' := by
  rcases h with rfl | ⟨c, rfl, hc⟩
  · exact free_nil w
  · have HT := Aside0.mk (there_box w c hc)
    clear hc
    go_enter Tryd.func13, Tryd.ntmps13
    go_wp2_with fail
    refine HT.out.mono ?_
    rintro e w1 ⟨rfl, hd⟩
    go_wp2_with fail
    go_ret
    exact ⟨rfl, hd⟩
theorem SP.low {w : World} {base base' c b : Nat} {T : List Bool} (h : SP w base c b T) (hb : base' ≤ base) (hp : 0 < base') : SP w base' c b T := ⟨h.hc, h.hb, h.tab, hp, Nat.le_trans hb h.bc, Nat.le_trans hb h.bb, h.small⟩
theorem known_c (w : World) (hTb : Tb w) : Calls Tryd.prog 5 #[] w fun e w' => e = .returned (.bool true) ∧ Below w.heap.size w w' := by
  have HT := Aside0.mk hTb
  clear hTb
  go_enter Tryd.func5, Tryd.ntmps5
  go_wp2_with fail
  refine (new_no (-1) _ (by decide)).mono ?_
  rintro e w1 ⟨rfl, hd⟩
  have HB := Aside0.mk hd.below
  clear hd
  go_wp2_with fail
  refine (new_no 1025 _ (by decide)).mono ?_
  rintro e w2 ⟨rfl, hd⟩
  have HB2 := Aside0.mk (below_base HB.out hd.below (Nat.le_refl _))
  clear hd HB
  go_wp2_with fail
  refine (new_ok 1024 _ (by decide) (HT.out.later HB2.out)).mono ?_
  rintro e w3 ⟨c, b, rfl, hs, hb⟩
  have HS := Aside0.mk (hs.low HB2.out.size HT.out.pos)
  have HB3 := Aside0.mk (below_base HB2.out hb (Nat.le_refl _))
  rw [Tk_zero] at HS
  clear hs hb HB2
  go_wp2_with fail
  go_loopw [7] (fun v7 wr => ∃ i : Nat, i ≤ 1024 ∧ v7 = .int .i64 i ∧ Aside0 (SP wr w.heap.size c b (Tk i)) ∧ Aside0 (Below w.heap.size w wr)) (fun v7 _ => 1024 - (intOf v7).toNat)
  case atStart => exact ⟨0, by omega, rfl, HS, HB3⟩
  case round =>
    clear HS HB3
    obtain ⟨i, hi, rfl, hS, hB⟩ := hrel
    by_cases hlt : i < 1024
    · have HTk := Aside0.mk (take_at _ _ _ _ _ i hS.out (Tk_fr i hlt) (by rw [Tk_len i (by omega)]; exact hlt))
      rw [Tk_set i hlt] at HTk
      go_wp2_with fail
      refine HTk.out.mono ?_
      rintro e w4 ⟨rfl, hs, hb⟩
      have HS := Aside0.mk hs
      have HB := Aside0.mk (hB.out.trans hb)
      clear hs hb hS hB HTk
      go_wp2_with fail
      go_roundw
      case rel => exact ⟨i + 1, by omega, by go_num, HS, HB⟩
      case measure => simp [intOf]; omega
    · have hie : i = 1024 := by omega
      subst hie
      clear hi hlt
      go_wp2_with fail
      refine (take_full _ _ _ _ _ hS.out Tk_full).mono ?_
      rintro e w4 ⟨rfl, hs, hb⟩
      have HS := Aside0.mk hs
      have HB := Aside0.mk (hB.out.trans hb)
      clear hs hb hS hB
      go_wp2_with fail
      refine (free_any _ _ _ _ _ HS.out).mono ?_
      rintro e w5 ⟨rfl, hd⟩
      have HS5 := Aside0.mk (HS.out.later hd.below)
      have HB5 := Aside0.mk (below_base HB.out hd.below (Nat.le_refl _))
      clear hd HS HB
      have hfv : ((Tk 1024).length : Int) - ((U (Tk 1024) (Tk 1024).length).length : Int) = 0 := by rw [Tk_cnt, Tk_len 1024 (by omega)]; rfl
      rw [hfv]
      clear hfv
      go_wp2_with fail
      refine (used_any _ _ _ _ _ HS5.out).mono ?_
      rintro e w6 ⟨v, rfl, ho, hb⟩
      have HS6 := Aside0.mk (HS5.out.later hb)
      have HB6 := Aside0.mk (below_base HB5.out hb (Nat.le_refl _))
      rw [Tk_cnt] at ho
      obtain ⟨Av, cv, hv⟩ := own_slice ho
      subst hv
      clear ho hb HS5 HB5
      go_wp2_with fail
      refine (give_at _ _ _ _ _ 1023 HS6.out (by rw [Tk_bt 1024 1023 (by omega)]; decide)).mono ?_
      rintro e w7 ⟨rfl, hs, hb⟩
      have HS7 := Aside0.mk hs
      have HB7 := Aside0.mk (HB6.out.trans hb)
      clear hs hb HS6 HB6
      go_wp2_with fail
      refine (give_no _ _ _ _ _ 1024 HS7.out (fun hh => by have := hh.2; rw [bt_off (by rw [List.length_set, Tk_len 1024 (by omega)]; decide)] at this; cases this)).mono ?_
      rintro e w8 ⟨rfl, hs, hb⟩
      have HB8 := Aside0.mk (HB7.out.trans hb)
      clear hs hb HS7 HB7
      go_wp2_with fail
      refine (new_ok 0 _ (by decide) (HT.out.later HB8.out)).mono ?_
      rintro e w9 ⟨ce, be, rfl, hs, hb⟩
      have HE := Aside0.mk (hs.low HB8.out.size HT.out.pos)
      have HB9 := Aside0.mk (below_base HB8.out hb (Nat.le_refl _))
      clear hs hb HB8
      go_wp2_with fail
      refine (take_full _ _ _ _ _ HE.out (by decide)).mono ?_
      rintro e wE ⟨rfl, hs, hb⟩
      have HEE := Aside0.mk hs
      have HBE := Aside0.mk (HB9.out.trans hb)
      clear hs hb HE HB9
      go_wp2_with fail
      refine (new_ok 3 _ (by decide) HEE.out.tab).mono ?_
      rintro e wa ⟨cs, bs, rfl, hs, hb⟩
      have HS := Aside0.mk hs
      have HB := Aside0.mk hb
      clear hs hb
      go_wp2_with fail
      refine (take_at _ _ _ _ _ 0 HS.out (by decide) (by decide)).mono ?_
      rintro e wa' ⟨rfl, hs, hb⟩
      replace HB := Aside0.mk (HB.out.trans hb)
      replace HS := Aside0.mk hs
      clear hs hb
      go_wp2_with fail
      refine (take_at _ _ _ _ _ 1 HS.out (by decide) (by decide)).mono ?_
      rintro e wa' ⟨rfl, hs, hb⟩
      replace HB := Aside0.mk (HB.out.trans hb)
      replace HS := Aside0.mk hs
      clear hs hb
      go_wp2_with fail
      refine (take_at _ _ _ _ _ 2 HS.out (by decide) (by decide)).mono ?_
      rintro e wa' ⟨rfl, hs, hb⟩
      replace HB := Aside0.mk (HB.out.trans hb)
      replace HS := Aside0.mk hs
      clear hs hb
      go_wp2_with fail
      refine (give_at _ _ _ _ _ 1 HS.out (by decide)).mono ?_
      rintro e wg ⟨rfl, hs, hb⟩
      replace HB := Aside0.mk (HB.out.trans hb)
      replace HS := Aside0.mk hs
      clear hs hb
      go_wp2_with fail
      refine (give_no _ _ _ _ _ 1 HS.out (by decide)).mono ?_
      rintro e wg ⟨rfl, hs, hb⟩
      replace HB := Aside0.mk (HB.out.trans hb)
      replace HS := Aside0.mk hs
      clear hs hb
      go_wp2_with fail
      refine (give_no _ _ _ _ _ 3 HS.out (by decide)).mono ?_
      rintro e wg ⟨rfl, hs, hb⟩
      replace HB := Aside0.mk (HB.out.trans hb)
      replace HS := Aside0.mk hs
      clear hs hb
      go_wp2_with fail
      refine (give_no _ _ _ _ _ (-1) HS.out (by decide)).mono ?_
      rintro e wg ⟨rfl, hs, hb⟩
      replace HB := Aside0.mk (HB.out.trans hb)
      replace HS := Aside0.mk hs
      clear hs hb
      go_wp2_with fail
      refine (used_any _ _ _ _ _ HS.out).mono ?_
      rintro e wu ⟨v, rfl, ho, hb⟩
      replace HB := Aside0.mk (below_base HB.out hb (Nat.le_refl _))
      replace HS := Aside0.mk (HS.out.later hb)
      have HO := Aside0.mk ho
      clear ho hb
      go_wp2_with fail
      have hO : wu.ownsRow wg.heap.size 3 1 v [(0 : Int), 2].length (nums .i64 [(0 : Int), 2]) := HO.out
      have hL : (wu.alloc (.cells #[.int .i64 0, .int .i64 2] 3)).ownsRow wu.heap.size 3 1 (.slice (some ⟨wu.heap.size, 0, none⟩) 2 2) [(0 : Int), 2].length (nums .i64 [(0 : Int), 2]) := own_lit wu wu.heap.size 3 .i64 [(0 : Int), 2] (Nat.le_refl _) (by decide)
      refine (eq_any _ _ _ _ _ [(0 : Int), 2] (by decide) (own_below hO (below_alloc (Below.refl _ _) _)) hL).mono ?_
      rintro e wq ⟨rfl, hd⟩
      replace HB := Aside0.mk (below_base (below_base HB.out (below_alloc (Below.refl _ _) (.cells #[.int .i64 0, .int .i64 2] 3)) (Nat.le_refl _)) hd.below (Nat.le_refl _))
      replace HS := Aside0.mk ((HS.out.later (below_alloc (Below.refl _ _) (.cells #[.int .i64 0, .int .i64 2] 3))).later hd.below)
      clear hd HO hO hL
      have hfv : (3 : Int) - ((U [true, false, true] 3).length : Int) = 1 := by decide
      go_wp2_with fail
      refine (free_any _ _ _ _ _ HS.out).mono ?_
      rintro e wf ⟨rfl, hd⟩
      replace HB := Aside0.mk (below_base HB.out hd.below (Nat.le_refl _))
      replace HS := Aside0.mk (HS.out.later hd.below)
      clear hd
      go_wp2_with fail
      refine (give_at _ _ _ _ _ 0 HS.out (by decide)).mono ?_
      rintro e wg ⟨rfl, hs, hb⟩
      replace HB := Aside0.mk (HB.out.trans hb)
      replace HS := Aside0.mk hs
      clear hs hb hfv
      go_wp2_with fail
      refine (take_at _ _ _ _ _ 0 HS.out (by decide) (by decide)).mono ?_
      rintro e wa' ⟨rfl, hs, hb⟩
      replace HB := Aside0.mk (HB.out.trans hb)
      replace HS := Aside0.mk hs
      clear hs hb
      go_wp2_with fail
      refine (take_at _ _ _ _ _ 1 HS.out (by decide) (by decide)).mono ?_
      rintro e wa' ⟨rfl, hs, hb⟩
      replace HB := Aside0.mk (HB.out.trans hb)
      replace HS := Aside0.mk hs
      clear hs hb
      clear HS
      go_wp2_with fail
      go_loopw [24, 25, 26] (fun v24 v25 v26 wr => ∃ k : Nat, k ≤ 2 ∧ v25 = .bool true ∧ v26 = .int .i64 k ∧ Aside0 (NV wr v24) ∧ Aside0 (Below wE.heap.size wE wr)) (fun _ _ v26 _ => 2 - (intOf v26).toNat)
      case atStart => exact ⟨0, by omega, rfl, rfl, ⟨.inl rfl⟩, HB⟩
      case round =>
        clear HB
        obtain ⟨k, hk, rfl, rfl, hN, hB⟩ := hrel
        by_cases hk2 : k < 2
        · go_wp2_with fail
          refine (n_take _ _ hN.out).mono ?_
          rintro e wb ⟨rfl, hd⟩
          have HN := Aside0.mk (hN.out.later hd.below)
          have HB := Aside0.mk (below_base hB.out hd.below (Nat.le_refl _))
          clear hd hN hB
          go_wp2_with fail
          refine (n_give _ _ 0 HN.out).mono ?_
          rintro e wb2 ⟨rfl, hd⟩
          have HN2 := Aside0.mk (HN.out.later hd.below)
          have HB2 := Aside0.mk (below_base HB.out hd.below (Nat.le_refl _))
          clear hd HN HB
          go_wp2_with fail
          refine (n_free _ _ HN2.out).mono ?_
          rintro e wb3 ⟨rfl, hd⟩
          have HN3 := Aside0.mk (HN2.out.later hd.below)
          have HB3 := Aside0.mk (below_base HB2.out hd.below (Nat.le_refl _))
          clear hd HN2 HB2
          go_wp2_with fail
          refine (n_used _ _ HN3.out).mono ?_
          rintro e wb4 ⟨rfl, hd⟩
          have HB4 := Aside0.mk (below_base HB3.out hd.below (Nat.le_refl _))
          have HB5 := Aside0.mk (below_base HB4.out (below_alloc (Below.refl _ _) (.cells #[.int .i64 0, .slice none 0 0] 46)) (Nat.le_refl _))
          have HN5 : Aside0 (NV (wb4.alloc (.cells #[.int .i64 0, .slice none 0 0] 46)) (.pointer (some ⟨wb4.heap.size, 0, none⟩))) := ⟨.inr ⟨_, rfl, heap_alloc_new _ _⟩⟩
          clear hd HN3 HB3 HB4
          go_wp2_with fail
          go_roundw
          case rel => exact ⟨k + 1, by omega, rfl, by go_num, HN5, HB5⟩
          case measure => simp [intOf]; omega
        · clear hN
          have hk3 : k = 2 := by omega
          subst hk3
          go_wp2_with fail
          refine (works_yes _ (HEE.out.tab.later hB.out)).mono ?_
          rintro e wk ⟨rfl, hb⟩
          have HB := Aside0.mk (below_base hB.out hb (Nat.le_refl _))
          clear hb hB
          have hfe : ((List.replicate 0 false).length : Int) - ((U (List.replicate 0 false) (List.replicate 0 false).length).length : Int) = 0 := by decide
          go_wp2_with fail
          refine (free_any _ _ _ _ _ (HEE.out.later HB.out)).mono ?_
          rintro e wz ⟨rfl, hd⟩
          have HBZ := Aside0.mk (below_base HBE.out (HB.out.trans (hd.below.mono HB.out.size)) (Nat.le_refl _))
          clear hd HB
          rw [hfe]
          clear hfe
          go_wp2_with fail
          go_ret
          exact ⟨rfl, HBZ.out⟩
end Go.Proofs.YtlfgkdgjekbkgaaDoor.H
