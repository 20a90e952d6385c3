/- The law CacheNames by its contracts. -/
import Derived.Test.YtcneepffhplpiaaD7
namespace Go.Proofs.Ytcneepffhplpiaa.H
open Go.RowKit Go.Proofs.YtcneepffhplpiaaW.PrintWords Go.Proofs.YtcneepffhplpiaaW.PrintLast Go.Proofs.YtcneepffhplpiaaW.PrintMore
set_option linter.unusedVariables false
set_option linter.unusedSimpArgs false
set_option maxHeartbeats 8000000
set_option maxRecDepth 100000
/-- A cache that is not there. -/
def Zr (w : World) (p : Value) : Prop := p = .pointer none ∨ ∃ g, p = .pointer (some ⟨g, 0, none⟩) ∧ Bl w g 58 #[nilV, .int .i64 0]
theorem Zr.later {w w' : World} {p : Value} (h : Zr w p) (hb : Below w.heap.size w w') : Zr w' p := by
  rcases h with rfl | ⟨g, rfl, h⟩
  · exact .inl rfl
  · exact .inr ⟨g, rfl, h.later hb⟩
theorem look_none (s t : Int) (p : Value) (w : World) (hz : Zr w p) : Calls Try.prog 22 #[p, .int .i64 s, .int .u64 t] w fun e w' => e = .returned (.tuple #[.int .i64 0, .int .i64 1]) ∧ Drawn0 w w' := by
  rcases hz with rfl | ⟨g, rfl, hb⟩
  · go_enter Try.func22, Try.ntmps22
    go_wp2_with fail
    go_ret2
    exact ⟨rfl, Drawn0.refl _⟩
  · have q0 : w.cell? ⟨g, 0, none⟩ = some nilV := blk_cell hb 0
    have q1 : w.cell? ⟨g, 1, none⟩ = some (.int .i64 0) := blk_cell hb 1
    unfold nilV at q0
    clear hb
    go_enter Try.func22, Try.ntmps22
    go_wp2_with fail
    go_ret2
    exact ⟨rfl, Drawn0.refl _⟩
theorem touch_none (s t : Int) (p : Value) (w : World) (hz : Zr w p) : Calls Try.prog 11 #[p, .int .i64 s, .int .u64 t] w fun e w' => e = .returned (.tuple #[.bool false, .int .i64 1]) ∧ Drawn0 w w' := by
  have HH := Aside0.mk (look_none s t p w hz)
  clear hz
  go_enter Try.func11, Try.ntmps11
  go_wp2_with fail
  refine HH.out.mono ?_
  rintro e w1 ⟨rfl, hd⟩
  go_wp2_with fail
  go_ret2
  exact ⟨rfl, hd⟩
theorem has_none (s t : Int) (p : Value) (w : World) (hz : Zr w p) : Calls Try.prog 19 #[p, .int .i64 s, .int .u64 t] w fun e w' => e = .returned (.tuple #[.bool false, .int .i64 1]) ∧ Drawn0 w w' := by
  have HH := Aside0.mk (look_none s t p w hz)
  clear hz
  go_enter Try.func19, Try.ntmps19
  go_wp2_with fail
  refine HH.out.mono ?_
  rintro e w1 ⟨rfl, hd⟩
  go_wp2_with fail
  go_ret2
  exact ⟨rfl, hd⟩
theorem flush_none (p : Value) (w : World) (hz : Zr w p) : Calls Try.prog 20 #[p] w fun e w' => e = .returned (.tuple #[.int .i64 0, .int .i64 1]) ∧ Drawn0 w w' := by
  rcases hz with rfl | ⟨g, rfl, hb⟩
  · go_enter Try.func20, Try.ntmps20
    go_wp2_with fail
    go_ret2
    exact ⟨rfl, Drawn0.refl _⟩
  · have q0 : w.cell? ⟨g, 0, none⟩ = some nilV := blk_cell hb 0
    have q1 : w.cell? ⟨g, 1, none⟩ = some (.int .i64 0) := blk_cell hb 1
    unfold nilV at q0
    clear hb
    go_enter Try.func20, Try.ntmps20
    go_wp2_with fail
    go_ret2
    exact ⟨rfl, Drawn0.refl _⟩
theorem count_none (p : Value) (w : World) (hz : Zr w p) : Calls Try.prog 21 #[p] w fun e w' => e = .returned (.int .i64 0) ∧ Drawn0 w w' := by
  rcases hz with rfl | ⟨g, rfl, hb⟩
  · go_enter Try.func21, Try.ntmps21
    go_wp2_with fail
    go_ret
    exact ⟨rfl, Drawn0.refl _⟩
  · have q0 : w.cell? ⟨g, 0, none⟩ = some nilV := blk_cell hb 0
    have q1 : w.cell? ⟨g, 1, none⟩ = some (.int .i64 0) := blk_cell hb 1
    unfold nilV at q0
    clear hb
    go_enter Try.func21, Try.ntmps21
    go_wp2_with fail
    go_loopw [3, 13] (fun v3 v wr => v3 = .int .i64 0 ∧ v = .int .i64 0 ∧ Aside0 (wr = w)) (fun _ _ _ => 0)
    case atStart => exact ⟨rfl, rfl, ⟨rfl⟩⟩
    case round =>
      obtain ⟨rfl, rfl, hw⟩ := hrel
      have hw := hw.out
      subst hw
      go_wp2_with fail
      go_ret
      exact ⟨rfl, Drawn0.refl _⟩
theorem lines_none (p : Value) (w : World) (hz : Zr w p) : Calls Try.prog 14 #[p] w fun e w' => e = .returned (.slice none 0 0) ∧ Drawn0 w w' := by
  rcases hz with rfl | ⟨g, rfl, hb⟩
  · go_enter Try.func14, Try.ntmps14
    go_wp2_with fail
    go_ret
    exact ⟨rfl, Drawn0.refl _⟩
  · have q0 : w.cell? ⟨g, 0, none⟩ = some nilV := blk_cell hb 0
    have q1 : w.cell? ⟨g, 1, none⟩ = some (.int .i64 0) := blk_cell hb 1
    unfold nilV at q0
    clear hb
    go_enter Try.func14, Try.ntmps14
    go_wp2_with fail
    go_loopw [3, 15] (fun v3 v wr => v3 = .slice none 0 0 ∧ v = .int .i64 0 ∧ Aside0 (wr = w)) (fun _ _ _ => 0)
    case atStart => exact ⟨rfl, rfl, ⟨rfl⟩⟩
    case round =>
      obtain ⟨rfl, rfl, hw⟩ := hrel
      have hw := hw.out
      subst hw
      go_wp2_with fail
      go_ret
      exact ⟨rfl, Drawn0.refl _⟩
def zs : List Int := [(-1), 0, 1, 2, 3, 4096, 8192, 6, (-4)]
def kz : Array Value := #[.int .i64 (-1), .int .i64 0, .int .i64 1, .int .i64 2, .int .i64 3, .int .i64 4096, .int .i64 8192, .int .i64 6, .int .i64 (-4)]
theorem zs_at : ∀ i, i < 9 → ∃ z : Int, kz[i]? = some (.int .i64 z) ∧ z ≤ 9223372036854775807 := by
  intro i hi
  have h : i = 0 ∨ i = 1 ∨ i = 2 ∨ i = 3 ∨ i = 4 ∨ i = 5 ∨ i = 6 ∨ i = 7 ∨ i = 8 := by omega
  rcases h with rfl | rfl | rfl | rfl | rfl | rfl | rfl | rfl | rfl
  · exact ⟨(-1), rfl, by decide⟩
  · exact ⟨0, rfl, by decide⟩
  · exact ⟨1, rfl, by decide⟩
  · exact ⟨2, rfl, by decide⟩
  · exact ⟨3, rfl, by decide⟩
  · exact ⟨4096, rfl, by decide⟩
  · exact ⟨8192, rfl, by decide⟩
  · exact ⟨6, rfl, by decide⟩
  · exact ⟨(-4), rfl, by decide⟩
theorem row3 (w : World) : DoRow (w.alloc (.cells #[.int .i64 0, .int .i64 1, .int .u64 0, .int .i64 0, .int .i64 4095, .int .u64 0, .int .i64 2, .int .i64 0, .int .u64 0] 51)) (some ⟨w.heap.size, 0, none⟩) 3 := fun i hi => by
  have hb : Bl (w.alloc (.cells #[.int .i64 0, .int .i64 1, .int .u64 0, .int .i64 0, .int .i64 4095, .int .u64 0, .int .i64 2, .int .i64 0, .int .u64 0] 51)) w.heap.size 51 #[.int .i64 0, .int .i64 1, .int .u64 0, .int .i64 0, .int .i64 4095, .int .u64 0, .int .i64 2, .int .i64 0, .int .u64 0] := heap_alloc_new w _
  have h : i = 0 ∨ i = 1 ∨ i = 2 := by omega
  rcases h with rfl | rfl | rfl
  · exact ⟨_, 0, 1, 0, rfl, by rw [add_plain]; exact blk_cell hb 0, by rw [add_plain]; exact blk_cell hb 1, by rw [add_plain]; exact blk_cell hb 2⟩
  · exact ⟨_, 0, 4095, 0, rfl, by rw [add_plain]; exact blk_cell hb 3, by rw [add_plain]; exact blk_cell hb 4, by rw [add_plain]; exact blk_cell hb 5⟩
  · exact ⟨_, 2, 0, 0, rfl, by rw [add_plain]; exact blk_cell hb 6, by rw [add_plain]; exact blk_cell hb 7, by rw [add_plain]; exact blk_cell hb 8⟩
theorem row1 (w : World) : DoRow (w.alloc (.cells #[.int .i64 1, .int .i64 (-1), .int .u64 0] 51)) (some ⟨w.heap.size, 0, none⟩) 1 := fun i hi => by
  have hb : Bl (w.alloc (.cells #[.int .i64 1, .int .i64 (-1), .int .u64 0] 51)) w.heap.size 51 #[.int .i64 1, .int .i64 (-1), .int .u64 0] := heap_alloc_new w _
  have h : i = 0 := by omega
  subst h
  exact ⟨_, 1, -1, 0, rfl, by rw [add_plain]; exact blk_cell hb 0, by rw [add_plain]; exact blk_cell hb 1, by rw [add_plain]; exact blk_cell hb 2⟩
theorem names_c (w : World) : Calls Try.prog 7 #[] w fun e w' => e = .returned (.bool true) ∧ Below w.heap.size w w' := by
  go_enter Try.func7, Try.ntmps7
  go_wp2_with fail
  go_loopw [1, 2] (fun v1 v2 wr => ∃ i : Nat, i ≤ 2 ∧ v2 = .int .i64 i ∧ Aside0 (Zr wr v1) ∧ Aside0 (Below w.heap.size w wr)) (fun _ v2 _ => 2 - (intOf v2).toNat)
  case atStart => exact ⟨0, by omega, rfl, ⟨.inl rfl⟩, ⟨Below.refl _ _⟩⟩
  case round =>
    obtain ⟨i, hi, rfl, hZ, hB⟩ := hrel
    by_cases hlt : i < 2
    · go_wp2_with fail
      refine (touch_none (-1) 0 u1 _ hZ.out).mono ?_
      rintro e w1 ⟨rfl, hd⟩
      have HZ1 := Aside0.mk (hZ.out.later hd.below)
      have HB1 := Aside0.mk (below_step hB.out hd.below)
      clear hd hZ hB
      go_wp2_with fail
      refine (has_none 0 0 u1 _ HZ1.out).mono ?_
      rintro e w2 ⟨rfl, hd⟩
      have HZ2 := Aside0.mk (HZ1.out.later hd.below)
      have HB2 := Aside0.mk (below_step HB1.out hd.below)
      clear hd HZ1 HB1
      go_wp2_with fail
      refine (flush_none u1 _ HZ2.out).mono ?_
      rintro e w3 ⟨rfl, hd⟩
      have HZ3 := Aside0.mk (HZ2.out.later hd.below)
      have HB3 := Aside0.mk (below_step HB2.out hd.below)
      clear hd HZ2 HB2
      go_wp2_with fail
      refine (count_none u1 _ HZ3.out).mono ?_
      rintro e w4 ⟨rfl, hd⟩
      have HZ4 := Aside0.mk (HZ3.out.later hd.below)
      have HB4 := Aside0.mk (below_step HB3.out hd.below)
      clear hd HZ3 HB3
      go_wp2_with fail
      refine (lines_none u1 _ HZ4.out).mono ?_
      rintro e w5 ⟨rfl, hd⟩
      have HB5 := Aside0.mk (below_alloc (below_step HB4.out hd.below) (.cells #[nilV, .int .i64 0] 58))
      have HZ5 : Aside0 (Zr (w5.alloc (.cells #[nilV, .int .i64 0] 58)) (.pointer (some ⟨w5.heap.size, 0, none⟩))) := ⟨.inr ⟨_, rfl, heap_alloc_new w5 _⟩⟩
      unfold nilV at HB5 HZ5
      clear hd HZ4 HB4
      go_wp2_with fail
      go_roundw
      case rel => exact ⟨i + 1, by omega, by go_num, HZ5, HB5⟩
      case measure => simp [intOf]; omega
    · have hi2 : i = 2 := by omega
      subst hi2
      rw [show (((2 : Nat) : Int)) = (2 : Int) from rfl]
      clear hZ
      have HT : Aside0 (Bl (wr.alloc (.cells kz 3)) wr.heap.size 3 kz) := ⟨heap_alloc_new _ _⟩
      have HBt := Aside0.mk (below_alloc hB.out (.cells kz 3))
      unfold kz at HBt
      have HT' : Aside0 (Bl (wr.alloc (.cells #[.int .i64 (-1), .int .i64 0, .int .i64 1, .int .i64 2, .int .i64 3, .int .i64 4096, .int .i64 8192, .int .i64 6, .int .i64 (-4)] 3)) wr.heap.size 3 kz) := HT
      clear HT hB
      go_wp2_with fail
      generalize hww : wr.alloc (.cells #[.int .i64 (-1), .int .i64 0, .int .i64 1, .int .i64 2, .int .i64 3, .int .i64 4096, .int .i64 8192, .int .i64 6, .int .i64 (-4)] 3) = wt at HT' HBt ⊢
      clear hww
      generalize wr.heap.size = gt at HT' ⊢
      go_loopw [10] (fun v10 wr => ∃ i : Nat, i ≤ 9 ∧ v10 = .int .i64 i ∧ Aside0 (Bl wr gt 3 kz) ∧ Aside0 (Below w.heap.size w wr)) (fun v10 _ => 9 - (intOf v10).toNat)
      case atStart => exact ⟨0, by omega, rfl, HT', HBt⟩
      case round =>
        clear HT' HBt
        obtain ⟨i, hi, rfl, hT, hB⟩ := hrel
        by_cases hlt : i < 9
        · obtain ⟨z, hz, hz1⟩ := zs_at i hlt
          have q0 := (blk_cell hT.out i).trans hz
          have HP := Aside0.mk (fun w => plays_c z 16 (some ⟨w.heap.size, 0, none⟩) 3 3 (w.alloc (.cells #[.int .i64 0, .int .i64 1, .int .u64 0, .int .i64 0, .int .i64 4095, .int .u64 0, .int .i64 2, .int .i64 0, .int .u64 0] 51)) hz1 (row3 w))
          have HP2 := Aside0.mk (fun w => plays_c 2 z (some ⟨w.heap.size, 0, none⟩) 1 1 (w.alloc (.cells #[.int .i64 1, .int .i64 (-1), .int .u64 0] 51)) (by decide) (row1 w))
          have HB0 := Aside0.mk (below_alloc hB.out (.cells #[.int .i64 0, .int .i64 1, .int .u64 0, .int .i64 0, .int .i64 4095, .int .u64 0, .int .i64 2, .int .i64 0, .int .u64 0] 51))
          have HT0 := Aside0.mk (hT.out.later (below_alloc (Below.refl _ _) (.cells #[.int .i64 0, .int .i64 1, .int .u64 0, .int .i64 0, .int .i64 4095, .int .u64 0, .int .i64 2, .int .i64 0, .int .u64 0] 51)))
          clear hT hB
          go_wp2_with fail
          refine (HP.out _).mono ?_
          rintro e w1 ⟨rfl, hb⟩
          have HT1 := Aside0.mk (HT0.out.later hb)
          have HB1 := Aside0.mk (below_step HB0.out hb)
          have q0 := (blk_cell HT1.out i).trans hz
          have HB2 := Aside0.mk (below_alloc HB1.out (.cells #[.int .i64 1, .int .i64 (-1), .int .u64 0] 51))
          have HT2 := Aside0.mk (HT1.out.later (below_alloc (Below.refl _ _) (.cells #[.int .i64 1, .int .i64 (-1), .int .u64 0] 51)))
          clear hb HT0 HB0 HP HT1 HB1
          go_wp2_with fail
          refine (HP2.out _).mono ?_
          rintro e w2 ⟨rfl, hb⟩
          have HT3 := Aside0.mk (HT2.out.later hb)
          have HB3 := Aside0.mk (below_step HB2.out hb)
          clear hb HT2 HB2 HP2 q0 hz
          go_wp2_with fail
          go_roundw
          case rel => exact ⟨i + 1, by omega, by go_num, HT3, HB3⟩
          case measure => simp [intOf]; omega
        · have hi9 : i = 9 := by omega
          subst hi9
          clear hT
          go_wp2_with fail
          refine (awake_any _).mono ?_
          rintro e w1 ⟨rfl, hb⟩
          have HB1 := Aside0.mk (below_step hB.out hb)
          clear hb hB
          go_wp2_with fail
          refine (plays_c 4 17 none 0 0 _ (by decide) (fun i hi => absurd hi (Nat.not_lt_zero _))).mono ?_
          rintro e w2 ⟨rfl, hb⟩
          have HB2 := Aside0.mk (below_step HB1.out hb)
          clear hb HB1
          go_wp2_with fail
          go_ret
          exact ⟨rfl, HB2.out⟩
end Go.Proofs.Ytcneepffhplpiaa.H
