/- The law CostKnown by its contracts: the walk. -/
import Derived.Test.YtpodcbaechlejaaK0
namespace Go.Proofs.Ytpodcbaechlejaa.H
open Go.RowKit Go.Proofs.YtpodcbaechlejaaW.PrintWords Go.Proofs.YtpodcbaechlejaaW.PrintLast Go.Proofs.YtpodcbaechlejaaW.PrintMore
set_option linter.unusedVariables false
set_option linter.unusedSimpArgs false
set_option maxHeartbeats 8000000
set_option maxRecDepth 100000
def Hold (p : Prop) : Prop := p
theorem Hold.of {p : Prop} (h : Hold p) : p := h
def Bl (w : World) (g : Nat) (t : TypeId) (cs : Array Value) : Prop := w.heap[g]? = some (.cells cs t (0, 0))
theorem Bl.later {w w' : World} {g : Nat} {t : TypeId} {cs : Array Value} (h : Bl w g t cs) (hb : Below w.heap.size w w') : Bl w' g t cs := blk_grown h (grown_of_below hb none) (by simp)
theorem rd_take (l : List Int) {i : Nat} (hi : i < l.length) : l.take (i + 1) = l.take i ++ [rd l (i : Int)] := by
  rw [List.take_succ_eq_append_getElem hi]
  congr 2
  unfold rd
  simp [hi]
theorem known_c (w : World) : Calls Try.prog 7 #[] w fun e w' => e = .returned (.bool true) ∧ Below w.heap.size w w' := by
  go_enter Try.func7, Try.ntmps7
  go_wp2_with fail
  go_loopw [1, 2] (fun v1 v2 wr => ∃ i : Nat, i ≤ 12 ∧ v2 = .int .i64 i ∧ Aside0 (wr.ownsRow w.heap.size 22 1 v1 (wants.take i).length (nums .u64 (wants.take i))) ∧ Aside0 (Below w.heap.size w wr)) (fun _ v2 _ => 12 - (intOf v2).toNat)
  case atStart => exact ⟨0, by omega, rfl, ⟨own_nil _ _ _ _⟩, ⟨Below.refl _ _⟩⟩
  case round =>
    obtain ⟨i, hi, rfl, hO, hB⟩ := hrel
    by_cases hlt : i < 12
    · have HW := Aside0.mk (worst_at i hlt).1
      have HTK := Aside0.mk (rd_take wants (i := i) hlt)
      have hm : (i : Int) % 256 = (i : Int) := by omega
      generalize rd wants (i : Int) = x at HW HTK
      go_wp2_with fail
      refine (cofferdamlaw10_costs.calls 1 4 20 10 2 100 _ rfl).mono ?_
      rintro e w1 ⟨rfl, hb⟩
      have HO1 := Aside0.mk (pw_own_below hO.out hb)
      have HB1 := Aside0.mk (below_step hB.out hb)
      clear hb hO hB
      go_wp2_with fail
      refine (cofferdamlaw10_shape.calls 2 8 10 5 _ rfl).mono ?_
      rintro e w2 ⟨rfl, hb⟩
      have HO2 := Aside0.mk (pw_own_below HO1.out hb)
      have HB2 := Aside0.mk (below_step HB1.out hb)
      clear hb HO1 HB1
      go_wp2_with fail
      refine (cost_Worst.calls 20 1 4 20 10 2 100 2 8 10 5 (i : Int) x 0 _ HW.out).mono ?_
      rintro e w3 ⟨rfl, hb⟩
      have HO3 := Aside0.mk (pw_own_below HO2.out hb)
      have HB3 := Aside0.mk (below_step HB2.out hb)
      have hbs : Aside0 (w.heap.size ≤ w3.heap.size) := ⟨HB3.out.size⟩
      have hle : Aside0 (((wants.take i).length + 1) * 8 ≤ 140737488355328) := ⟨by rw [List.length_take]; omega⟩
      clear hb HO2 HB2 HW
      go_wp2_with (first | ((with_reducible refine gate_builtin (b := .append) (xs := #[.tmp 54, .tmp 56]) rfl ?_); at_builtin; refine print_append_num (w0 := w) w.heap.size rfl (.tmp 54) (.tmp 56) 36 22 .u64 8 rfl Try.underlying36 info22 (by decide) _ (wants.take i) x rfl rfl HO3.out HB3.out hbs.out hle.out ?_; intro v1 wa ho1 hb1 hg1 hat1; have HO := Aside0.mk ho1; have HBa := Aside0.mk hb1; clear ho1 hb1 hg1 hat1; refine Hold.of ?_))
      unfold Hold
      clear HO3 HB3 hbs hle
      go_wp2_with fail
      go_roundw
      case rel => exact ⟨i + 1, by omega, by go_num, ⟨by rw [HTK.out]; exact HO.out⟩, HBa⟩
      case measure => simp [intOf]; omega
    · have hi12 : i = 12 := by omega
      subst hi12
      rw [show (((12 : Nat) : Int)) = (12 : Int) from rfl]
      obtain ⟨A1, c1, rfl, hR⟩ := own_reads hO.out
      rw [show (wants.take 12).length = 12 from rfl, show wants.take 12 = wants from rfl] at hR
      rw [show (wants.take 12).length = 12 from rfl]
      have HR0 : Aside0 (ReadsInt (wr.alloc (.cells #[.int .u64 40, .int .u64 380, .int .u64 480, .int .u64 2080, .int .u64 2300, .int .u64 2728, .int .u64 1468, .int .u64 2728, .int .u64 804, .int .u64 1708, .int .u64 40, .int .u64 40] 22)) .u64 A1 12 wants) := ⟨hR.below (below_alloc (Below.refl _ _) _)⟩
      have HT0 : Aside0 (Bl (wr.alloc (.cells #[.int .u64 40, .int .u64 380, .int .u64 480, .int .u64 2080, .int .u64 2300, .int .u64 2728, .int .u64 1468, .int .u64 2728, .int .u64 804, .int .u64 1708, .int .u64 40, .int .u64 40] 22)) wr.heap.size 22 kwa) := ⟨heap_alloc_new _ _⟩
      have HB0 := Aside0.mk (below_alloc hB.out (.cells #[.int .u64 40, .int .u64 380, .int .u64 480, .int .u64 2080, .int .u64 2300, .int .u64 2728, .int .u64 1468, .int .u64 2728, .int .u64 804, .int .u64 1708, .int .u64 40, .int .u64 40] 22))
      clear hO hR hB
      go_wp2_with fail
      generalize wr.alloc (.cells #[.int .u64 40, .int .u64 380, .int .u64 480, .int .u64 2080, .int .u64 2300, .int .u64 2728, .int .u64 1468, .int .u64 2728, .int .u64 804, .int .u64 1708, .int .u64 40, .int .u64 40] 22) = wt at HR0 HT0 HB0 ⊢
      generalize wr.heap.size = gt at HT0 ⊢
      go_loopw [6] (fun v6 wr => ∃ i : Nat, i ≤ 12 ∧ v6 = .int .i64 i ∧ Aside0 (ReadsInt wr .u64 A1 12 wants) ∧ Aside0 (Bl wr gt 22 kwa) ∧ Aside0 (Below w.heap.size w wr)) (fun v6 _ => 12 - (intOf v6).toNat)
      case atStart => exact ⟨0, by omega, rfl, HR0, HT0, HB0⟩
      case round =>
        clear HR0 HT0 HB0
        obtain ⟨i, hi, rfl, hR, hT, hB⟩ := hrel
        by_cases hlt : i < 12
        · obtain ⟨ad, rfl, hc⟩ := hR.out.at_ (i : Int) (by omega) (by omega)
          rw [Int.toNat_natCast] at hc
          have hk := (blk_cell hT.out i).trans (worst_at i hlt).2
          generalize rd wants (i : Int) = x at hc hk
          go_wp2_with fail
          go_quiet (fail)
          have hdq : Below wr.heap.size wr (World.drewN wr nq) := pw_below_drewN (Below.refl _ _) nq
          have HR1 := Aside0.mk (hR.out.below hdq)
          have HT1 := Aside0.mk (hT.out.later hdq)
          have HB1 := Aside0.mk (below_step hB.out hdq)
          clear hR hT hB hc hk hdq
          generalize World.drewN wr nq = wq at HR1 HT1 HB1 ⊢
          go_wp2_with fail
          go_roundw
          case rel => exact ⟨i + 1, by omega, by go_num, HR1, HT1, HB1⟩
          case measure => simp [intOf]; omega
        · have hi12 : i = 12 := by omega
          subst hi12
          rw [show (((12 : Nat) : Int)) = (12 : Int) from rfl]
          clear hR hT hi hlt
          go_wp2_with fail
          refine (cofferdamlaw10_costs.calls 1 4 20 10 2 100 _ rfl).mono ?_
          rintro e w1 ⟨rfl, hb⟩
          have HB1 := Aside0.mk (below_step hB.out hb)
          clear hb hB
          go_wp2_with fail
          refine (cofferdamlaw10_shape.calls 2 8 10 5 _ rfl).mono ?_
          rintro e w2 ⟨rfl, hb⟩
          have HB2 := Aside0.mk (below_step HB1.out hb)
          clear hb HB1
          go_wp2_with fail
          refine (cost_Most.calls 40 1 4 20 10 2 100 2 8 10 5 2728 0 _ most_v).mono ?_
          rintro e w3 ⟨rfl, hb⟩
          have HB3 := Aside0.mk (below_step HB2.out hb)
          clear hb HB2
          go_wp2_with fail
          go_loopw [9, 10] (fun v9 v10 wr => ∃ i : Nat, i ≤ 10 ∧ v10 = .int .i64 i ∧ Aside0 (wr.ownsRow w.heap.size 24 6 v9 i (flat i)) ∧ Aside0 (Below w.heap.size w wr)) (fun _ v10 _ => 10 - (intOf v10).toNat)
          case atStart => exact ⟨0, by omega, rfl, ⟨own_nil _ _ _ _⟩, HB3⟩
          case round =>
            clear HB3
            obtain ⟨i, hi, rfl, hO, hB⟩ := hrel
            by_cases hlt : i < 10
            · have hc : i = 0 ∨ i = 1 ∨ i = 2 ∨ i = 3 ∨ i = 4 ∨ i = 5 ∨ i = 6 ∨ i = 7 ∨ i = 8 ∨ i = 9 := by omega
              clear hi hlt
              rcases hc with rfl | rfl | rfl | rfl | rfl | rfl | rfl | rfl | rfl | rfl
              · go_wp2_with fail
                refine (cofferdamlaw10_costs.calls 1 4 20 10 2 100 _ rfl).mono ?_
                rintro e w1 ⟨rfl, hb⟩
                have hba := below_alloc hb (.cells #[.int .u64 0, .int .u64 4, .int .u64 20, .int .u64 10, .int .u64 2, .int .u64 100] 24)
                have HO1 := Aside0.mk (pw_own_below hO.out hba)
                have HB1 := Aside0.mk (below_step hB.out hba)
                have hbx : Bl (w1.alloc (.cells #[.int .u64 0, .int .u64 4, .int .u64 20, .int .u64 10, .int .u64 2, .int .u64 100] 24)) w1.heap.size 24 #[.int .u64 0, .int .u64 4, .int .u64 20, .int .u64 10, .int .u64 2, .int .u64 100] := heap_alloc_new w1 _
                have q0 : (w1.alloc (.cells #[.int .u64 0, .int .u64 4, .int .u64 20, .int .u64 10, .int .u64 2, .int .u64 100] 24)).cell? ⟨w1.heap.size, 0, none⟩ = some (.int .u64 0) := blk_cell hbx 0
                have q1 : (w1.alloc (.cells #[.int .u64 0, .int .u64 4, .int .u64 20, .int .u64 10, .int .u64 2, .int .u64 100] 24)).cell? ⟨w1.heap.size, 1, none⟩ = some (.int .u64 4) := blk_cell hbx 1
                have q2 : (w1.alloc (.cells #[.int .u64 0, .int .u64 4, .int .u64 20, .int .u64 10, .int .u64 2, .int .u64 100] 24)).cell? ⟨w1.heap.size, 2, none⟩ = some (.int .u64 20) := blk_cell hbx 2
                have q3 : (w1.alloc (.cells #[.int .u64 0, .int .u64 4, .int .u64 20, .int .u64 10, .int .u64 2, .int .u64 100] 24)).cell? ⟨w1.heap.size, 3, none⟩ = some (.int .u64 10) := blk_cell hbx 3
                have q4 : (w1.alloc (.cells #[.int .u64 0, .int .u64 4, .int .u64 20, .int .u64 10, .int .u64 2, .int .u64 100] 24)).cell? ⟨w1.heap.size, 4, none⟩ = some (.int .u64 2) := blk_cell hbx 4
                have q5 : (w1.alloc (.cells #[.int .u64 0, .int .u64 4, .int .u64 20, .int .u64 10, .int .u64 2, .int .u64 100] 24)).cell? ⟨w1.heap.size, 5, none⟩ = some (.int .u64 100) := blk_cell hbx 5
                have hsz : (w1.alloc (.cells #[.int .u64 0, .int .u64 4, .int .u64 20, .int .u64 10, .int .u64 2, .int .u64 100] 24)).heap.size = w1.heap.size + 1 := by simp only [World.alloc, Array.size_push]
                have hbs : Aside0 (w.heap.size ≤ (w1.alloc (.cells #[.int .u64 0, .int .u64 4, .int .u64 20, .int .u64 10, .int .u64 2, .int .u64 100] 24)).heap.size) := ⟨HB1.out.size⟩
                clear hb hba hO hB hbx
                go_wp2_with (first | ((with_reducible refine gate_builtin (b := .append) (xs := #[.tmp 114, .tmp 116]) rfl ?_); at_builtin; refine print_append_cells (w0 := w) w.heap.size rfl (.tmp 114) (.tmp 116) 47 24 (.agg #[.int .u64 0, .int .u64 0, .int .u64 0, .int .u64 0, .int .u64 0, .int .u64 0]) 6 48 rfl Try.underlying47 info24 rfl (by decide) (by decide) _ 0 (flat 0) [.int .u64 0, .int .u64 4, .int .u64 20, .int .u64 10, .int .u64 2, .int .u64 100] rfl (by rw [hsz]; rfl) rfl (by intro u hu; simp at hu; rcases hu with rfl | rfl | rfl | rfl | rfl | rfl <;> rfl) HO1.out HB1.out hbs.out (by decide) ?_; intro v1 wa ho1 hb1 hg1 hat1; have HO := Aside0.mk ho1; have HBa := Aside0.mk hb1; clear ho1 hb1 hg1 hat1; refine Hold.of ?_))
                unfold Hold
                clear HO1 HB1 hbs q0 q1 q2 q3 q4 q5
                have HO' : Aside0 (wa.ownsRow w.heap.size 24 6 v1 (0 + 1) (flat (0 + 1))) := HO
                clear HO
                go_wp2_with fail
                go_roundw
                case rel => exact ⟨0 + 1, by omega, by go_num, HO', HBa⟩
                case measure => simp [intOf]
              · go_wp2_with fail
                refine (cofferdamlaw10_costs.calls 1 4 20 10 2 100 _ rfl).mono ?_
                rintro e w1 ⟨rfl, hb⟩
                have hba := below_alloc hb (.cells #[.int .u64 1, .int .u64 0, .int .u64 20, .int .u64 10, .int .u64 2, .int .u64 100] 24)
                have HO1 := Aside0.mk (pw_own_below hO.out hba)
                have HB1 := Aside0.mk (below_step hB.out hba)
                have hbx : Bl (w1.alloc (.cells #[.int .u64 1, .int .u64 0, .int .u64 20, .int .u64 10, .int .u64 2, .int .u64 100] 24)) w1.heap.size 24 #[.int .u64 1, .int .u64 0, .int .u64 20, .int .u64 10, .int .u64 2, .int .u64 100] := heap_alloc_new w1 _
                have q0 : (w1.alloc (.cells #[.int .u64 1, .int .u64 0, .int .u64 20, .int .u64 10, .int .u64 2, .int .u64 100] 24)).cell? ⟨w1.heap.size, 0, none⟩ = some (.int .u64 1) := blk_cell hbx 0
                have q1 : (w1.alloc (.cells #[.int .u64 1, .int .u64 0, .int .u64 20, .int .u64 10, .int .u64 2, .int .u64 100] 24)).cell? ⟨w1.heap.size, 1, none⟩ = some (.int .u64 0) := blk_cell hbx 1
                have q2 : (w1.alloc (.cells #[.int .u64 1, .int .u64 0, .int .u64 20, .int .u64 10, .int .u64 2, .int .u64 100] 24)).cell? ⟨w1.heap.size, 2, none⟩ = some (.int .u64 20) := blk_cell hbx 2
                have q3 : (w1.alloc (.cells #[.int .u64 1, .int .u64 0, .int .u64 20, .int .u64 10, .int .u64 2, .int .u64 100] 24)).cell? ⟨w1.heap.size, 3, none⟩ = some (.int .u64 10) := blk_cell hbx 3
                have q4 : (w1.alloc (.cells #[.int .u64 1, .int .u64 0, .int .u64 20, .int .u64 10, .int .u64 2, .int .u64 100] 24)).cell? ⟨w1.heap.size, 4, none⟩ = some (.int .u64 2) := blk_cell hbx 4
                have q5 : (w1.alloc (.cells #[.int .u64 1, .int .u64 0, .int .u64 20, .int .u64 10, .int .u64 2, .int .u64 100] 24)).cell? ⟨w1.heap.size, 5, none⟩ = some (.int .u64 100) := blk_cell hbx 5
                have hsz : (w1.alloc (.cells #[.int .u64 1, .int .u64 0, .int .u64 20, .int .u64 10, .int .u64 2, .int .u64 100] 24)).heap.size = w1.heap.size + 1 := by simp only [World.alloc, Array.size_push]
                have hbs : Aside0 (w.heap.size ≤ (w1.alloc (.cells #[.int .u64 1, .int .u64 0, .int .u64 20, .int .u64 10, .int .u64 2, .int .u64 100] 24)).heap.size) := ⟨HB1.out.size⟩
                clear hb hba hO hB hbx
                go_wp2_with (first | ((with_reducible refine gate_builtin (b := .append) (xs := #[.tmp 114, .tmp 116]) rfl ?_); at_builtin; refine print_append_cells (w0 := w) w.heap.size rfl (.tmp 114) (.tmp 116) 47 24 (.agg #[.int .u64 0, .int .u64 0, .int .u64 0, .int .u64 0, .int .u64 0, .int .u64 0]) 6 48 rfl Try.underlying47 info24 rfl (by decide) (by decide) _ 1 (flat 1) [.int .u64 1, .int .u64 0, .int .u64 20, .int .u64 10, .int .u64 2, .int .u64 100] rfl (by rw [hsz]; rfl) rfl (by intro u hu; simp at hu; rcases hu with rfl | rfl | rfl | rfl | rfl | rfl <;> rfl) HO1.out HB1.out hbs.out (by decide) ?_; intro v1 wa ho1 hb1 hg1 hat1; have HO := Aside0.mk ho1; have HBa := Aside0.mk hb1; clear ho1 hb1 hg1 hat1; refine Hold.of ?_))
                unfold Hold
                clear HO1 HB1 hbs q0 q1 q2 q3 q4 q5
                have HO' : Aside0 (wa.ownsRow w.heap.size 24 6 v1 (1 + 1) (flat (1 + 1))) := HO
                clear HO
                go_wp2_with fail
                go_roundw
                case rel => exact ⟨1 + 1, by omega, by go_num, HO', HBa⟩
                case measure => simp [intOf]
              · go_wp2_with fail
                refine (cofferdamlaw10_costs.calls 1 4 20 10 2 100 _ rfl).mono ?_
                rintro e w1 ⟨rfl, hb⟩
                have hba := below_alloc hb (.cells #[.int .u64 1, .int .u64 4, .int .u64 3, .int .u64 10, .int .u64 2, .int .u64 100] 24)
                have HO1 := Aside0.mk (pw_own_below hO.out hba)
                have HB1 := Aside0.mk (below_step hB.out hba)
                have hbx : Bl (w1.alloc (.cells #[.int .u64 1, .int .u64 4, .int .u64 3, .int .u64 10, .int .u64 2, .int .u64 100] 24)) w1.heap.size 24 #[.int .u64 1, .int .u64 4, .int .u64 3, .int .u64 10, .int .u64 2, .int .u64 100] := heap_alloc_new w1 _
                have q0 : (w1.alloc (.cells #[.int .u64 1, .int .u64 4, .int .u64 3, .int .u64 10, .int .u64 2, .int .u64 100] 24)).cell? ⟨w1.heap.size, 0, none⟩ = some (.int .u64 1) := blk_cell hbx 0
                have q1 : (w1.alloc (.cells #[.int .u64 1, .int .u64 4, .int .u64 3, .int .u64 10, .int .u64 2, .int .u64 100] 24)).cell? ⟨w1.heap.size, 1, none⟩ = some (.int .u64 4) := blk_cell hbx 1
                have q2 : (w1.alloc (.cells #[.int .u64 1, .int .u64 4, .int .u64 3, .int .u64 10, .int .u64 2, .int .u64 100] 24)).cell? ⟨w1.heap.size, 2, none⟩ = some (.int .u64 3) := blk_cell hbx 2
                have q3 : (w1.alloc (.cells #[.int .u64 1, .int .u64 4, .int .u64 3, .int .u64 10, .int .u64 2, .int .u64 100] 24)).cell? ⟨w1.heap.size, 3, none⟩ = some (.int .u64 10) := blk_cell hbx 3
                have q4 : (w1.alloc (.cells #[.int .u64 1, .int .u64 4, .int .u64 3, .int .u64 10, .int .u64 2, .int .u64 100] 24)).cell? ⟨w1.heap.size, 4, none⟩ = some (.int .u64 2) := blk_cell hbx 4
                have q5 : (w1.alloc (.cells #[.int .u64 1, .int .u64 4, .int .u64 3, .int .u64 10, .int .u64 2, .int .u64 100] 24)).cell? ⟨w1.heap.size, 5, none⟩ = some (.int .u64 100) := blk_cell hbx 5
                have hsz : (w1.alloc (.cells #[.int .u64 1, .int .u64 4, .int .u64 3, .int .u64 10, .int .u64 2, .int .u64 100] 24)).heap.size = w1.heap.size + 1 := by simp only [World.alloc, Array.size_push]
                have hbs : Aside0 (w.heap.size ≤ (w1.alloc (.cells #[.int .u64 1, .int .u64 4, .int .u64 3, .int .u64 10, .int .u64 2, .int .u64 100] 24)).heap.size) := ⟨HB1.out.size⟩
                clear hb hba hO hB hbx
                go_wp2_with (first | ((with_reducible refine gate_builtin (b := .append) (xs := #[.tmp 114, .tmp 116]) rfl ?_); at_builtin; refine print_append_cells (w0 := w) w.heap.size rfl (.tmp 114) (.tmp 116) 47 24 (.agg #[.int .u64 0, .int .u64 0, .int .u64 0, .int .u64 0, .int .u64 0, .int .u64 0]) 6 48 rfl Try.underlying47 info24 rfl (by decide) (by decide) _ 2 (flat 2) [.int .u64 1, .int .u64 4, .int .u64 3, .int .u64 10, .int .u64 2, .int .u64 100] rfl (by rw [hsz]; rfl) rfl (by intro u hu; simp at hu; rcases hu with rfl | rfl | rfl | rfl | rfl | rfl <;> rfl) HO1.out HB1.out hbs.out (by decide) ?_; intro v1 wa ho1 hb1 hg1 hat1; have HO := Aside0.mk ho1; have HBa := Aside0.mk hb1; clear ho1 hb1 hg1 hat1; refine Hold.of ?_))
                unfold Hold
                clear HO1 HB1 hbs q0 q1 q2 q3 q4 q5
                have HO' : Aside0 (wa.ownsRow w.heap.size 24 6 v1 (2 + 1) (flat (2 + 1))) := HO
                clear HO
                go_wp2_with fail
                go_roundw
                case rel => exact ⟨2 + 1, by omega, by go_num, HO', HBa⟩
                case measure => simp [intOf]
              · go_wp2_with fail
                refine (cofferdamlaw10_costs.calls 1 4 20 10 2 100 _ rfl).mono ?_
                rintro e w1 ⟨rfl, hb⟩
                have hba := below_alloc hb (.cells #[.int .u64 5, .int .u64 4, .int .u64 20, .int .u64 10, .int .u64 2, .int .u64 100] 24)
                have HO1 := Aside0.mk (pw_own_below hO.out hba)
                have HB1 := Aside0.mk (below_step hB.out hba)
                have hbx : Bl (w1.alloc (.cells #[.int .u64 5, .int .u64 4, .int .u64 20, .int .u64 10, .int .u64 2, .int .u64 100] 24)) w1.heap.size 24 #[.int .u64 5, .int .u64 4, .int .u64 20, .int .u64 10, .int .u64 2, .int .u64 100] := heap_alloc_new w1 _
                have q0 : (w1.alloc (.cells #[.int .u64 5, .int .u64 4, .int .u64 20, .int .u64 10, .int .u64 2, .int .u64 100] 24)).cell? ⟨w1.heap.size, 0, none⟩ = some (.int .u64 5) := blk_cell hbx 0
                have q1 : (w1.alloc (.cells #[.int .u64 5, .int .u64 4, .int .u64 20, .int .u64 10, .int .u64 2, .int .u64 100] 24)).cell? ⟨w1.heap.size, 1, none⟩ = some (.int .u64 4) := blk_cell hbx 1
                have q2 : (w1.alloc (.cells #[.int .u64 5, .int .u64 4, .int .u64 20, .int .u64 10, .int .u64 2, .int .u64 100] 24)).cell? ⟨w1.heap.size, 2, none⟩ = some (.int .u64 20) := blk_cell hbx 2
                have q3 : (w1.alloc (.cells #[.int .u64 5, .int .u64 4, .int .u64 20, .int .u64 10, .int .u64 2, .int .u64 100] 24)).cell? ⟨w1.heap.size, 3, none⟩ = some (.int .u64 10) := blk_cell hbx 3
                have q4 : (w1.alloc (.cells #[.int .u64 5, .int .u64 4, .int .u64 20, .int .u64 10, .int .u64 2, .int .u64 100] 24)).cell? ⟨w1.heap.size, 4, none⟩ = some (.int .u64 2) := blk_cell hbx 4
                have q5 : (w1.alloc (.cells #[.int .u64 5, .int .u64 4, .int .u64 20, .int .u64 10, .int .u64 2, .int .u64 100] 24)).cell? ⟨w1.heap.size, 5, none⟩ = some (.int .u64 100) := blk_cell hbx 5
                have hsz : (w1.alloc (.cells #[.int .u64 5, .int .u64 4, .int .u64 20, .int .u64 10, .int .u64 2, .int .u64 100] 24)).heap.size = w1.heap.size + 1 := by simp only [World.alloc, Array.size_push]
                have hbs : Aside0 (w.heap.size ≤ (w1.alloc (.cells #[.int .u64 5, .int .u64 4, .int .u64 20, .int .u64 10, .int .u64 2, .int .u64 100] 24)).heap.size) := ⟨HB1.out.size⟩
                clear hb hba hO hB hbx
                go_wp2_with (first | ((with_reducible refine gate_builtin (b := .append) (xs := #[.tmp 114, .tmp 116]) rfl ?_); at_builtin; refine print_append_cells (w0 := w) w.heap.size rfl (.tmp 114) (.tmp 116) 47 24 (.agg #[.int .u64 0, .int .u64 0, .int .u64 0, .int .u64 0, .int .u64 0, .int .u64 0]) 6 48 rfl Try.underlying47 info24 rfl (by decide) (by decide) _ 3 (flat 3) [.int .u64 5, .int .u64 4, .int .u64 20, .int .u64 10, .int .u64 2, .int .u64 100] rfl (by rw [hsz]; rfl) rfl (by intro u hu; simp at hu; rcases hu with rfl | rfl | rfl | rfl | rfl | rfl <;> rfl) HO1.out HB1.out hbs.out (by decide) ?_; intro v1 wa ho1 hb1 hg1 hat1; have HO := Aside0.mk ho1; have HBa := Aside0.mk hb1; clear ho1 hb1 hg1 hat1; refine Hold.of ?_))
                unfold Hold
                clear HO1 HB1 hbs q0 q1 q2 q3 q4 q5
                have HO' : Aside0 (wa.ownsRow w.heap.size 24 6 v1 (3 + 1) (flat (3 + 1))) := HO
                clear HO
                go_wp2_with fail
                go_roundw
                case rel => exact ⟨3 + 1, by omega, by go_num, HO', HBa⟩
                case measure => simp [intOf]
              · go_wp2_with fail
                refine (cofferdamlaw10_costs.calls 1 4 20 10 2 100 _ rfl).mono ?_
                rintro e w1 ⟨rfl, hb⟩
                have hba := below_alloc hb (.cells #[.int .u64 1, .int .u64 4, .int .u64 65537, .int .u64 10, .int .u64 2, .int .u64 100] 24)
                have HO1 := Aside0.mk (pw_own_below hO.out hba)
                have HB1 := Aside0.mk (below_step hB.out hba)
                have hbx : Bl (w1.alloc (.cells #[.int .u64 1, .int .u64 4, .int .u64 65537, .int .u64 10, .int .u64 2, .int .u64 100] 24)) w1.heap.size 24 #[.int .u64 1, .int .u64 4, .int .u64 65537, .int .u64 10, .int .u64 2, .int .u64 100] := heap_alloc_new w1 _
                have q0 : (w1.alloc (.cells #[.int .u64 1, .int .u64 4, .int .u64 65537, .int .u64 10, .int .u64 2, .int .u64 100] 24)).cell? ⟨w1.heap.size, 0, none⟩ = some (.int .u64 1) := blk_cell hbx 0
                have q1 : (w1.alloc (.cells #[.int .u64 1, .int .u64 4, .int .u64 65537, .int .u64 10, .int .u64 2, .int .u64 100] 24)).cell? ⟨w1.heap.size, 1, none⟩ = some (.int .u64 4) := blk_cell hbx 1
                have q2 : (w1.alloc (.cells #[.int .u64 1, .int .u64 4, .int .u64 65537, .int .u64 10, .int .u64 2, .int .u64 100] 24)).cell? ⟨w1.heap.size, 2, none⟩ = some (.int .u64 65537) := blk_cell hbx 2
                have q3 : (w1.alloc (.cells #[.int .u64 1, .int .u64 4, .int .u64 65537, .int .u64 10, .int .u64 2, .int .u64 100] 24)).cell? ⟨w1.heap.size, 3, none⟩ = some (.int .u64 10) := blk_cell hbx 3
                have q4 : (w1.alloc (.cells #[.int .u64 1, .int .u64 4, .int .u64 65537, .int .u64 10, .int .u64 2, .int .u64 100] 24)).cell? ⟨w1.heap.size, 4, none⟩ = some (.int .u64 2) := blk_cell hbx 4
                have q5 : (w1.alloc (.cells #[.int .u64 1, .int .u64 4, .int .u64 65537, .int .u64 10, .int .u64 2, .int .u64 100] 24)).cell? ⟨w1.heap.size, 5, none⟩ = some (.int .u64 100) := blk_cell hbx 5
                have hsz : (w1.alloc (.cells #[.int .u64 1, .int .u64 4, .int .u64 65537, .int .u64 10, .int .u64 2, .int .u64 100] 24)).heap.size = w1.heap.size + 1 := by simp only [World.alloc, Array.size_push]
                have hbs : Aside0 (w.heap.size ≤ (w1.alloc (.cells #[.int .u64 1, .int .u64 4, .int .u64 65537, .int .u64 10, .int .u64 2, .int .u64 100] 24)).heap.size) := ⟨HB1.out.size⟩
                clear hb hba hO hB hbx
                go_wp2_with (first | ((with_reducible refine gate_builtin (b := .append) (xs := #[.tmp 114, .tmp 116]) rfl ?_); at_builtin; refine print_append_cells (w0 := w) w.heap.size rfl (.tmp 114) (.tmp 116) 47 24 (.agg #[.int .u64 0, .int .u64 0, .int .u64 0, .int .u64 0, .int .u64 0, .int .u64 0]) 6 48 rfl Try.underlying47 info24 rfl (by decide) (by decide) _ 4 (flat 4) [.int .u64 1, .int .u64 4, .int .u64 65537, .int .u64 10, .int .u64 2, .int .u64 100] rfl (by rw [hsz]; rfl) rfl (by intro u hu; simp at hu; rcases hu with rfl | rfl | rfl | rfl | rfl | rfl <;> rfl) HO1.out HB1.out hbs.out (by decide) ?_; intro v1 wa ho1 hb1 hg1 hat1; have HO := Aside0.mk ho1; have HBa := Aside0.mk hb1; clear ho1 hb1 hg1 hat1; refine Hold.of ?_))
                unfold Hold
                clear HO1 HB1 hbs q0 q1 q2 q3 q4 q5
                have HO' : Aside0 (wa.ownsRow w.heap.size 24 6 v1 (4 + 1) (flat (4 + 1))) := HO
                clear HO
                go_wp2_with fail
                go_roundw
                case rel => exact ⟨4 + 1, by omega, by go_num, HO', HBa⟩
                case measure => simp [intOf]
              · go_wp2_with fail
                refine (cofferdamlaw10_costs.calls 1 4 20 10 2 100 _ rfl).mono ?_
                rintro e w1 ⟨rfl, hb⟩
                have hba := below_alloc hb (.cells #[.int .u64 1, .int .u64 4, .int .u64 20, .int .u64 0, .int .u64 2, .int .u64 100] 24)
                have HO1 := Aside0.mk (pw_own_below hO.out hba)
                have HB1 := Aside0.mk (below_step hB.out hba)
                have hbx : Bl (w1.alloc (.cells #[.int .u64 1, .int .u64 4, .int .u64 20, .int .u64 0, .int .u64 2, .int .u64 100] 24)) w1.heap.size 24 #[.int .u64 1, .int .u64 4, .int .u64 20, .int .u64 0, .int .u64 2, .int .u64 100] := heap_alloc_new w1 _
                have q0 : (w1.alloc (.cells #[.int .u64 1, .int .u64 4, .int .u64 20, .int .u64 0, .int .u64 2, .int .u64 100] 24)).cell? ⟨w1.heap.size, 0, none⟩ = some (.int .u64 1) := blk_cell hbx 0
                have q1 : (w1.alloc (.cells #[.int .u64 1, .int .u64 4, .int .u64 20, .int .u64 0, .int .u64 2, .int .u64 100] 24)).cell? ⟨w1.heap.size, 1, none⟩ = some (.int .u64 4) := blk_cell hbx 1
                have q2 : (w1.alloc (.cells #[.int .u64 1, .int .u64 4, .int .u64 20, .int .u64 0, .int .u64 2, .int .u64 100] 24)).cell? ⟨w1.heap.size, 2, none⟩ = some (.int .u64 20) := blk_cell hbx 2
                have q3 : (w1.alloc (.cells #[.int .u64 1, .int .u64 4, .int .u64 20, .int .u64 0, .int .u64 2, .int .u64 100] 24)).cell? ⟨w1.heap.size, 3, none⟩ = some (.int .u64 0) := blk_cell hbx 3
                have q4 : (w1.alloc (.cells #[.int .u64 1, .int .u64 4, .int .u64 20, .int .u64 0, .int .u64 2, .int .u64 100] 24)).cell? ⟨w1.heap.size, 4, none⟩ = some (.int .u64 2) := blk_cell hbx 4
                have q5 : (w1.alloc (.cells #[.int .u64 1, .int .u64 4, .int .u64 20, .int .u64 0, .int .u64 2, .int .u64 100] 24)).cell? ⟨w1.heap.size, 5, none⟩ = some (.int .u64 100) := blk_cell hbx 5
                have hsz : (w1.alloc (.cells #[.int .u64 1, .int .u64 4, .int .u64 20, .int .u64 0, .int .u64 2, .int .u64 100] 24)).heap.size = w1.heap.size + 1 := by simp only [World.alloc, Array.size_push]
                have hbs : Aside0 (w.heap.size ≤ (w1.alloc (.cells #[.int .u64 1, .int .u64 4, .int .u64 20, .int .u64 0, .int .u64 2, .int .u64 100] 24)).heap.size) := ⟨HB1.out.size⟩
                clear hb hba hO hB hbx
                go_wp2_with (first | ((with_reducible refine gate_builtin (b := .append) (xs := #[.tmp 114, .tmp 116]) rfl ?_); at_builtin; refine print_append_cells (w0 := w) w.heap.size rfl (.tmp 114) (.tmp 116) 47 24 (.agg #[.int .u64 0, .int .u64 0, .int .u64 0, .int .u64 0, .int .u64 0, .int .u64 0]) 6 48 rfl Try.underlying47 info24 rfl (by decide) (by decide) _ 5 (flat 5) [.int .u64 1, .int .u64 4, .int .u64 20, .int .u64 0, .int .u64 2, .int .u64 100] rfl (by rw [hsz]; rfl) rfl (by intro u hu; simp at hu; rcases hu with rfl | rfl | rfl | rfl | rfl | rfl <;> rfl) HO1.out HB1.out hbs.out (by decide) ?_; intro v1 wa ho1 hb1 hg1 hat1; have HO := Aside0.mk ho1; have HBa := Aside0.mk hb1; clear ho1 hb1 hg1 hat1; refine Hold.of ?_))
                unfold Hold
                clear HO1 HB1 hbs q0 q1 q2 q3 q4 q5
                have HO' : Aside0 (wa.ownsRow w.heap.size 24 6 v1 (5 + 1) (flat (5 + 1))) := HO
                clear HO
                go_wp2_with fail
                go_roundw
                case rel => exact ⟨5 + 1, by omega, by go_num, HO', HBa⟩
                case measure => simp [intOf]
              · go_wp2_with fail
                refine (cofferdamlaw10_costs.calls 1 4 20 10 2 100 _ rfl).mono ?_
                rintro e w1 ⟨rfl, hb⟩
                have hba := below_alloc hb (.cells #[.int .u64 1, .int .u64 4, .int .u64 20, .int .u64 10, .int .u64 0, .int .u64 100] 24)
                have HO1 := Aside0.mk (pw_own_below hO.out hba)
                have HB1 := Aside0.mk (below_step hB.out hba)
                have hbx : Bl (w1.alloc (.cells #[.int .u64 1, .int .u64 4, .int .u64 20, .int .u64 10, .int .u64 0, .int .u64 100] 24)) w1.heap.size 24 #[.int .u64 1, .int .u64 4, .int .u64 20, .int .u64 10, .int .u64 0, .int .u64 100] := heap_alloc_new w1 _
                have q0 : (w1.alloc (.cells #[.int .u64 1, .int .u64 4, .int .u64 20, .int .u64 10, .int .u64 0, .int .u64 100] 24)).cell? ⟨w1.heap.size, 0, none⟩ = some (.int .u64 1) := blk_cell hbx 0
                have q1 : (w1.alloc (.cells #[.int .u64 1, .int .u64 4, .int .u64 20, .int .u64 10, .int .u64 0, .int .u64 100] 24)).cell? ⟨w1.heap.size, 1, none⟩ = some (.int .u64 4) := blk_cell hbx 1
                have q2 : (w1.alloc (.cells #[.int .u64 1, .int .u64 4, .int .u64 20, .int .u64 10, .int .u64 0, .int .u64 100] 24)).cell? ⟨w1.heap.size, 2, none⟩ = some (.int .u64 20) := blk_cell hbx 2
                have q3 : (w1.alloc (.cells #[.int .u64 1, .int .u64 4, .int .u64 20, .int .u64 10, .int .u64 0, .int .u64 100] 24)).cell? ⟨w1.heap.size, 3, none⟩ = some (.int .u64 10) := blk_cell hbx 3
                have q4 : (w1.alloc (.cells #[.int .u64 1, .int .u64 4, .int .u64 20, .int .u64 10, .int .u64 0, .int .u64 100] 24)).cell? ⟨w1.heap.size, 4, none⟩ = some (.int .u64 0) := blk_cell hbx 4
                have q5 : (w1.alloc (.cells #[.int .u64 1, .int .u64 4, .int .u64 20, .int .u64 10, .int .u64 0, .int .u64 100] 24)).cell? ⟨w1.heap.size, 5, none⟩ = some (.int .u64 100) := blk_cell hbx 5
                have hsz : (w1.alloc (.cells #[.int .u64 1, .int .u64 4, .int .u64 20, .int .u64 10, .int .u64 0, .int .u64 100] 24)).heap.size = w1.heap.size + 1 := by simp only [World.alloc, Array.size_push]
                have hbs : Aside0 (w.heap.size ≤ (w1.alloc (.cells #[.int .u64 1, .int .u64 4, .int .u64 20, .int .u64 10, .int .u64 0, .int .u64 100] 24)).heap.size) := ⟨HB1.out.size⟩
                clear hb hba hO hB hbx
                go_wp2_with (first | ((with_reducible refine gate_builtin (b := .append) (xs := #[.tmp 114, .tmp 116]) rfl ?_); at_builtin; refine print_append_cells (w0 := w) w.heap.size rfl (.tmp 114) (.tmp 116) 47 24 (.agg #[.int .u64 0, .int .u64 0, .int .u64 0, .int .u64 0, .int .u64 0, .int .u64 0]) 6 48 rfl Try.underlying47 info24 rfl (by decide) (by decide) _ 6 (flat 6) [.int .u64 1, .int .u64 4, .int .u64 20, .int .u64 10, .int .u64 0, .int .u64 100] rfl (by rw [hsz]; rfl) rfl (by intro u hu; simp at hu; rcases hu with rfl | rfl | rfl | rfl | rfl | rfl <;> rfl) HO1.out HB1.out hbs.out (by decide) ?_; intro v1 wa ho1 hb1 hg1 hat1; have HO := Aside0.mk ho1; have HBa := Aside0.mk hb1; clear ho1 hb1 hg1 hat1; refine Hold.of ?_))
                unfold Hold
                clear HO1 HB1 hbs q0 q1 q2 q3 q4 q5
                have HO' : Aside0 (wa.ownsRow w.heap.size 24 6 v1 (6 + 1) (flat (6 + 1))) := HO
                clear HO
                go_wp2_with fail
                go_roundw
                case rel => exact ⟨6 + 1, by omega, by go_num, HO', HBa⟩
                case measure => simp [intOf]
              · go_wp2_with fail
                refine (cofferdamlaw10_costs.calls 1 4 20 10 2 100 _ rfl).mono ?_
                rintro e w1 ⟨rfl, hb⟩
                have hba := below_alloc hb (.cells #[.int .u64 1, .int .u64 4, .int .u64 20, .int .u64 10, .int .u64 2, .int .u64 0] 24)
                have HO1 := Aside0.mk (pw_own_below hO.out hba)
                have HB1 := Aside0.mk (below_step hB.out hba)
                have hbx : Bl (w1.alloc (.cells #[.int .u64 1, .int .u64 4, .int .u64 20, .int .u64 10, .int .u64 2, .int .u64 0] 24)) w1.heap.size 24 #[.int .u64 1, .int .u64 4, .int .u64 20, .int .u64 10, .int .u64 2, .int .u64 0] := heap_alloc_new w1 _
                have q0 : (w1.alloc (.cells #[.int .u64 1, .int .u64 4, .int .u64 20, .int .u64 10, .int .u64 2, .int .u64 0] 24)).cell? ⟨w1.heap.size, 0, none⟩ = some (.int .u64 1) := blk_cell hbx 0
                have q1 : (w1.alloc (.cells #[.int .u64 1, .int .u64 4, .int .u64 20, .int .u64 10, .int .u64 2, .int .u64 0] 24)).cell? ⟨w1.heap.size, 1, none⟩ = some (.int .u64 4) := blk_cell hbx 1
                have q2 : (w1.alloc (.cells #[.int .u64 1, .int .u64 4, .int .u64 20, .int .u64 10, .int .u64 2, .int .u64 0] 24)).cell? ⟨w1.heap.size, 2, none⟩ = some (.int .u64 20) := blk_cell hbx 2
                have q3 : (w1.alloc (.cells #[.int .u64 1, .int .u64 4, .int .u64 20, .int .u64 10, .int .u64 2, .int .u64 0] 24)).cell? ⟨w1.heap.size, 3, none⟩ = some (.int .u64 10) := blk_cell hbx 3
                have q4 : (w1.alloc (.cells #[.int .u64 1, .int .u64 4, .int .u64 20, .int .u64 10, .int .u64 2, .int .u64 0] 24)).cell? ⟨w1.heap.size, 4, none⟩ = some (.int .u64 2) := blk_cell hbx 4
                have q5 : (w1.alloc (.cells #[.int .u64 1, .int .u64 4, .int .u64 20, .int .u64 10, .int .u64 2, .int .u64 0] 24)).cell? ⟨w1.heap.size, 5, none⟩ = some (.int .u64 0) := blk_cell hbx 5
                have hsz : (w1.alloc (.cells #[.int .u64 1, .int .u64 4, .int .u64 20, .int .u64 10, .int .u64 2, .int .u64 0] 24)).heap.size = w1.heap.size + 1 := by simp only [World.alloc, Array.size_push]
                have hbs : Aside0 (w.heap.size ≤ (w1.alloc (.cells #[.int .u64 1, .int .u64 4, .int .u64 20, .int .u64 10, .int .u64 2, .int .u64 0] 24)).heap.size) := ⟨HB1.out.size⟩
                clear hb hba hO hB hbx
                go_wp2_with (first | ((with_reducible refine gate_builtin (b := .append) (xs := #[.tmp 114, .tmp 116]) rfl ?_); at_builtin; refine print_append_cells (w0 := w) w.heap.size rfl (.tmp 114) (.tmp 116) 47 24 (.agg #[.int .u64 0, .int .u64 0, .int .u64 0, .int .u64 0, .int .u64 0, .int .u64 0]) 6 48 rfl Try.underlying47 info24 rfl (by decide) (by decide) _ 7 (flat 7) [.int .u64 1, .int .u64 4, .int .u64 20, .int .u64 10, .int .u64 2, .int .u64 0] rfl (by rw [hsz]; rfl) rfl (by intro u hu; simp at hu; rcases hu with rfl | rfl | rfl | rfl | rfl | rfl <;> rfl) HO1.out HB1.out hbs.out (by decide) ?_; intro v1 wa ho1 hb1 hg1 hat1; have HO := Aside0.mk ho1; have HBa := Aside0.mk hb1; clear ho1 hb1 hg1 hat1; refine Hold.of ?_))
                unfold Hold
                clear HO1 HB1 hbs q0 q1 q2 q3 q4 q5
                have HO' : Aside0 (wa.ownsRow w.heap.size 24 6 v1 (7 + 1) (flat (7 + 1))) := HO
                clear HO
                go_wp2_with fail
                go_roundw
                case rel => exact ⟨7 + 1, by omega, by go_num, HO', HBa⟩
                case measure => simp [intOf]
              · go_wp2_with fail
                refine (cofferdamlaw10_costs.calls 1 4 20 10 2 100 _ rfl).mono ?_
                rintro e w1 ⟨rfl, hb⟩
                have hba := below_alloc hb (.cells #[.int .u64 1, .int .u64 4, .int .u64 20, .int .u64 10, .int .u64 2, .int .u64 65537] 24)
                have HO1 := Aside0.mk (pw_own_below hO.out hba)
                have HB1 := Aside0.mk (below_step hB.out hba)
                have hbx : Bl (w1.alloc (.cells #[.int .u64 1, .int .u64 4, .int .u64 20, .int .u64 10, .int .u64 2, .int .u64 65537] 24)) w1.heap.size 24 #[.int .u64 1, .int .u64 4, .int .u64 20, .int .u64 10, .int .u64 2, .int .u64 65537] := heap_alloc_new w1 _
                have q0 : (w1.alloc (.cells #[.int .u64 1, .int .u64 4, .int .u64 20, .int .u64 10, .int .u64 2, .int .u64 65537] 24)).cell? ⟨w1.heap.size, 0, none⟩ = some (.int .u64 1) := blk_cell hbx 0
                have q1 : (w1.alloc (.cells #[.int .u64 1, .int .u64 4, .int .u64 20, .int .u64 10, .int .u64 2, .int .u64 65537] 24)).cell? ⟨w1.heap.size, 1, none⟩ = some (.int .u64 4) := blk_cell hbx 1
                have q2 : (w1.alloc (.cells #[.int .u64 1, .int .u64 4, .int .u64 20, .int .u64 10, .int .u64 2, .int .u64 65537] 24)).cell? ⟨w1.heap.size, 2, none⟩ = some (.int .u64 20) := blk_cell hbx 2
                have q3 : (w1.alloc (.cells #[.int .u64 1, .int .u64 4, .int .u64 20, .int .u64 10, .int .u64 2, .int .u64 65537] 24)).cell? ⟨w1.heap.size, 3, none⟩ = some (.int .u64 10) := blk_cell hbx 3
                have q4 : (w1.alloc (.cells #[.int .u64 1, .int .u64 4, .int .u64 20, .int .u64 10, .int .u64 2, .int .u64 65537] 24)).cell? ⟨w1.heap.size, 4, none⟩ = some (.int .u64 2) := blk_cell hbx 4
                have q5 : (w1.alloc (.cells #[.int .u64 1, .int .u64 4, .int .u64 20, .int .u64 10, .int .u64 2, .int .u64 65537] 24)).cell? ⟨w1.heap.size, 5, none⟩ = some (.int .u64 65537) := blk_cell hbx 5
                have hsz : (w1.alloc (.cells #[.int .u64 1, .int .u64 4, .int .u64 20, .int .u64 10, .int .u64 2, .int .u64 65537] 24)).heap.size = w1.heap.size + 1 := by simp only [World.alloc, Array.size_push]
                have hbs : Aside0 (w.heap.size ≤ (w1.alloc (.cells #[.int .u64 1, .int .u64 4, .int .u64 20, .int .u64 10, .int .u64 2, .int .u64 65537] 24)).heap.size) := ⟨HB1.out.size⟩
                clear hb hba hO hB hbx
                go_wp2_with (first | ((with_reducible refine gate_builtin (b := .append) (xs := #[.tmp 114, .tmp 116]) rfl ?_); at_builtin; refine print_append_cells (w0 := w) w.heap.size rfl (.tmp 114) (.tmp 116) 47 24 (.agg #[.int .u64 0, .int .u64 0, .int .u64 0, .int .u64 0, .int .u64 0, .int .u64 0]) 6 48 rfl Try.underlying47 info24 rfl (by decide) (by decide) _ 8 (flat 8) [.int .u64 1, .int .u64 4, .int .u64 20, .int .u64 10, .int .u64 2, .int .u64 65537] rfl (by rw [hsz]; rfl) rfl (by intro u hu; simp at hu; rcases hu with rfl | rfl | rfl | rfl | rfl | rfl <;> rfl) HO1.out HB1.out hbs.out (by decide) ?_; intro v1 wa ho1 hb1 hg1 hat1; have HO := Aside0.mk ho1; have HBa := Aside0.mk hb1; clear ho1 hb1 hg1 hat1; refine Hold.of ?_))
                unfold Hold
                clear HO1 HB1 hbs q0 q1 q2 q3 q4 q5
                have HO' : Aside0 (wa.ownsRow w.heap.size 24 6 v1 (8 + 1) (flat (8 + 1))) := HO
                clear HO
                go_wp2_with fail
                go_roundw
                case rel => exact ⟨8 + 1, by omega, by go_num, HO', HBa⟩
                case measure => simp [intOf]
              · go_wp2_with fail
                refine (cofferdamlaw10_costs.calls 1 4 20 10 2 100 _ rfl).mono ?_
                rintro e w1 ⟨rfl, hb⟩
                have hba := below_alloc hb (.cells #[.int .u64 1, .int .u64 4, .int .u64 20, .int .u64 10, .int .u64 18446744073709551615, .int .u64 100] 24)
                have HO1 := Aside0.mk (pw_own_below hO.out hba)
                have HB1 := Aside0.mk (below_step hB.out hba)
                have hbx : Bl (w1.alloc (.cells #[.int .u64 1, .int .u64 4, .int .u64 20, .int .u64 10, .int .u64 18446744073709551615, .int .u64 100] 24)) w1.heap.size 24 #[.int .u64 1, .int .u64 4, .int .u64 20, .int .u64 10, .int .u64 18446744073709551615, .int .u64 100] := heap_alloc_new w1 _
                have q0 : (w1.alloc (.cells #[.int .u64 1, .int .u64 4, .int .u64 20, .int .u64 10, .int .u64 18446744073709551615, .int .u64 100] 24)).cell? ⟨w1.heap.size, 0, none⟩ = some (.int .u64 1) := blk_cell hbx 0
                have q1 : (w1.alloc (.cells #[.int .u64 1, .int .u64 4, .int .u64 20, .int .u64 10, .int .u64 18446744073709551615, .int .u64 100] 24)).cell? ⟨w1.heap.size, 1, none⟩ = some (.int .u64 4) := blk_cell hbx 1
                have q2 : (w1.alloc (.cells #[.int .u64 1, .int .u64 4, .int .u64 20, .int .u64 10, .int .u64 18446744073709551615, .int .u64 100] 24)).cell? ⟨w1.heap.size, 2, none⟩ = some (.int .u64 20) := blk_cell hbx 2
                have q3 : (w1.alloc (.cells #[.int .u64 1, .int .u64 4, .int .u64 20, .int .u64 10, .int .u64 18446744073709551615, .int .u64 100] 24)).cell? ⟨w1.heap.size, 3, none⟩ = some (.int .u64 10) := blk_cell hbx 3
                have q4 : (w1.alloc (.cells #[.int .u64 1, .int .u64 4, .int .u64 20, .int .u64 10, .int .u64 18446744073709551615, .int .u64 100] 24)).cell? ⟨w1.heap.size, 4, none⟩ = some (.int .u64 18446744073709551615) := blk_cell hbx 4
                have q5 : (w1.alloc (.cells #[.int .u64 1, .int .u64 4, .int .u64 20, .int .u64 10, .int .u64 18446744073709551615, .int .u64 100] 24)).cell? ⟨w1.heap.size, 5, none⟩ = some (.int .u64 100) := blk_cell hbx 5
                have hsz : (w1.alloc (.cells #[.int .u64 1, .int .u64 4, .int .u64 20, .int .u64 10, .int .u64 18446744073709551615, .int .u64 100] 24)).heap.size = w1.heap.size + 1 := by simp only [World.alloc, Array.size_push]
                have hbs : Aside0 (w.heap.size ≤ (w1.alloc (.cells #[.int .u64 1, .int .u64 4, .int .u64 20, .int .u64 10, .int .u64 18446744073709551615, .int .u64 100] 24)).heap.size) := ⟨HB1.out.size⟩
                clear hb hba hO hB hbx
                go_wp2_with (first | ((with_reducible refine gate_builtin (b := .append) (xs := #[.tmp 114, .tmp 116]) rfl ?_); at_builtin; refine print_append_cells (w0 := w) w.heap.size rfl (.tmp 114) (.tmp 116) 47 24 (.agg #[.int .u64 0, .int .u64 0, .int .u64 0, .int .u64 0, .int .u64 0, .int .u64 0]) 6 48 rfl Try.underlying47 info24 rfl (by decide) (by decide) _ 9 (flat 9) [.int .u64 1, .int .u64 4, .int .u64 20, .int .u64 10, .int .u64 18446744073709551615, .int .u64 100] rfl (by rw [hsz]; rfl) rfl (by intro u hu; simp at hu; rcases hu with rfl | rfl | rfl | rfl | rfl | rfl <;> rfl) HO1.out HB1.out hbs.out (by decide) ?_; intro v1 wa ho1 hb1 hg1 hat1; have HO := Aside0.mk ho1; have HBa := Aside0.mk hb1; clear ho1 hb1 hg1 hat1; refine Hold.of ?_))
                unfold Hold
                clear HO1 HB1 hbs q0 q1 q2 q3 q4 q5
                have HO' : Aside0 (wa.ownsRow w.heap.size 24 6 v1 (9 + 1) (flat (9 + 1))) := HO
                clear HO
                go_wp2_with fail
                go_roundw
                case rel => exact ⟨9 + 1, by omega, by go_num, HO', HBa⟩
                case measure => simp [intOf]
            · have hi10 : i = 10 := by omega
              subst hi10
              clear hi hlt
              rw [show (((10 : Nat) : Int)) = (10 : Int) from rfl]
              obtain ⟨g, cap, rfl, hbg, hgl⟩ := hO.out.form (by omega)
              have HCL : Aside0 (∀ j v, (flat 10)[j]? = some v → wr.cell? ⟨g, j, none⟩ = some v) := ⟨fun j v hj => by
                have := hO.out.cells (g := g) rfl j v hj
                rwa [add_plain] at this⟩
              clear hO hbg hgl
              go_wp2_with fail
              go_loopw [12] (fun v12 wr => ∃ i : Nat, i ≤ 10 ∧ v12 = .int .i64 i ∧ Aside0 (∀ j v, (flat 10)[j]? = some v → wr.cell? ⟨g, j, none⟩ = some v) ∧ Aside0 (Below w.heap.size w wr)) (fun v12 _ => 10 - (intOf v12).toNat)
              case atStart => exact ⟨0, by omega, rfl, HCL, hB⟩
              case round =>
                clear HCL hB
                obtain ⟨i, hi, rfl, hC, hB⟩ := hrel
                by_cases hlt : i < 10
                · obtain ⟨c, _, ⟨hk1, hk2, hk3, hk4, hk5⟩, _, hfl⟩ := wrong_at i hlt
                  have K1 := Aside0.mk hk1
                  have K2 := Aside0.mk hk2
                  have K3 := Aside0.mk hk3
                  have K4 := Aside0.mk hk4
                  have K5 := Aside0.mk hk5
                  have HFL := Aside0.mk hfl
                  obtain ⟨x0, x1, x2, x3, x4, x5⟩ := c
                  clear hk1 hk2 hk3 hk4 hk5 hfl
                  simp only at K1 K2 K3 K4 K5
                  have q0 := hC.out _ _ ((HFL.out 0 (by omega)).trans rfl)
                  have q1 := hC.out _ _ ((HFL.out 1 (by omega)).trans rfl)
                  have q2 := hC.out _ _ ((HFL.out 2 (by omega)).trans rfl)
                  have q3 := hC.out _ _ ((HFL.out 3 (by omega)).trans rfl)
                  have q4 := hC.out _ _ ((HFL.out 4 (by omega)).trans rfl)
                  have q5 := hC.out _ _ ((HFL.out 5 (by omega)).trans rfl)
                  rw [Nat.add_zero] at q0
                  go_wp2_with fail
                  refine (cost_Touch.calls 40 x0 x1 x2 x3 x4 x5 false false 0 100 _ K2.out).mono ?_
                  rintro e w1 ⟨rfl, hb⟩
                  have hC1 : Aside0 (∀ j v, (flat 10)[j]? = some v → w1.cell? ⟨g, j, none⟩ = some v) := ⟨fun j v hj => pw_cell_below hb (hC.out j v hj)⟩
                  have hB1 := Aside0.mk (below_step hB.out hb)
                  have p0 := pw_cell_below hb q0
                  have p1 := pw_cell_below hb q1
                  have p2 := pw_cell_below hb q2
                  have p3 := pw_cell_below hb q3
                  have p4 := pw_cell_below hb q4
                  have p5 := pw_cell_below hb q5
                  clear hb hC hB q0 q1 q2 q3 q4 q5
                  have hC := hC1
                  have hB := hB1
                  have q0 := p0
                  have q1 := p1
                  have q2 := p2
                  have q3 := p3
                  have q4 := p4
                  have q5 := p5
                  clear hC1 hB1 p0 p1 p2 p3 p4 p5
                  go_wp2_with fail
                  refine (cost_Worst.calls 40 x0 x1 x2 x3 x4 x5 0 0 0 0 1 0 100 _ K3.out).mono ?_
                  rintro e w2 ⟨rfl, hb⟩
                  have hC2 : Aside0 (∀ j v, (flat 10)[j]? = some v → w2.cell? ⟨g, j, none⟩ = some v) := ⟨fun j v hj => pw_cell_below hb (hC.out j v hj)⟩
                  have hB2 := Aside0.mk (below_step hB.out hb)
                  have p0 := pw_cell_below hb q0
                  have p1 := pw_cell_below hb q1
                  have p2 := pw_cell_below hb q2
                  have p3 := pw_cell_below hb q3
                  have p4 := pw_cell_below hb q4
                  have p5 := pw_cell_below hb q5
                  clear hb hC hB q0 q1 q2 q3 q4 q5
                  have hC := hC2
                  have hB := hB2
                  have q0 := p0
                  have q1 := p1
                  have q2 := p2
                  have q3 := p3
                  have q4 := p4
                  have q5 := p5
                  clear hC2 hB2 p0 p1 p2 p3 p4 p5
                  go_wp2_with fail
                  refine (cost_Most.calls 40 x0 x1 x2 x3 x4 x5 0 0 0 0 0 100 _ K4.out).mono ?_
                  rintro e w3 ⟨rfl, hb⟩
                  have hC3 : Aside0 (∀ j v, (flat 10)[j]? = some v → w3.cell? ⟨g, j, none⟩ = some v) := ⟨fun j v hj => pw_cell_below hb (hC.out j v hj)⟩
                  have hB3 := Aside0.mk (below_step hB.out hb)
                  have p0 := pw_cell_below hb q0
                  have p1 := pw_cell_below hb q1
                  have p2 := pw_cell_below hb q2
                  have p3 := pw_cell_below hb q3
                  have p4 := pw_cell_below hb q4
                  have p5 := pw_cell_below hb q5
                  clear hb hC hB q0 q1 q2 q3 q4 q5
                  have hC := hC3
                  have hB := hB3
                  have q0 := p0
                  have q1 := p1
                  have q2 := p2
                  have q3 := p3
                  have q4 := p4
                  have q5 := p5
                  clear hC3 hB3 p0 p1 p2 p3 p4 p5
                  go_wp2_with fail
                  refine (cost_Switch.calls 40 x0 x1 x2 x3 x4 x5 (-1) 0 0 100 _ K5.out).mono ?_
                  rintro e w4 ⟨rfl, hb⟩
                  have hC4 : Aside0 (∀ j v, (flat 10)[j]? = some v → w4.cell? ⟨g, j, none⟩ = some v) := ⟨fun j v hj => pw_cell_below hb (hC.out j v hj)⟩
                  have hB4 := Aside0.mk (below_step hB.out hb)
                  have p0 := pw_cell_below hb q0
                  have p1 := pw_cell_below hb q1
                  have p2 := pw_cell_below hb q2
                  have p3 := pw_cell_below hb q3
                  have p4 := pw_cell_below hb q4
                  have p5 := pw_cell_below hb q5
                  clear hb hC hB q0 q1 q2 q3 q4 q5
                  have hC := hC4
                  have hB := hB4
                  have q0 := p0
                  have q1 := p1
                  have q2 := p2
                  have q3 := p3
                  have q4 := p4
                  have q5 := p5
                  clear hC4 hB4 p0 p1 p2 p3 p4 p5
                  go_wp2_with fail
                  refine (cost_Check.calls 40 x0 x1 x2 x3 x4 x5 100 _ K1.out).mono ?_
                  rintro e w5 ⟨rfl, hb⟩
                  have hC5 : Aside0 (∀ j v, (flat 10)[j]? = some v → w5.cell? ⟨g, j, none⟩ = some v) := ⟨fun j v hj => pw_cell_below hb (hC.out j v hj)⟩
                  have hB5 := Aside0.mk (below_step hB.out hb)
                  have p0 := pw_cell_below hb q0
                  have p1 := pw_cell_below hb q1
                  have p2 := pw_cell_below hb q2
                  have p3 := pw_cell_below hb q3
                  have p4 := pw_cell_below hb q4
                  have p5 := pw_cell_below hb q5
                  clear hb hC hB q0 q1 q2 q3 q4 q5
                  have hC := hC5
                  have hB := hB5
                  have q0 := p0
                  have q1 := p1
                  have q2 := p2
                  have q3 := p3
                  have q4 := p4
                  have q5 := p5
                  clear hC5 hB5 p0 p1 p2 p3 p4 p5
                  go_wp2_with fail
                  clear q0 q1 q2 q3 q4 q5
                  go_roundw
                  case rel => exact ⟨i + 1, by omega, by go_num, hC, hB⟩
                  case measure => simp [intOf]; omega
                · have hi10 : i = 10 := by omega
                  subst hi10
                  clear hi hlt hC
                  rw [show (((10 : Nat) : Int)) = (10 : Int) from rfl]
                  have hbx : Bl (wr.alloc (.cells #[.int .u64 65536, .int .u64 65536, .int .u64 65536, .int .u64 65536, .int .u64 65536, .int .u64 65536] 24)) wr.heap.size 24 #[.int .u64 65536, .int .u64 65536, .int .u64 65536, .int .u64 65536, .int .u64 65536, .int .u64 65536] := heap_alloc_new wr _
                  have HX := Aside0.mk hbx
                  have HB1 := Aside0.mk (below_alloc hB.out (.cells #[.int .u64 65536, .int .u64 65536, .int .u64 65536, .int .u64 65536, .int .u64 65536, .int .u64 65536] 24))
                  have q0 : (wr.alloc (.cells #[.int .u64 65536, .int .u64 65536, .int .u64 65536, .int .u64 65536, .int .u64 65536, .int .u64 65536] 24)).cell? ⟨wr.heap.size, 0, none⟩ = some (.int .u64 65536) := blk_cell hbx 0
                  have q1 : (wr.alloc (.cells #[.int .u64 65536, .int .u64 65536, .int .u64 65536, .int .u64 65536, .int .u64 65536, .int .u64 65536] 24)).cell? ⟨wr.heap.size, 1, none⟩ = some (.int .u64 65536) := blk_cell hbx 1
                  have q2 : (wr.alloc (.cells #[.int .u64 65536, .int .u64 65536, .int .u64 65536, .int .u64 65536, .int .u64 65536, .int .u64 65536] 24)).cell? ⟨wr.heap.size, 2, none⟩ = some (.int .u64 65536) := blk_cell hbx 2
                  have q3 : (wr.alloc (.cells #[.int .u64 65536, .int .u64 65536, .int .u64 65536, .int .u64 65536, .int .u64 65536, .int .u64 65536] 24)).cell? ⟨wr.heap.size, 3, none⟩ = some (.int .u64 65536) := blk_cell hbx 3
                  have q4 : (wr.alloc (.cells #[.int .u64 65536, .int .u64 65536, .int .u64 65536, .int .u64 65536, .int .u64 65536, .int .u64 65536] 24)).cell? ⟨wr.heap.size, 4, none⟩ = some (.int .u64 65536) := blk_cell hbx 4
                  have q5 : (wr.alloc (.cells #[.int .u64 65536, .int .u64 65536, .int .u64 65536, .int .u64 65536, .int .u64 65536, .int .u64 65536] 24)).cell? ⟨wr.heap.size, 5, none⟩ = some (.int .u64 65536) := blk_cell hbx 5
                  clear hbx hB
                  go_wp2_with fail
                  refine (cost_Worst.calls 40 65536 65536 65536 65536 65536 65536 8 4096 5120 4096 3 5302190080 0 _ big_w).mono ?_
                  rintro e w1 ⟨rfl, hb⟩
                  have hba := below_alloc hb (.cells ksh 35)
                  have HX1 := Aside0.mk (HX.out.later hba)
                  have HB2 := Aside0.mk (below_step HB1.out hba)
                  have HS1 : Aside0 (Bl (w1.alloc (.cells ksh 35)) w1.heap.size 35 ksh) := ⟨heap_alloc_new w1 _⟩
                  unfold ksh at HX1 HB2
                  have HS2 := HS1
                  unfold ksh at HS2
                  clear hb hba HX HB1 q0 q1 q2 q3 q4 q5
                  go_wp2_with fail
                  have HS3 : Aside0 (Bl (w1.alloc (.cells #[.int .i64 3, .int .i64 8, .int .i64 10, .int .i64 5, .int .i64 0, .int .i64 8, .int .i64 10, .int .i64 5, .int .i64 16, .int .i64 8, .int .i64 10, .int .i64 5, .int .i64 1, .int .i64 1, .int .i64 10, .int .i64 5, .int .i64 1, .int .i64 4097, .int .i64 10, .int .i64 5, .int .i64 1, .int .i64 2, .int .i64 0, .int .i64 5, .int .i64 1, .int .i64 2, .int .i64 5121, .int .i64 5, .int .i64 1, .int .i64 2, .int .i64 1, .int .i64 0, .int .i64 1, .int .i64 2, .int .i64 1, .int .i64 4097] 35)) w1.heap.size 35 ksh) := HS1
                  clear HS1 HS2
                  generalize w1.alloc (.cells #[.int .i64 3, .int .i64 8, .int .i64 10, .int .i64 5, .int .i64 0, .int .i64 8, .int .i64 10, .int .i64 5, .int .i64 16, .int .i64 8, .int .i64 10, .int .i64 5, .int .i64 1, .int .i64 1, .int .i64 10, .int .i64 5, .int .i64 1, .int .i64 4097, .int .i64 10, .int .i64 5, .int .i64 1, .int .i64 2, .int .i64 0, .int .i64 5, .int .i64 1, .int .i64 2, .int .i64 5121, .int .i64 5, .int .i64 1, .int .i64 2, .int .i64 1, .int .i64 0, .int .i64 1, .int .i64 2, .int .i64 1, .int .i64 4097] 35) = wt at HX1 HB2 HS3 ⊢
                  generalize w1.heap.size = gs at HS3 ⊢
                  generalize wr.heap.size = gx at HX1 ⊢
                  go_loopw [25] (fun v25 wr => ∃ i : Nat, i ≤ 9 ∧ v25 = .int .i64 i ∧ Aside0 (Bl wr gx 24 #[.int .u64 65536, .int .u64 65536, .int .u64 65536, .int .u64 65536, .int .u64 65536, .int .u64 65536]) ∧ Aside0 (Bl wr gs 35 ksh) ∧ Aside0 (Below w.heap.size w wr)) (fun v25 _ => 9 - (intOf v25).toNat)
                  case atStart => exact ⟨0, by omega, rfl, HX1, HS3, HB2⟩
                  case round =>
                    clear HX1 HS3 HB2
                    obtain ⟨i, hi, rfl, hX, hS, hB⟩ := hrel
                    by_cases hlt : i < 9
                    · obtain ⟨y0, y1, y2, y3, z0, z1, z2, z3, hw, hm⟩ := shape_at i hlt
                      have HW := Aside0.mk hw
                      have HM := Aside0.mk hm
                      have q0 := (blk_cell hS.out (i * 4)).trans z0
                      have q1 := (blk_cell hS.out (i * 4 + 1)).trans z1
                      have q2 := (blk_cell hS.out (i * 4 + 2)).trans z2
                      have q3 := (blk_cell hS.out (i * 4 + 3)).trans z3
                      clear hw hm
                      have Z := Aside0.mk (And.intro z0 (And.intro z1 (And.intro z2 z3)))
                      clear z0 z1 z2 z3
                      go_wp2_with fail
                      go_region_held3 (fun w' => w'.cell? ⟨gs, i * 4, none⟩ = some (.int .i64 y0) ∧ w'.cell? ⟨gs, i * 4 + 1, none⟩ = some (.int .i64 y1) ∧ w'.cell? ⟨gs, i * 4 + 2, none⟩ = some (.int .i64 y2) ∧ w'.cell? ⟨gs, i * 4 + 3, none⟩ = some (.int .i64 y3) ∧ Below wr.heap.size wr w')
                        (exact ⟨pw_cell_below (w := wr) (by (repeat (with_reducible first | exact Below.refl _ _ | exact hX2 | exact hX1 | apply below_alloc | apply pw_below_drewN | apply below_drew))) q0, pw_cell_below (w := wr) (by (repeat (with_reducible first | exact Below.refl _ _ | exact hX2 | exact hX1 | apply below_alloc | apply pw_below_drewN | apply below_drew))) q1, pw_cell_below (w := wr) (by (repeat (with_reducible first | exact Below.refl _ _ | exact hX2 | exact hX1 | apply below_alloc | apply pw_below_drewN | apply below_drew))) q2, pw_cell_below (w := wr) (by (repeat (with_reducible first | exact Below.refl _ _ | exact hX2 | exact hX1 | apply below_alloc | apply pw_below_drewN | apply below_drew))) q3, (by (repeat (with_reducible first | exact Below.refl _ _ | exact hX2 | exact hX1 | apply below_alloc | apply pw_below_drewN | apply below_drew)))⟩)
                        (first
                          | (go_at_call 20; refine (cofferdamlaw10_costs.calls 1 4 20 10 2 100 _ rfl).mono ?_; rintro e wi ⟨rfl, hb1⟩; have hX1 := below_step (w := wr) (by (repeat (with_reducible first | exact Below.refl _ _ | exact hX2 | exact hX1 | apply below_alloc | apply pw_below_drewN | apply below_drew))) hb1)
                          | (go_at_call 15; refine (cost_Worst.calls 40 1 4 20 10 2 100 y0 y1 y2 y3 0 0 2 _ HW.out).mono ?_; rintro e wj ⟨rfl, hb2⟩; have hX2 := below_step (w := wr) (by (repeat (with_reducible first | exact Below.refl _ _ | exact hX2 | exact hX1 | apply below_alloc | apply pw_below_drewN | apply below_drew))) hb2))
                      have HX2 := Aside0.mk (hX.out.later hX2)
                      have HS2 := Aside0.mk (hS.out.later hX2)
                      have HB2 := Aside0.mk (below_step hB.out hX2)
                      clear hX hS hB hX1 hX2 hb1 hb2 q0 q1 q2 q3
                      obtain ⟨z0, z1, z2, z3⟩ := Z.out
                      have q0 := (blk_cell HS2.out (i * 4)).trans z0
                      have q1 := (blk_cell HS2.out (i * 4 + 1)).trans z1
                      have q2 := (blk_cell HS2.out (i * 4 + 2)).trans z2
                      have q3 := (blk_cell HS2.out (i * 4 + 3)).trans z3
                      clear z0 z1 z2 z3
                      go_wp2_with fail
                      go_region_held3 (fun w' => w'.cell? ⟨gs, i * 4, none⟩ = some (.int .i64 y0) ∧ w'.cell? ⟨gs, i * 4 + 1, none⟩ = some (.int .i64 y1) ∧ w'.cell? ⟨gs, i * 4 + 2, none⟩ = some (.int .i64 y2) ∧ w'.cell? ⟨gs, i * 4 + 3, none⟩ = some (.int .i64 y3) ∧ Below wj.heap.size wj w')
                        (exact ⟨pw_cell_below (w := wj) (by (repeat (with_reducible first | exact Below.refl _ _ | exact hX2 | exact hX1 | apply below_alloc | apply pw_below_drewN | apply below_drew))) q0, pw_cell_below (w := wj) (by (repeat (with_reducible first | exact Below.refl _ _ | exact hX2 | exact hX1 | apply below_alloc | apply pw_below_drewN | apply below_drew))) q1, pw_cell_below (w := wj) (by (repeat (with_reducible first | exact Below.refl _ _ | exact hX2 | exact hX1 | apply below_alloc | apply pw_below_drewN | apply below_drew))) q2, pw_cell_below (w := wj) (by (repeat (with_reducible first | exact Below.refl _ _ | exact hX2 | exact hX1 | apply below_alloc | apply pw_below_drewN | apply below_drew))) q3, (by (repeat (with_reducible first | exact Below.refl _ _ | exact hX2 | exact hX1 | apply below_alloc | apply pw_below_drewN | apply below_drew)))⟩)
                        (first
                          | (go_at_call 20; refine (cofferdamlaw10_costs.calls 1 4 20 10 2 100 _ rfl).mono ?_; rintro e wi ⟨rfl, hb1⟩; have hX1 := below_step (w := wj) (by (repeat (with_reducible first | exact Below.refl _ _ | exact hX2 | exact hX1 | apply below_alloc | apply pw_below_drewN | apply below_drew))) hb1)
                          | (go_at_call 17; refine (cost_Most.calls 40 1 4 20 10 2 100 y0 y1 y2 y3 0 2 _ HM.out).mono ?_; rintro e wk ⟨rfl, hb2⟩; have hX2 := below_step (w := wj) (by (repeat (with_reducible first | exact Below.refl _ _ | exact hX2 | exact hX1 | apply below_alloc | apply pw_below_drewN | apply below_drew))) hb2))
                      have HX3 := Aside0.mk (HX2.out.later hX2)
                      have HS3 := Aside0.mk (HS2.out.later hX2)
                      have HB3 := Aside0.mk (below_step HB2.out hX2)
                      clear HX2 HS2 HB2 hX1 hX2 hb1 hb2 q0 q1 q2 q3
                      go_wp2_with fail
                      go_roundw
                      case rel => exact ⟨i + 1, by omega, by go_num, HX3, HS3, HB3⟩
                      case measure => simp [intOf]; omega
                    · have hi9 : i = 9 := by omega
                      subst hi9
                      rw [show (((9 : Nat) : Int)) = (9 : Int) from rfl]
                      have HX := hX
                      have HB := hB
                      clear hi hlt hX hS hB
                      go_wp2_with fail
                      refine (cofferdamlaw10_costs.calls 1 4 20 10 2 100 _ rfl).mono ?_
                      rintro e s0 ⟨rfl, hb⟩
                      have HB' := Aside0.mk (below_step HB.out hb)
                      have HX' := Aside0.mk (HX.out.later hb)
                      clear hb HB HX
                      have HB := HB'
                      have HX := HX'
                      clear HB' HX'
                      go_wp2_with fail
                      refine (cost_Switch.calls 40 1 4 20 10 2 100 (-1) 0 0 2 _ sw1).mono ?_
                      rintro e u0 ⟨rfl, hb⟩
                      have HB' := Aside0.mk (below_step HB.out hb)
                      have HX' := Aside0.mk (HX.out.later hb)
                      clear hb HB HX
                      have HB := HB'
                      have HX := HX'
                      clear HB' HX'
                      go_wp2_with fail
                      refine (cofferdamlaw10_costs.calls 1 4 20 10 2 100 _ rfl).mono ?_
                      rintro e s1 ⟨rfl, hb⟩
                      have HB' := Aside0.mk (below_step HB.out hb)
                      have HX' := Aside0.mk (HX.out.later hb)
                      clear hb HB HX
                      have HB := HB'
                      have HX := HX'
                      clear HB' HX'
                      go_wp2_with fail
                      refine (cost_Switch.calls 40 1 4 20 10 2 100 65537 0 0 2 _ sw2).mono ?_
                      rintro e u1 ⟨rfl, hb⟩
                      have HB' := Aside0.mk (below_step HB.out hb)
                      have HX' := Aside0.mk (HX.out.later hb)
                      clear hb HB HX
                      have HB := HB'
                      have HX := HX'
                      clear HB' HX'
                      go_wp2_with fail
                      refine (cofferdamlaw10_costs.calls 1 4 20 10 2 100 _ rfl).mono ?_
                      rintro e s2 ⟨rfl, hb⟩
                      have HB' := Aside0.mk (below_step HB.out hb)
                      have HX' := Aside0.mk (HX.out.later hb)
                      clear hb HB HX
                      have HB := HB'
                      have HX := HX'
                      clear HB' HX'
                      go_wp2_with fail
                      refine (cost_Switch.calls 40 1 4 20 10 2 100 0 65 0 2 _ sw3).mono ?_
                      rintro e u2 ⟨rfl, hb⟩
                      have HB' := Aside0.mk (below_step HB.out hb)
                      have HX' := Aside0.mk (HX.out.later hb)
                      clear hb HB HX
                      have HB := HB'
                      have HX := HX'
                      clear HB' HX'
                      go_wp2_with fail
                      refine (cofferdamlaw10_costs.calls 1 4 20 10 2 100 _ rfl).mono ?_
                      rintro e s3 ⟨rfl, hb⟩
                      have HB' := Aside0.mk (below_step HB.out hb)
                      have HX' := Aside0.mk (HX.out.later hb)
                      clear hb HB HX
                      have HB := HB'
                      have HX := HX'
                      clear HB' HX'
                      go_wp2_with fail
                      refine (cost_Switch.calls 40 1 4 20 10 2 100 0 (-1) 0 2 _ sw4).mono ?_
                      rintro e u3 ⟨rfl, hb⟩
                      have HB' := Aside0.mk (below_step HB.out hb)
                      have HX' := Aside0.mk (HX.out.later hb)
                      clear hb HB HX
                      have HB := HB'
                      have HX := HX'
                      clear HB' HX'
                      have q0 : u3.cell? ⟨gx, 0, none⟩ = some (.int .u64 65536) := blk_cell HX.out 0
                      have q1 : u3.cell? ⟨gx, 1, none⟩ = some (.int .u64 65536) := blk_cell HX.out 1
                      have q2 : u3.cell? ⟨gx, 2, none⟩ = some (.int .u64 65536) := blk_cell HX.out 2
                      have q3 : u3.cell? ⟨gx, 3, none⟩ = some (.int .u64 65536) := blk_cell HX.out 3
                      have q4 : u3.cell? ⟨gx, 4, none⟩ = some (.int .u64 65536) := blk_cell HX.out 4
                      have q5 : u3.cell? ⟨gx, 5, none⟩ = some (.int .u64 65536) := blk_cell HX.out 5
                      go_wp2_with fail
                      refine (cost_Switch.calls 40 65536 65536 65536 65536 65536 65536 65536 64 4299161600 0 _ sw5).mono ?_
                      rintro e u4 ⟨rfl, hb⟩
                      have HB' := Aside0.mk (below_step HB.out hb)
                      have HX' := Aside0.mk (HX.out.later hb)
                      clear hb HB HX
                      have HB := HB'
                      have HX := HX'
                      clear HB' HX'
                      clear q0 q1 q2 q3 q4 q5
                      go_wp2_with fail
                      refine (cofferdamlaw10_works.calls 60 true _ works_v).mono ?_
                      rintro e u5 ⟨rfl, hb⟩
                      have HB' := Aside0.mk (below_step HB.out hb)
                      have HX' := Aside0.mk (HX.out.later hb)
                      clear hb HB HX
                      have HB := HB'
                      have HX := HX'
                      clear HB' HX'
                      go_wp2_with fail
                      refine (cofferdamlaw10_costs.calls 1 4 20 10 2 100 _ rfl).mono ?_
                      rintro e u6 ⟨rfl, hb⟩
                      have HB' := Aside0.mk (below_step HB.out hb)
                      have HX' := Aside0.mk (HX.out.later hb)
                      clear hb HB HX
                      have HB := HB'
                      have HX := HX'
                      clear HB' HX'
                      go_wp2_with fail
                      refine (cost_Check.calls 40 1 4 20 10 2 100 0 _ ck1).mono ?_
                      rintro e u7 ⟨rfl, hb⟩
                      have HB' := Aside0.mk (below_step HB.out hb)
                      have HX' := Aside0.mk (HX.out.later hb)
                      clear hb HB HX
                      have HB := HB'
                      have HX := HX'
                      clear HB' HX'
                      have q0 : u7.cell? ⟨gx, 0, none⟩ = some (.int .u64 65536) := blk_cell HX.out 0
                      have q1 : u7.cell? ⟨gx, 1, none⟩ = some (.int .u64 65536) := blk_cell HX.out 1
                      have q2 : u7.cell? ⟨gx, 2, none⟩ = some (.int .u64 65536) := blk_cell HX.out 2
                      have q3 : u7.cell? ⟨gx, 3, none⟩ = some (.int .u64 65536) := blk_cell HX.out 3
                      have q4 : u7.cell? ⟨gx, 4, none⟩ = some (.int .u64 65536) := blk_cell HX.out 4
                      have q5 : u7.cell? ⟨gx, 5, none⟩ = some (.int .u64 65536) := blk_cell HX.out 5
                      go_wp2_with fail
                      refine (cost_Check.calls 40 65536 65536 65536 65536 65536 65536 0 _ ck2).mono ?_
                      rintro e u8 ⟨rfl, hb⟩
                      have HB' := Aside0.mk (below_step HB.out hb)
                      have HX' := Aside0.mk (HX.out.later hb)
                      clear hb HB HX
                      have HB := HB'
                      have HX := HX'
                      clear HB' HX'
                      clear q0 q1 q2 q3 q4 q5
                      go_wp2_with fail
                      go_ret
                      exact ⟨rfl, HB.out⟩
end Go.Proofs.Ytpodcbaechlejaa.H
