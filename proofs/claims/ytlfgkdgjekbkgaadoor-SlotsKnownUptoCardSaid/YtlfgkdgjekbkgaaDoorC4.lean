/- Used of the area of slots. -/
import Derived.Test.YtlfgkdgjekbkgaaDoorC3
namespace Go.Proofs.YtlfgkdgjekbkgaaDoor.H
open Go.RowKit Go.Proofs.YtlfgkdgjekbkgaaDoorW.PrintWords Go.Proofs.YtlfgkdgjekbkgaaDoorW.PrintLast Go.Proofs.YtlfgkdgjekbkgaaDoorW.PrintMore
set_option linter.unusedVariables false
set_option linter.unusedSimpArgs false
set_option maxHeartbeats 8000000
set_option maxRecDepth 100000
theorem info3 : (Tryd.prog.info? 3).map (fun i => (i.zero, i.size, i.bytes)) = some (some (.int .i64 0), 1, 8) := by kernel_rfl
/-- What is left of a word from bit j on. -/
def rest (T : List Bool) (i j x : Nat) : Prop := x < 18446744073709551616 ∧ ∀ k, x.testBit k = (decide (j ≤ k ∧ k < 64) && bt T (64 * i + k))
theorem rest_start (T : List Bool) (i : Nat) : rest T i 0 (wd T i) := ⟨wd_lt T i, fun k => by rw [wd_bit]; simp⟩
theorem rest_end (T : List Bool) (i j : Nat) (hj : j ≤ 64) (h : rest T i j 0) : U T (64 * (i + 1)) = U T (64 * i + j) := by
  have := U_over T (64 - j) (64 * i + j) (fun q h1 h2 => by
    have h3 := h.2 (q - 64 * i)
    rw [show 64 * i + (q - 64 * i) = q by omega] at h3
    simpa [show j ≤ q - 64 * i ∧ q - 64 * i < 64 by omega] using h3)
  rwa [show 64 * i + j + (64 - j) = 64 * (i + 1) by omega] at this
theorem rest_next (T : List Bool) (i j x : Nat) (h : rest T i j x) (h0 : x ≠ 0) :
    Lib.ctz 64 x < 64 ∧ rest T i (Lib.ctz 64 x + 1) (x &&& (x - 1)) ∧ U T (64 * i + (Lib.ctz 64 x + 1)) = U T (64 * i + j) ++ [((64 * i + Lib.ctz 64 x : Nat) : Int)] ∧ x &&& (x - 1) < x := by
  obtain ⟨h1, h2, h3, h4⟩ := ctz_spec x h0 h.1
  have hlt : x &&& (x - 1) < x := Nat.lt_of_le_of_lt Nat.and_le_right (by omega)
  generalize Lib.ctz 64 x = t at h1 h2 h3 h4
  have hjt : j ≤ t := by
    rw [h.2 t] at h2
    simp at h2
    exact h2.1.1
  have hbt : bt T (64 * i + t) = true := by
    rw [h.2 t] at h2
    simp at h2
    exact h2.2
  refine ⟨h1, ⟨Nat.lt_trans hlt h.1, fun k => ?_⟩, ?_, hlt⟩
  · rw [h4 k]
    by_cases hk : k < t
    · rw [h3 k hk]
      have : ¬ (t + 1 ≤ k) := by omega
      simp [this]
    · by_cases he : k = t
      · subst he
        have : ¬ (k + 1 ≤ k) := by omega
        simp [this]
      · rw [h.2 k]
        have a1 : t + 1 ≤ k := by omega
        have a2 : j ≤ k := by omega
        simp [a1, a2, he]
  · rw [show 64 * i + (t + 1) = (64 * i + t) + 1 by omega, U_succ, if_pos hbt]
    have := U_over T (t - j) (64 * i + j) (fun q h5 h6 => by
      have h7 := h3 (q - 64 * i) (by omega)
      rw [h.2 (q - 64 * i), show 64 * i + (q - 64 * i) = q by omega] at h7
      simpa [show j ≤ q - 64 * i ∧ q - 64 * i < 64 by omega] using h7)
    rw [show 64 * i + j + (t - j) = 64 * i + t by omega] at this
    rw [this]
theorem and_sub (x : Nat) (hx : x < 18446744073709551616) (h0 : x ≠ 0) : bits .and .u64 (x : Int) ((x : Int) - 1) = ((x &&& (x - 1) : Nat) : Int) := by
  have e : (x : Int) - 1 = ((x - 1 : Nat) : Int) := by omega
  rw [e, u64_and_nat x (x - 1) hx (by omega)]
def UP (w : World) (T : List Bool) (e : Ending) (w' : World) : Prop :=
  ∃ v, e = .returned v ∧ w'.ownsRow w.heap.size 3 1 v (U T T.length).length (nums .i64 (U T T.length)) ∧ Below w.heap.size w w'
theorem used_any (w : World) (base c b : Nat) (T : List Bool) (h : SP w base c b T) :
    Calls Tryd.prog 12 #[.pointer (some ⟨c, 0, none⟩)] w (UP w T) := by
  have HS := Aside0.mk h
  have hn := h.small
  obtain ⟨m, hm⟩ : ∃ m, m = T.length / 64 + 1 := ⟨_, rfl⟩
  have hm17 : m ≤ 17 := by omega
  have HM := Aside0.mk hm
  have HTH := Aside0.mk (there_is _ _ _ _ _ h)
  have HA := Aside0.mk (U_all T (64 * m) (by omega))
  clear h hm
  go_enter Tryd.func12, Tryd.ntmps12
  go_wp2_with fail
  refine HTH.out.mono ?_
  rintro e w1 ⟨rfl, hd⟩
  have HB0 := Aside0.mk hd.below
  have hc1 : w1.cell? ⟨c, 1, none⟩ = some (.slice (some ⟨b, 0, none⟩) m m) := by rw [HM.out]; exact blk_cell (HS.out.later hd.below).hc 1
  clear hd HTH
  go_wp2_with fail
  clear hc1
  go_loopw [3, 14] (fun v3 v14 wr => ∃ i : Nat, i ≤ m ∧ v14 = .int .i64 i ∧ Aside0 (wr.ownsRow w.heap.size 3 1 v3 (U T (64 * i)).length (nums .i64 (U T (64 * i)))) ∧ Aside0 (Below w.heap.size w wr)) (fun _ v14 _ => m - (intOf v14).toNat)
  case atStart => exact ⟨0, by omega, rfl, ⟨own_nil _ _ _ _⟩, HB0⟩
  case round =>
    clear HB0
    obtain ⟨i, hi, rfl, hO, hB⟩ := hrel
    by_cases hlt : i < m
    · have hw := pw_cell_below hB.out (HS.out.word (i := i) (by have := HM.out; omega))
      have HR := Aside0.mk (rest_start T i)
      have hx := wd_lt T i
      generalize wd T i = x at hw HR hx
      go_wp2_with fail
      clear hw
      go_loopw [3, 5] (fun v3 v5 wr => ∃ j x : Nat, j ≤ 64 ∧ x < 18446744073709551616 ∧ v5 = .int .u64 x ∧ Aside0 (rest T i j x) ∧ Aside0 (wr.ownsRow w.heap.size 3 1 v3 (U T (64 * i + j)).length (nums .i64 (U T (64 * i + j)))) ∧ Aside0 (Below w.heap.size w wr)) (fun _ v5 _ => (intOf v5).toNat)
      case atStart => exact ⟨0, x, by omega, hx, rfl, HR, hO, hB⟩
      case round =>
        clear HR hO hB hx
        obtain ⟨j, x, hj, hx, rfl, hR, hO, hB⟩ := hrel
        by_cases hx0 : x = 0
        · subst hx0
          have hO' : Aside0 (wr.ownsRow w.heap.size 3 1 u3 (U T (64 * (i + 1))).length (nums .i64 (U T (64 * (i + 1))))) := ⟨by rw [rest_end T i j hj hR.out]; exact hO.out⟩
          clear hO hR
          go_wp2_with fail
          go_roundw
          case rel => exact ⟨i + 1, by omega, by go_num, hO', hB⟩
          case measure => simp [intOf]; omega
        · obtain ⟨ht64, hR2, hU2, hlt2⟩ := rest_next T i j x hR.out hx0
          have HR2 := Aside0.mk hR2
          have HU2 := Aside0.mk hU2
          have hand := and_sub x hx hx0
          have hx1 : (x : Int) ≠ 0 := by omega
          have htz := tz_any x hx wr (HS.out.tab.later hB.out)
          have HTZ := Aside0.mk htz
          have hul : Aside0 (((U T (64 * i + j)).length + 1) * 8 ≤ 140737488355328) := ⟨by have := U_len T (64 * i + j); omega⟩
          clear hR hR2 hU2 htz
          generalize Lib.ctz 64 x = t at HR2 HU2 HTZ ht64
          generalize x &&& (x - 1) = y at HR2 hlt2 hand
          have h64 : IntKind.i64.wrap ((i : Int) * 64) = 64 * (i : Int) := by rw [IntWalk.i64_in _ (by omega)]; omega
          have h65 : IntKind.i64.wrap (64 * (i : Int) + (t : Int)) = ((64 * i + t : Nat) : Int) := by rw [IntWalk.i64_in _ (by omega)]; omega
          have hul1 : Aside0 (64 * i + (t + 1) ≤ 64 * m) := ⟨by omega⟩
          obtain ⟨k, hk⟩ : ∃ k, k = 64 * i + t := ⟨_, rfl⟩
          rw [← hk] at HU2 h65
          have hbs : Aside0 (w.heap.size ≤ wr.heap.size) := ⟨hB.out.size⟩
          clear hk
          go_wp2_with fail
          refine HTZ.out.mono ?_
          rintro e w2 ⟨rfl, hwe⟩
          subst w2
          go_wp2_with (at_builtin; refine print_append_num (w0 := w) w.heap.size rfl (.tmp 21) (.tmp 27) 35 3 .i64 8 rfl Tryd.underlying35 info3 (by decide) _ (U T (64 * i + j)) (k : Int) rfl rfl hO.out hB.out hbs.out hul.out ?_; intro v1 wa ho1 hb1 hg1 hat1; have HO := Aside0.mk ho1; have HBa := Aside0.mk hb1; clear ho1 hb1 hg1 hat1)
          have HO' : Aside0 (wa.ownsRow w.heap.size 3 1 v1 (U T (64 * i + (t + 1))).length (nums .i64 (U T (64 * i + (t + 1))))) := ⟨by rw [HU2.out]; exact HO.out⟩
          clear HO hO hB hbs
          go_roundw
          case rel => exact ⟨t + 1, y, by omega, by omega, by go_num, HR2, HO', HBa⟩
          case measure => simp [intOf]; omega
    · have him : i = m := by omega
      subst him
      have hO' : Aside0 (wr.ownsRow w.heap.size 3 1 u3 (U T T.length).length (nums .i64 (U T T.length))) := ⟨by rw [← HA.out]; exact hO.out⟩
      clear hO
      go_wp2_with fail
      go_ret
      exact ⟨_, rfl, hO'.out, hB.out⟩
end Go.Proofs.YtlfgkdgjekbkgaaDoor.H
