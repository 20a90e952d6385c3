/- The reference's cache in memory, and what it tells. -/
import Derived.Test.YtcneepffhplpiaaC6
namespace Go.Proofs.Ytcneepffhplpiaa.H
open Go.RowKit Go.Proofs.YtcneepffhplpiaaW.PrintWords Go.Proofs.YtcneepffhplpiaaW.PrintLast Go.Proofs.YtcneepffhplpiaaW.PrintMore
set_option linter.unusedVariables false
set_option linter.unusedSimpArgs false
set_option maxHeartbeats 8000000
set_option maxRecDepth 100000
/-- The reference's cache: its box c, its sets' row b, the sets' rows vs, their tags M. -/
structure SR (w : World) (base c b : Nat) (wy : Int) (vs : List Value) (M : List (List Int)) : Prop where
  hc : Bl w c 63 #[.int .i64 wy, .slice (some ⟨b, 0, none⟩) M.length M.length]
  hb : Bl w b 23 vs.toArray
  rows : Rows w base vs M
  bc : base ≤ c
  bb : base ≤ b
  small : M.length ≤ 4096
  wy1 : 1 ≤ wy
  wy16 : wy ≤ 16
  lens : ∀ i, i < M.length → ((M.getD i []).length : Int) ≤ wy
theorem SR.foot_lt {w : World} {base c b : Nat} {wy : Int} {vs : List Value} {M : List (List Int)} (h : SR w base c b wy vs M) {k : Nat} (hk : Foot c b vs k) : base ≤ k ∧ k < w.heap.size := by
  rcases hk with rfl | rfl | ⟨i, hi, hk⟩
  · exact ⟨h.bc, blk_lt h.hc⟩
  · exact ⟨h.bb, blk_lt h.hb⟩
  · exact (h.rows.2.1 i (by rw [← h.rows.1]; exact hi)).lt k hk
theorem SR.move {w w' : World} {base c b : Nat} {wy : Int} {vs : List Value} {M : List (List Int)} (h : SR w base c b wy vs M) (hm : ∀ k, Foot c b vs k → w'.heap[k]? = w.heap[k]?) : SR w' base c b wy vs M :=
  ⟨(hm c (.inl rfl)).trans h.hc, (hm b (.inr (.inl rfl))).trans h.hb, ⟨h.rows.1, fun i hi => own_move (h.rows.2.1 i hi) (fun k hk => hm k (.inr (.inr ⟨i, by rw [h.rows.1]; exact hi, hk⟩))), h.rows.2.2⟩, h.bc, h.bb, h.small, h.wy1, h.wy16, h.lens⟩
theorem SR.later {w w' : World} {base c b : Nat} {wy : Int} {vs : List Value} {M : List (List Int)} (h : SR w base c b wy vs M) (hb : Below w.heap.size w w') : SR w' base c b wy vs M :=
  h.move (fun k hk => hb.block k (h.foot_lt hk).2)
theorem SR.kept {w w' : World} {S : Nat → Prop} {base c b : Nat} {wy : Int} {vs : List Value} {M : List (List Int)} (h : SR w base c b wy vs M) (hb : Kept w w' S) (hd : ∀ k, Foot c b vs k → ¬ S k) : SR w' base c b wy vs M :=
  h.move (fun k hk => hb.2 k (h.foot_lt hk).2 (hd k hk))
theorem SR.apart {w : World} {base c b : Nat} {wy : Int} {vs : List Value} {M : List (List Int)} (h : SR w base c b wy vs M) {n : Nat} (hn : n < M.length) : (vs.getD n nilV).ownBlock ≠ some c ∧ (vs.getD n nilV).ownBlock ≠ some b ∧ c ≠ b := by
  refine ⟨fun e => ?_, fun e => ?_, fun e => ?_⟩
  · obtain ⟨cs, hh⟩ := own_typed (h.rows.2.1 n hn) c e
    rw [h.hc] at hh
    simp at hh
  · obtain ⟨cs, hh⟩ := own_typed (h.rows.2.1 n hn) b e
    rw [h.hb] at hh
    simp at hh
  · have h1 := h.hc
    rw [e] at h1
    have h2 := h.hb
    unfold Bl at h1 h2
    rw [h1] at h2
    simp at h2
/-- One set's row was written, and its slice laid in its place. -/
theorem SR.touched {w w2 : World} {base c b : Nat} {wy : Int} {vs : List Value} {M : List (List Int)} (h : SR w base c b wy vs M) {n : Nat} (hn : n < M.length) {v' : Value} {L' : List Int}
    (hg : w.grownBy w2 (vs.getD n nilV).ownBlock) (ho : w2.ownsRow base 31 1 v' L'.length (nums .u64 L')) (hat : v'.ownBlock = (vs.getD n nilV).ownBlock ∨ ∃ g, v'.ownBlock = some g ∧ w.heap.size ≤ g) (hL : (L'.length : Int) ≤ wy) :
    SR (w2.setCell ⟨b, n, none⟩ v') base c b wy (vs.set n v') (M.set n L') ∧ Kept w (w2.setCell ⟨b, n, none⟩ v') (Foot c b vs) ∧ (∀ k, Foot c b (vs.set n v') k → Foot c b vs k ∨ w.heap.size ≤ k) ∧ Below base w (w2.setCell ⟨b, n, none⟩ v') := by
  obtain ⟨hac, hab, hcb⟩ := h.apart hn
  have hvl : n < vs.length := by rw [h.rows.1]; exact hn
  have hcl : c < w.heap.size := blk_lt h.hc
  have hbl : b < w.heap.size := blk_lt h.hb
  have hc2 : Bl w2 c 63 #[.int .i64 wy, .slice (some ⟨b, 0, none⟩) M.length M.length] := (hg.block c hcl (fun e => hac e.symm)).trans h.hc
  have hb2 : Bl w2 b 23 vs.toArray := (hg.block b hbl (fun e => hab e.symm)).trans h.hb
  have hv'b : v'.ownBlock ≠ some b := by
    rcases hat with e | ⟨g, e, hge⟩
    · rw [e]; exact hab
    · rw [e]; intro h; injection h with h; omega
  have hother : ∀ i, i < M.length → i ≠ n → ∀ k, (vs.getD i nilV).ownBlock = some k → k < w.heap.size ∧ (w2.setCell ⟨b, n, none⟩ v').heap[k]? = w.heap[k]? := by
    intro i hi hne k hk
    have hlt := ((h.rows.2.1 i hi).lt k hk).2
    have hkb : k ≠ b := fun e => (h.apart hi).2.1 (by rw [hk, e])
    have hkn : (vs.getD n nilV).ownBlock ≠ some k := h.rows.2.2 i n k hi hn hne hk
    exact ⟨hlt, (Below.heap_setCell w2 ⟨b, n, none⟩ v' k hkb).trans (hg.block k hlt (fun e => hkn e.symm))⟩
  have hsz : (w2.setCell ⟨b, n, none⟩ v').heap.size = w2.heap.size := by simp [World.setCell]
  refine ⟨⟨?_, ?_, ⟨by simp [h.rows.1], ?_, ?_⟩, h.bc, h.bb, by simpa using h.small, h.wy1, h.wy16, ?_⟩, ⟨by rw [hsz]; exact hg.size, ?_⟩, ?_, ?_⟩
  · have := (Below.heap_setCell w2 ⟨b, n, none⟩ v' c hcb).trans hc2
    simpa [Bl] using this
  · have := blk_set hb2 n v'
    have e : (vs.set n v').toArray = vs.toArray.setIfInBounds n v' := by simp
    rw [e]
    exact this
  · intro i hi
    rw [List.length_set] at hi
    by_cases hin : i = n
    · subst hin
      rw [getD_set_same _ _ _ _ hvl, getD_set_same _ _ _ _ hn]
      exact own_move ho (fun k hk => Below.heap_setCell w2 ⟨b, i, none⟩ v' k (fun e => hv'b (by rw [hk, e])))
    · rw [getD_set_other _ _ _ _ _ hin, getD_set_other _ _ _ _ _ hin]
      exact own_move (h.rows.2.1 i hi) (fun k hk => (hother i hi hin k hk).2)
  · intro i j k hi hj hij hk
    rw [List.length_set] at hi hj
    by_cases hin : i = n
    · subst hin
      rw [getD_set_same _ _ _ _ hvl] at hk
      rw [getD_set_other _ _ _ _ _ (Ne.symm hij)]
      intro hk'
      have hlt := ((h.rows.2.1 j hj).lt k hk').2
      rcases hat with e | ⟨g, e, hge⟩
      · rw [e] at hk
        exact h.rows.2.2 i j k hi hj hij hk hk'
      · rw [e] at hk
        injection hk with hk
        omega
    · rw [getD_set_other _ _ _ _ _ hin] at hk
      have hlt := ((h.rows.2.1 i hi).lt k hk).2
      by_cases hjn : j = n
      · subst hjn
        rw [getD_set_same _ _ _ _ hvl]
        intro hk'
        rcases hat with e | ⟨g, e, hge⟩
        · rw [e] at hk'
          exact h.rows.2.2 i j k hi hj hij hk hk'
        · rw [e] at hk'
          injection hk' with hk'
          omega
      · rw [getD_set_other _ _ _ _ _ hjn]
        exact h.rows.2.2 i j k hi hj hij hk
  · intro i hi
    rw [List.length_set] at hi
    by_cases hin : i = n
    · subst hin
      rw [getD_set_same _ _ _ _ hn]
      exact hL
    · rw [getD_set_other _ _ _ _ _ hin]
      exact h.lens i hi
  · intro k hk hnf
    have hkb : k ≠ b := fun e => hnf (.inr (.inl e))
    have hkn : (vs.getD n nilV).ownBlock ≠ some k := fun e => hnf (.inr (.inr ⟨n, hvl, e⟩))
    exact (Below.heap_setCell w2 ⟨b, n, none⟩ v' k hkb).trans (hg.block k hk (fun e => hkn e.symm))
  · rintro k (rfl | rfl | ⟨i, hi, hk⟩)
    · exact .inl (.inl rfl)
    · exact .inl (.inr (.inl rfl))
    · rw [List.length_set] at hi
      by_cases hin : i = n
      · subst hin
        rw [getD_set_same _ _ _ _ hvl] at hk
        rcases hat with e | ⟨g, e, hge⟩
        · exact .inl (.inr (.inr ⟨i, hi, by rw [← e]; exact hk⟩))
        · rw [e] at hk
          injection hk with hk
          subst hk
          exact .inr hge
      · rw [getD_set_other _ _ _ _ _ hin] at hk
        exact .inl (.inr (.inr ⟨i, hi, hk⟩))
  · refine ⟨hg.os, hg.tape, hg.output, by rw [hsz]; exact hg.size, fun k hk => ?_⟩
    have hbase : base ≤ w.heap.size := Nat.le_trans h.bc (Nat.le_of_lt hcl)
    have hkb : k ≠ b := by have := h.bb; omega
    refine (Below.heap_setCell w2 ⟨b, n, none⟩ v' k hkb).trans (hg.block k (by omega) (fun e => ?_))
    have := ((h.rows.2.1 n hn).lt k e.symm).1
    omega

theorem there_any (w : World) (base c b : Nat) (wy : Int) (vs : List Value) (M : List (List Int)) (s : Int) (h : SR w base c b wy vs M) :
    Calls Try.prog 25 #[.pointer (some ⟨c, 0, none⟩), .int .i64 s] w fun e w' => e = .returned (.bool (decide (0 ≤ s ∧ s < M.length))) ∧ Drawn0 w w' := by
  have hc1 : w.cell? ⟨c, 1, none⟩ = some (.slice (some ⟨b, 0, none⟩) M.length M.length) := blk_cell h.hc 1
  clear h
  by_cases h0 : 0 ≤ s
  · by_cases h1 : s < M.length
    · have e : decide (0 ≤ s ∧ s < M.length) = true := by simp [h0, h1]
      rw [e]
      go_enter Try.func25, Try.ntmps25
      go_wp2_with fail
      go_ret
      exact ⟨rfl, Drawn0.refl _⟩
    · have e : decide (0 ≤ s ∧ s < M.length) = false := by simp [h1]
      rw [e]
      go_enter Try.func25, Try.ntmps25
      go_wp2_with fail
      go_ret
      exact ⟨rfl, Drawn0.refl _⟩
  · have e : decide (0 ≤ s ∧ s < M.length) = false := by simp [h0]
    rw [e]
    go_enter Try.func25, Try.ntmps25
    go_wp2_with fail
    go_ret
    exact ⟨rfl, Drawn0.refl _⟩
theorem SR.row {w : World} {base c b : Nat} {wy : Int} {vs : List Value} {M : List (List Int)} (h : SR w base c b wy vs M) {i : Nat} (hi : i < M.length) : ∃ A cc, w.cell? ⟨b, i, none⟩ = some (.slice A (M.getD i []).length cc) ∧ ReadsInt w .u64 A (M.getD i []).length (M.getD i []) := by
  obtain ⟨A, cc, hv, hr⟩ := own_reads (h.rows.2.1 i hi)
  refine ⟨A, cc, (blk_cell h.hb i).trans ?_, hr⟩
  rw [← hv]
  simp [show i < vs.length by rw [h.rows.1]; exact hi]
theorem mem_drop {l : List Int} {i : Nat} (hi : i < l.length) (t : Int) : t ∈ l.drop i ↔ (t = rd l (i : Int) ∨ t ∈ l.drop (i + 1)) := by
  rw [List.drop_eq_getElem_cons hi, rd_get hi]
  exact List.mem_cons
theorem rhas_on (w : World) (base c b : Nat) (wy : Int) (vs : List Value) (M : List (List Int)) (n : Nat) (t : Int) (h : SR w base c b wy vs M) (hn : n < M.length) :
    Calls Try.prog 27 #[.pointer (some ⟨c, 0, none⟩), .int .i64 (n : Int), .int .u64 t] w fun e w' => e = .returned (.bool (decide (t ∈ M.getD n []))) ∧ Drawn0 w w' := by
  have hc1 : w.cell? ⟨c, 1, none⟩ = some (.slice (some ⟨b, 0, none⟩) M.length M.length) := blk_cell h.hc 1
  have hM := h.small
  have hl16 : (M.getD n []).length ≤ 16 := by have := h.lens n hn; have := h.wy16; omega
  obtain ⟨A, cc, hvs, hR⟩ := h.row hn
  have HR := Aside0.mk hR
  have HV := Aside0.mk hvs
  have HC := Aside0.mk hc1
  clear h hR hvs hc1
  generalize M.getD n [] = L at HV HR hl16 ⊢
  have HX : Aside0 (decide (t ∈ L) = decide (t ∈ L.drop 0)) := ⟨rfl⟩
  obtain ⟨X, hX⟩ : ∃ X, decide (t ∈ L) = X := ⟨_, rfl⟩
  rw [hX] at HX ⊢
  clear hX
  go_enter Try.func27, Try.ntmps27
  go_wp2_with fail
  go_loopw [7] (fun v7 wr => ∃ i : Nat, i ≤ L.length ∧ v7 = .int .i64 i ∧ Aside0 (X = decide (t ∈ L.drop i)) ∧ Aside0 (Drawn0 w wr)) (fun v7 _ => L.length - (intOf v7).toNat)
  case atStart => exact ⟨0, by omega, rfl, HX, ⟨Drawn0.refl _⟩⟩
  case round =>
    obtain ⟨i, hi, rfl, hX, hD⟩ := hrel
    clear HX
    have hc1 := pw_cell_below hD.out.below HC.out
    have hvs := pw_cell_below hD.out.below HV.out
    by_cases hlt : i < L.length
    · obtain ⟨ad, rfl, hc⟩ := (HR.out.below hD.out.below).at_ (i : Int) (by omega) (by omega)
      rw [Int.toNat_natCast] at hc
      have HMD := Aside0.mk (mem_drop hlt t)
      generalize rd L (i : Int) = x at hc HMD
      by_cases hx : x = t
      · have hXt : X = true := by rw [hX.out, decide_eq_true_iff]; exact HMD.out.2 (.inl hx.symm)
        subst hXt
        clear hX HMD
        go_wp2_with fail
        go_ret
        exact ⟨rfl, hD.out⟩
      · have hXn : Aside0 (X = decide (t ∈ L.drop (i + 1))) := ⟨by
          rw [hX.out]
          have h1 : (t ∈ L.drop i) ↔ (t ∈ L.drop (i + 1)) := by rw [HMD.out]; exact ⟨fun h => h.elim (fun e => absurd e.symm hx) id, .inr⟩
          rw [Bool.eq_iff_iff, decide_eq_true_iff, decide_eq_true_iff]; exact h1⟩
        clear hX HMD
        go_wp2_with fail
        go_roundw
        case rel => exact ⟨i + 1, by omega, by go_num, hXn, hD⟩
        case measure => simp [intOf]; omega
    · have hie : i = L.length := by omega
      subst hie
      have hXt : X = false := by rw [hX.out, List.drop_length]; simp
      subst hXt
      clear hX
      go_wp2_with fail
      go_ret
      exact ⟨rfl, hD.out⟩
theorem rcount_any (w : World) (base c b : Nat) (wy : Int) (vs : List Value) (M : List (List Int)) (h : SR w base c b wy vs M) :
    Calls Try.prog 29 #[.pointer (some ⟨c, 0, none⟩)] w fun e w' => e = .returned (.int .i64 (cnt M : Nat)) ∧ Drawn0 w w' := by
  have hc1 : w.cell? ⟨c, 1, none⟩ = some (.slice (some ⟨b, 0, none⟩) M.length M.length) := blk_cell h.hc 1
  have hM := h.small
  have hl : ∀ i, i < M.length → (M.getD i []).length ≤ 16 := fun i hi => by have := h.lens i hi; have := h.wy16; omega
  have HL := Aside0.mk (cnt_le M hl)
  have HV := Aside0.mk (fun i (hi : i < M.length) => h.row hi)
  have HC := Aside0.mk hc1
  clear hl h hc1
  go_enter Try.func29, Try.ntmps29
  go_wp2_with fail
  go_loopw [3, 4] (fun v3 v4 wr => ∃ i : Nat, i ≤ M.length ∧ v4 = .int .i64 i ∧ v3 = .int .i64 (cnt (M.take i) : Nat) ∧ Aside0 (Drawn0 w wr)) (fun _ v4 _ => M.length - (intOf v4).toNat)
  case atStart => exact ⟨0, by omega, rfl, rfl, ⟨Drawn0.refl _⟩⟩
  case round =>
    obtain ⟨i, hi, rfl, rfl, hD⟩ := hrel
    have hc1 := pw_cell_below hD.out.below HC.out
    by_cases hlt : i < M.length
    · obtain ⟨A, cc, hvs, _⟩ := HV.out i hlt
      have hvs := pw_cell_below hD.out.below hvs
      have hct := cnt_take M hlt
      have hcl := HL.out (i + 1) (by omega)
      generalize (M.getD i []).length = m at hvs hct
      have hs : IntKind.i64.wrap ((cnt (M.take i) : Nat) + (m : Int)) = ((cnt (M.take (i + 1)) : Nat) : Int) := by
        rw [hct]
        have e : (((cnt (M.take i) : Nat) : Int) + (m : Int)) = ((cnt (M.take i) + m : Nat) : Int) := by omega
        rw [e]
        exact IntWalk.i64_in _ (by omega)
      clear hct hcl
      go_wp2_with fail
      go_roundw
      case rel => exact ⟨i + 1, by omega, by go_num, by first | rfl | go_num, hD⟩
      case measure => simp [intOf]; omega
    · have hiM : i = M.length := by omega
      subst hiM
      rw [List.take_length]
      go_wp2_with fail
      go_ret
      exact ⟨rfl, hD.out⟩
end Go.Proofs.Ytcneepffhplpiaa.H
