/- One call of both caches, compared. -/
import Derived.Test.YtcneepffhplpiaaC10
import Derived.Test.YtcneepffhplpiaaD4
import Derived.Test.YtcneepffhplpiaaC7
namespace Go.Proofs.Ytcneepffhplpiaa.H
open Go.RowKit Go.Proofs.YtcneepffhplpiaaW.PrintWords Go.Proofs.YtcneepffhplpiaaW.PrintLast Go.Proofs.YtcneepffhplpiaaW.PrintMore
set_option linter.unusedVariables false
set_option linter.unusedSimpArgs false
set_option maxHeartbeats 8000000
set_option maxRecDepth 100000
theorem below_low {B B' : Nat} {w w' : World} (h : Below B w w') (hB : B' ≤ B) : Below B' w w' := ⟨h.os, h.tape, h.output, h.size, fun k hk => h.block k (by omega)⟩
theorem kept_cell {w w' : World} {S : Nat → Prop} (h : Kept w w' S) {a : Addr} {v : Value} (hc : w.cell? a = some v) (hn : ¬ S a.block) : w'.cell? a = some v := by
  have := h.2 a.block (World.block_lt_of_cell? w a hc) hn
  simpa [World.cell?, this] using hc
/-- Both caches, alike and apart. -/
def Both (w : World) (base c b c2 b2 : Nat) (wy : Nat) (vs vs2 : List Value) (M : List (List Int)) : Prop :=
  St w base c b (wy : Int) vs M ∧ SR w base c2 b2 (wy : Int) vs2 M ∧ (∀ k, Foot c b vs k → ¬ Foot c2 b2 vs2 k) ∧ (∀ i, i < M.length → (M.getD i []).Nodup) ∧ base ≤ w.heap.size
theorem Both.later {w w' : World} {base c b c2 b2 : Nat} {wy : Nat} {vs vs2 : List Value} {M : List (List Int)} (h : Both w base c b c2 b2 wy vs vs2 M) (hb : Below w.heap.size w w') : Both w' base c b c2 b2 wy vs vs2 M :=
  ⟨h.1.later hb, h.2.1.later hb, h.2.2.1, h.2.2.2.1, Nat.le_trans h.2.2.2.2 hb.size⟩
theorem Both.lens {w : World} {base c b c2 b2 : Nat} {wy : Nat} {vs vs2 : List Value} {M : List (List Int)} (h : Both w base c b c2 b2 wy vs vs2 M) {i : Nat} (hi : i < M.length) : (M.getD i []).length ≤ wy := by have := h.1.lens i hi; omega
theorem Both.w1 {w : World} {base c b c2 b2 : Nat} {wy : Nat} {vs vs2 : List Value} {M : List (List Int)} (h : Both w base c b c2 b2 wy vs vs2 M) : 1 ≤ wy := by have := h.1.wy1; omega
/-- What a call leaves. -/
def DnP (w : World) (base c c2 : Nat) (wy n : Nat) (e : Ending) (w' : World) : Prop :=
  ∃ (b b2 : Nat) (vs vs2 : List Value) (M : List (List Int)), e = .returned (.bool true) ∧ Both w' base c b c2 b2 wy vs vs2 M ∧ M.length = n ∧ Below base w w'
theorem Both.far {w : World} {base c b c2 b2 : Nat} {wy : Nat} {vs vs2 : List Value} {M : List (List Int)} (h : Both w base c b c2 b2 wy vs vs2 M) {N g : Nat} (hN : ∀ k, Foot c b vs k ∨ Foot c2 b2 vs2 k → k < N) (hg : N ≤ g) (j : Nat) (u : Value) : Both (w.setCell ⟨g, j, none⟩ u) base c b c2 b2 wy vs vs2 M :=
  ⟨h.1.move (fun k hk => Below.heap_setCell w ⟨g, j, none⟩ u k (by have := hN k (.inl hk); show k ≠ g; omega)), h.2.1.move (fun k hk => Below.heap_setCell w ⟨g, j, none⟩ u k (by have := hN k (.inr hk); show k ≠ g; omega)), h.2.2.1, h.2.2.2.1, by have := h.2.2.2.2; simpa [World.setCell] using this⟩
/-- The tags of a list of lines that lies in a row of its own. -/
def Odd (w : World) (A : Option Addr) (lo hi n : Nat) : Prop := ∀ i, i < n → ∃ (g : Nat) (cur : Array Value) (z : Int), A = some ⟨g, 0, none⟩ ∧ lo ≤ g ∧ g < hi ∧ Bl w g 39 cur ∧ cur[i * 2 + 1]? = some (.int .u64 z)
theorem Odd.later {w w' : World} {A : Option Addr} {lo hi n : Nat} (h : Odd w A lo hi n) (hb : Below w.heap.size w w') : Odd w' A lo hi n := fun i hi => by
  obtain ⟨g, cur, z, h1, h2, h3, h4, h5⟩ := h i hi
  exact ⟨g, cur, z, h1, h2, h3, h4.later hb, h5⟩
theorem Odd.put {w : World} {g lo hi n j : Nat} (h : Odd w (some ⟨g, 0, none⟩) lo hi n) (hj : j < n) (x : Int) : Odd (w.setCell ⟨g, j * 2 + 1, none⟩ (.int .u64 x)) (some ⟨g, 0, none⟩) lo hi n := fun i hi => by
  obtain ⟨g', cur, z, h1, h2, h3, h4, h5⟩ := h i hi
  injection h1 with h1
  injection h1 with h1
  subst h1
  obtain ⟨g', cur', z', h1', _, _, h4', h5'⟩ := h j hj
  injection h1' with h1'
  injection h1' with h1'
  subst h1'
  have hcc : cur' = cur := by
    unfold Bl at h4 h4'
    rw [h4] at h4'
    injection h4' with h4'
    injection h4' with h4'
    exact h4'.symm
  subst hcc
  refine ⟨g, _, if i = j then x else z, rfl, h2, h3, blk_set h4 _ _, ?_⟩
  have hlt : j * 2 + 1 < cur'.size := (Array.getElem?_eq_some_iff.1 h5').1
  by_cases e : i = j
  · subst e
    simp [hlt]
  · rw [if_neg e, Array.getElem?_setIfInBounds, if_neg (by omega)]
    exact h5
theorem Odd.of {w : World} {base : Nat} {A : Option Addr} {c : Nat} {X : List S39} {hi : Nat} (h : Kd.R k39 39 w base (fun _ => True) (.slice A X.length c) X) (hhi : w.heap.size ≤ hi) : Odd w A base hi X.length := fun i hiX => by
  obtain ⟨g, cap, hv, hb, hlt, cur, hcur⟩ := Kd.R_form h (by omega)
  injection hv with hv _ _
  obtain ⟨_, _, hC⟩ := Kd.R_reads' h
  obtain ⟨ad, he, _, h1⟩ := at_T39 hC (i : Int) (by omega) (by omega)
  rw [hv] at he
  injection he with he
  subst he
  rw [Int.toNat_natCast, add_plain] at h1
  simp only at h1
  refine ⟨g, cur, (rd_T39 X (i : Int)).f1, hv, hb, by omega, hcur, ?_⟩
  rw [← cell_of_row w g (i * 2 + 1) cur 39 (0, 0) hcur]
  exact h1
theorem LN_small {w : World} {base c b : Nat} {wy : Int} {vs : List Value} {M : List (List Int)} (h : St w base c b wy vs M) : (LN M M.length).length ≤ 65536 := by
  have := LN_le M (fun i hi => by have := h.lens i hi; have := h.wy16; omega) M.length (Nat.le_refl _)
  have := h.small
  omega
theorem done_any (K S t : Int) (w : World) (base c b c2 b2 : Nat) (wy : Nat) (vs vs2 : List Value) (M : List (List Int)) (h : Both w base c b c2 b2 wy vs vs2 M) (hn : 1 ≤ M.length) :
    Calls Try.prog 18 #[.pointer (some ⟨c, 0, none⟩), .pointer (some ⟨c2, 0, none⟩), .agg #[.int .i64 K, .int .i64 S, .int .u64 t]] w (DnP w base c c2 wy M.length) := by
  obtain ⟨W1, hW1⟩ : ∃ W1, W1 = w.alloc (.cells #[.int .i64 K, .int .i64 S, .int .u64 t] 51) := ⟨_, rfl⟩
  have hB0 : Below w.heap.size w W1 := by rw [hW1]; exact below_alloc (Below.refl w.heap.size w) _
  have hbx : Bl W1 w.heap.size 51 #[.int .i64 K, .int .i64 S, .int .u64 t] := by rw [hW1]; exact heap_alloc_new w _
  have b0 : W1.cell? ⟨w.heap.size, 0, none⟩ = some (.int .i64 K) := blk_cell hbx 0
  have HX1 : Aside0 (W1.cell? ⟨w.heap.size, 1, none⟩ = some (.int .i64 S)) := ⟨blk_cell hbx 1⟩
  have HX2 : Aside0 (W1.cell? ⟨w.heap.size, 2, none⟩ = some (.int .u64 t)) := ⟨blk_cell hbx 2⟩
  have hbw : base ≤ w.heap.size := h.2.2.2.2
  have HFN : Aside0 (∀ k, Foot c b vs k → k < w.heap.size) := ⟨fun k hk => (h.1.foot_lt hk).2⟩
  have HFN2 : Aside0 (∀ k, Foot c2 b2 vs2 k → k < w.heap.size) := ⟨fun k hk => (h.2.1.foot_lt hk).2⟩
  have HH := Aside0.mk (h.later hB0)
  have HB := Aside0.mk (below_low hB0 hbw)
  have HK := Aside0.mk (within_is K 4 (by omega) (by omega))
  have hk0 : 0 ≤ K % 4 := Int.emod_nonneg _ (by omega)
  have hk1 : K % 4 < 4 := Int.emod_lt_of_pos _ (by omega)
  generalize hkk : K % 4 = k at HK hk0 hk1
  clear h hbx hB0 hkk
  go_enter Try.func18, Try.ntmps18
  have b0' := b0
  rw [hW1] at b0'
  go_wp2_with fail
  rw [← hW1]
  clear b0' hW1
  refine (cofferdamref00_Within.calls K 4 _ _ HK.out).mono ?_
  rintro e w1 ⟨rfl, hd⟩
  have HH1 := Aside0.mk (HH.out.later hd.below)
  have HB1 := Aside0.mk (HB.out.trans (below_low hd.below HH.out.2.2.2.2))
  have x1 := pw_cell_below hd.below HX1.out
  have x2 := pw_cell_below hd.below HX2.out
  clear hd HH HB HX1 HX2 b0 HK
  have hc4 : k = 0 ∨ k = 1 ∨ k = 2 ∨ k = 3 := by omega
  clear hk0 hk1
  have HX1 := Aside0.mk x1
  have HX2 := Aside0.mk x2
  rcases hc4 with rfl | rfl | rfl | rfl
  · by_cases hin : 0 ≤ S ∧ S < M.length
    · obtain ⟨n, rfl⟩ := Int.eq_ofNat_of_zero_le hin.1
      have hnM : n < M.length := by omega
      have hin2 : decide (0 ≤ (n : Int) ∧ (n : Int) < M.length) = true := decide_eq_true hin
      have hq : decide (0 ≤ idx (M.getD n []) t) = decide (t ∈ M.getD n []) := by rw [Bool.eq_iff_iff, decide_eq_true_iff, decide_eq_true_iff, idx_mem]
      have HTN := Aside0.mk (tl_nodup wy (M.getD n []) t HH1.out.w1 (HH1.out.2.2.2.1 n hnM) (HH1.out.lens hnM))
      go_wp2_with fail
      refine (touch_on _ _ c b (wy : Int) vs M n t HH1.out.1 hnM).mono ?_
      rintro e w2 ⟨vs', rfl, hS', hK', hF', hB'⟩
      rw [hq]
      have HS := Aside0.mk hS'
      have HR := Aside0.mk (HH1.out.2.1.kept hK' (fun k hk hf => HH1.out.2.2.1 k hf hk))
      have HJ := Aside0.mk (fun k (hk : Foot c b vs' k) (hf : Foot c2 b2 vs2 k) => by
        rcases hF' k hk with h1 | h1
        · exact HH1.out.2.2.1 k h1 hf
        · have := (HH1.out.2.1.foot_lt hf).2; omega)
      have HB2 := Aside0.mk (HB1.out.trans hB')
      have HND := Aside0.mk HH1.out.2.2.2.1
      have hsz := hK'.1
      have HSZ : Aside0 (base ≤ w2.heap.size) := ⟨Nat.le_trans HH1.out.2.2.2.2 hsz⟩
      have x1 := kept_cell hK' HX1.out (fun hf => by have := HFN.out _ hf; simp at this)
      have x2 := kept_cell hK' HX2.out (fun hf => by have := HFN.out _ hf; simp at this)
      have HX1 := Aside0.mk x1
      have HX2 := Aside0.mk x2
      clear hS' hK' hF' hB' hsz hq HH1 HB1
      clear x2
      obtain ⟨q, hqq⟩ : ∃ q, decide (t ∈ M.getD n []) = q := ⟨_, rfl⟩
      rw [hqq]
      have HQ := Aside0.mk hqq
      clear hqq
      go_wp2_with fail
      refine (there_any _ _ c2 b2 (wy : Int) vs2 M (n : Int) HR.out).mono ?_
      rintro e w3 ⟨rfl, hd⟩
      rw [hin2]
      have HS3 := Aside0.mk (HS.out.later hd.below)
      have HR3 := Aside0.mk (HR.out.later hd.below)
      have HB3 := Aside0.mk (HB2.out.trans (below_low hd.below HSZ.out))
      have HSZ3 : Aside0 (base ≤ w3.heap.size) := ⟨Nat.le_trans HSZ.out hd.below.size⟩
      have x1 := pw_cell_below hd.below HX1.out
      have x2 := pw_cell_below hd.below HX2.out
      clear hd HS HR HB2 HSZ HX1 HX2
      go_wp2_with fail
      refine (rtouch_on _ _ c2 b2 wy vs2 M n t HR3.out hnM (HND.out n hnM)).mono ?_
      rintro e w4 ⟨vs2', rfl, hS', hK', hF', hB'⟩
      rw [HQ.out]
      have HE : Aside0 (Both w4 base c b c2 b2 wy vs' vs2' (M.set n (tl (wy : Int) (M.getD n []) t))) := ⟨HS3.out.kept hK' (fun k hk hf => HJ.out k hk hf), hS', fun k hk hf => by
          rcases hF' k hf with h1 | h1
          · exact HJ.out k hk h1
          · have := (HS3.out.foot_lt hk).2; omega, fun i hi => by
          rw [List.length_set] at hi
          by_cases e : i = n
          · subst e; rw [getD_set_same _ _ _ _ hnM]; exact HTN.out.1
          · rw [getD_set_other _ _ _ _ _ e]; exact HND.out i hi, Nat.le_trans HSZ3.out hK'.1⟩
      have HB4 := Aside0.mk (HB3.out.trans hB')
      clear hS' hK' hF' hB' HS3 HR3 HB3 HSZ3 x1 x2 HTN
      go_wp2_with fail
      go_ret
      exact ⟨b, b2, vs', vs2', _, rfl, HE.out, List.length_set .., HB4.out⟩
    · have hin2 : decide (0 ≤ S ∧ S < M.length) = false := decide_eq_false hin
      go_wp2_with fail
      refine (touch_off _ _ c b (wy : Int) vs M S t HH1.out.1 hin).mono ?_
      rintro e w2 ⟨rfl, hd⟩
      have HH2 := Aside0.mk (HH1.out.later hd.below)
      have HB2 := Aside0.mk (HB1.out.trans (below_low hd.below HH1.out.2.2.2.2))
      have x1 := pw_cell_below hd.below HX1.out
      clear hd HH1 HB1
      go_wp2_with fail
      refine (there_any _ _ c2 b2 (wy : Int) vs2 M S HH2.out.2.1).mono ?_
      rintro e w3 ⟨rfl, hd⟩
      rw [hin2]
      have HH3 := Aside0.mk (HH2.out.later hd.below)
      have HB3 := Aside0.mk (HB2.out.trans (below_low hd.below HH2.out.2.2.2.2))
      clear hd HH2 HB2 x1
      go_wp2_with fail
      go_ret
      exact ⟨b, b2, vs, vs2, M, rfl, HH3.out, rfl, HB3.out⟩
  · by_cases hin : 0 ≤ S ∧ S < M.length
    · obtain ⟨n, rfl⟩ := Int.eq_ofNat_of_zero_le hin.1
      have hnM : n < M.length := by omega
      have hin2 : decide (0 ≤ (n : Int) ∧ (n : Int) < M.length) = true := decide_eq_true hin
      have hq : decide (0 ≤ idx (M.getD n []) t) = decide (t ∈ M.getD n []) := by rw [Bool.eq_iff_iff, decide_eq_true_iff, decide_eq_true_iff, idx_mem]
      obtain ⟨q, hqq⟩ : ∃ q, decide (t ∈ M.getD n []) = q := ⟨_, rfl⟩
      rw [hqq] at hq
      have HQ := Aside0.mk hqq
      have HQ2 := Aside0.mk hq
      clear hqq hq
      go_wp2_with fail
      refine (has_on _ _ c b (wy : Int) vs M n t HH1.out.1 hnM).mono ?_
      rintro e w2 ⟨rfl, hd⟩
      rw [HQ2.out]
      have HH2 := Aside0.mk (HH1.out.later hd.below)
      have HB2 := Aside0.mk (HB1.out.trans (below_low hd.below HH1.out.2.2.2.2))
      have x1 := pw_cell_below hd.below HX1.out
      have HX2b := Aside0.mk (pw_cell_below hd.below HX2.out)
      have HX1b := Aside0.mk x1
      clear hd HH1 HB1 x2
      go_wp2_with fail
      refine (there_any _ _ c2 b2 (wy : Int) vs2 M (n : Int) HH2.out.2.1).mono ?_
      rintro e w3 ⟨rfl, hd⟩
      rw [hin2]
      have HH3 := Aside0.mk (HH2.out.later hd.below)
      have HB3 := Aside0.mk (HB2.out.trans (below_low hd.below HH2.out.2.2.2.2))
      have x1 := pw_cell_below hd.below HX1b.out
      have x2 := pw_cell_below hd.below HX2b.out
      clear hd HH2 HB2
      go_wp2_with fail
      refine (rhas_on _ _ c2 b2 (wy : Int) vs2 M n t HH3.out.2.1 hnM).mono ?_
      rintro e w4 ⟨rfl, hd⟩
      rw [HQ.out]
      have HH4 := Aside0.mk (HH3.out.later hd.below)
      have HB4 := Aside0.mk (HB3.out.trans (below_low hd.below HH3.out.2.2.2.2))
      clear hd HH3 HB3 x1 x2
      go_wp2_with fail
      go_ret
      exact ⟨b, b2, vs, vs2, M, rfl, HH4.out, rfl, HB4.out⟩
    · have hin2 : decide (0 ≤ S ∧ S < M.length) = false := decide_eq_false hin
      go_wp2_with fail
      refine (has_off _ _ c b (wy : Int) vs M S t HH1.out.1 hin).mono ?_
      rintro e w2 ⟨rfl, hd⟩
      have HH2 := Aside0.mk (HH1.out.later hd.below)
      have HB2 := Aside0.mk (HB1.out.trans (below_low hd.below HH1.out.2.2.2.2))
      have x1 := pw_cell_below hd.below HX1.out
      clear hd HH1 HB1
      go_wp2_with fail
      refine (there_any _ _ c2 b2 (wy : Int) vs2 M S HH2.out.2.1).mono ?_
      rintro e w3 ⟨rfl, hd⟩
      rw [hin2]
      have HH3 := Aside0.mk (HH2.out.later hd.below)
      have HB3 := Aside0.mk (HB2.out.trans (below_low hd.below HH2.out.2.2.2.2))
      clear hd HH2 HB2 x1
      go_wp2_with fail
      go_ret
      exact ⟨b, b2, vs, vs2, M, rfl, HH3.out, rfl, HB3.out⟩
  · have hLN := LN_small HH1.out.1
    have HFO : Aside0 (∀ k, Foot c b vs k ∨ Foot c2 b2 vs2 k → k < w1.heap.size) := ⟨fun k hk => hk.elim (fun h => (HH1.out.1.foot_lt h).2) (fun h => (HH1.out.2.1.foot_lt h).2)⟩
    go_wp2_with fail
    refine (lines_any _ _ c b (wy : Int) vs M HH1.out.1).mono ?_
    rintro e w2 ⟨v1, rfl, hR1, hb⟩
    have HH2 := Aside0.mk (HH1.out.later hb)
    have HB2 := Aside0.mk (HB1.out.trans (below_low hb HH1.out.2.2.2.2))
    have hbw1 : base ≤ w1.heap.size := HH1.out.2.2.2.2
    have hs12 := hb.size
    clear hb HH1 HB1 x1 x2 HX1 HX2
    generalize hXX : LN M M.length = X at hR1 hLN
    have HXX := Aside0.mk hXX
    clear hXX
    obtain ⟨A1, c1, rfl, hc1, hC1⟩ := Kd.R_reads hR1
    have HO1 := Aside0.mk (Odd.of hR1 (Nat.le_refl _))
    have HC1 := Aside0.mk hC1
    clear hR1 hC1
    go_wp2_with fail
    refine (lines_any _ _ c b (wy : Int) vs M HH2.out.1).mono ?_
    rintro e w3 ⟨v2, rfl, hR2, hb⟩
    rw [HXX.out] at hR2
    have HH3 := Aside0.mk (HH2.out.later hb)
    have HB3 := Aside0.mk (HB2.out.trans (below_low hb HH2.out.2.2.2.2))
    have HO3 := Aside0.mk (HO1.out.later hb)
    have HC3 := Aside0.mk (Kd.C_below HC1.out hb)
    obtain ⟨A2, c2', rfl, hc2, _⟩ := Kd.R_reads hR2
    have HR3 := Aside0.mk hR2
    clear hb HH2 HB2 HO1 HC1 hR2
    go_wp2_with fail
    refine (rlines_any _ _ c2 b2 (wy : Int) vs2 M HH3.out.2.1).mono ?_
    rintro e w4 ⟨v3, rfl, hR3, hb⟩
    rw [HXX.out] at hR3
    obtain ⟨A3, c3, rfl, hc3, hC3⟩ := Kd.R_reads hR3
    have HCm := Aside0.mk hC3
    have HH4 := Aside0.mk (HH3.out.later hb)
    have HB4 := Aside0.mk (HB3.out.trans (below_low hb HH3.out.2.2.2.2))
    have HO4 := Aside0.mk (HO3.out.later hb)
    have HC4 := Aside0.mk (Kd.C_below HC3.out hb)
    have HR4 := Aside0.mk (Kd.R_below HR3.out hb)
    have HSM := Aside0.mk (same_is X (by omega))
    clear hb HH3 HB3 HO3 HC3 HR3 hR3 hC3
    go_wp2_with fail
    refine (cofferdamref03_Same.calls _ A1 c1 X A3 c3 X true _ HC4.out hc1 HCm.out hc3 HSM.out).mono ?_
    rintro e w5 ⟨rfl, hd⟩
    have HH5 := Aside0.mk (HH4.out.later hd.below)
    have HB5 := Aside0.mk (HB4.out.trans (below_low hd.below HH4.out.2.2.2.2))
    have HO5 := Aside0.mk (HO4.out.later hd.below)
    have HR5 := Aside0.mk (Kd.R_below HR4.out hd.below)
    clear hd HH4 HB4 HO4 HC4 HR4 HCm
    go_wp2_with fail
    refine (count_any _ _ c b (wy : Int) vs M HH5.out.1).mono ?_
    rintro e w6 ⟨rfl, hd⟩
    have HH6 := Aside0.mk (HH5.out.later hd.below)
    have HB6 := Aside0.mk (HB5.out.trans (below_low hd.below HH5.out.2.2.2.2))
    have HO6 := Aside0.mk (HO5.out.later hd.below)
    have HR6 := Aside0.mk (Kd.R_below HR5.out hd.below)
    clear hd HH5 HB5 HO5 HR5
    go_wp2_with fail
    refine (rcount_any _ _ c2 b2 (wy : Int) vs2 M HH6.out.2.1).mono ?_
    rintro e w7 ⟨rfl, hd⟩
    have HH7 := Aside0.mk (HH6.out.later hd.below)
    have HB7 := Aside0.mk (HB6.out.trans (below_low hd.below HH6.out.2.2.2.2))
    have HO7 := Aside0.mk (HO6.out.later hd.below)
    have HR7 := Aside0.mk (Kd.R_below HR6.out hd.below)
    clear hd HH6 HB6 HO6 HR6
    go_wp2_with fail
    go_loopw [13] (fun v13 wr => ∃ j : Nat, j ≤ X.length ∧ v13 = .int .i64 j ∧ Aside0 (Both wr base c b c2 b2 wy vs vs2 M) ∧ Aside0 (Below base w wr) ∧ Aside0 (Odd wr A1 w1.heap.size w2.heap.size X.length) ∧ Aside0 (Kd.R k39 39 wr w2.heap.size (fun _ => True) (.slice A2 X.length c2') X)) (fun v13 _ => X.length - (intOf v13).toNat)
    case atStart => exact ⟨0, by omega, rfl, HH7, HB7, HO7, HR7⟩
    case round =>
      clear HH7 HB7 HO7 HR7
      obtain ⟨j, hj, rfl, hH, hB, hO, hR⟩ := hrel
      by_cases hjl : j < X.length
      · obtain ⟨g, cur, z, rfl, hg1, hg2, hbl, hcz⟩ := hO.out j hjl
        have hz := (blk_cell hbl (j * 2 + 1)).trans hcz
        have hfz := hbl.free (j * 2 + 1)
        clear hbl hcz
        go_wp2_with fail
        obtain ⟨x, hx⟩ : ∃ x, IntKind.u64.wrap (z + 1) = x := ⟨_, rfl⟩
        have HH9 := Aside0.mk (fun x => hH.out.far HFO.out hg1 (j * 2 + 1) (.int .u64 x))
        have HB9 := Aside0.mk (fun x => Below.setCell hB.out (p := ⟨g, j * 2 + 1, none⟩) (Nat.le_trans hbw1 hg1) (.int .u64 x))
        have HO9 := Aside0.mk (fun x => hO.out.put hjl x)
        have HR9 := Aside0.mk (fun x => Kd.R_mono (Kd.R_far (Kd.R_bound hR.out) (p := ⟨g, j * 2 + 1, none⟩) (fun k hk => by have := hk.2.1; show k ≠ g; omega) (.int .u64 x)) (fun _ _ => trivial))
        clear hH hB hO hR hz hfz
        go_roundw
        case rel => exact ⟨j + 1, by omega, by go_num, ⟨HH9.out _⟩, ⟨HB9.out _⟩, ⟨HO9.out _⟩, ⟨HR9.out _⟩⟩
        case measure => simp [intOf]; omega
      · have hje : j = X.length := by omega
        subst hje
        have HH := hH
        have HB := hB
        obtain ⟨_, _, hC2⟩ := Kd.R_reads' hR.out
        have HC2 := Aside0.mk hC2
        clear hH hB hO hR hC2
        go_wp2_with fail
        refine (rlines_any _ _ c2 b2 (wy : Int) vs2 M HH.out.2.1).mono ?_
        rintro e wa ⟨v3, rfl, hR3, hb⟩
        rw [HXX.out] at hR3
        obtain ⟨A3, c3, rfl, hc3, hC3⟩ := Kd.R_reads hR3
        have HCm := Aside0.mk hC3
        have HHa := Aside0.mk (HH.out.later hb)
        have HBa := Aside0.mk (HB.out.trans (below_low hb HH.out.2.2.2.2))
        have HCa := Aside0.mk (Kd.C_below HC2.out hb)
        clear hb HH HB HC2 hR3 hC3
        go_wp2_with fail
        refine (cofferdamref03_Same.calls _ A2 c2' X A3 c3 X true _ HCa.out hc2 HCm.out hc3 HSM.out).mono ?_
        rintro e wb ⟨rfl, hd⟩
        have HHb := Aside0.mk (HHa.out.later hd.below)
        have HBb := Aside0.mk (HBa.out.trans (below_low hd.below HHa.out.2.2.2.2))
        clear hd HHa HBa HCa HCm
        go_wp2_with fail
        refine (lines_any _ _ c b (wy : Int) vs M HHb.out.1).mono ?_
        rintro e wc ⟨v4, rfl, hR4, hb⟩
        rw [HXX.out] at hR4
        obtain ⟨A4, c4, rfl, hc4, hC4⟩ := Kd.R_reads hR4
        have HC4 := Aside0.mk hC4
        have HHc := Aside0.mk (HHb.out.later hb)
        have HBc := Aside0.mk (HBb.out.trans (below_low hb HHb.out.2.2.2.2))
        clear hb HHb HBb hR4 hC4
        go_wp2_with fail
        refine (rlines_any _ _ c2 b2 (wy : Int) vs2 M HHc.out.2.1).mono ?_
        rintro e wd ⟨v5, rfl, hR5, hb⟩
        rw [HXX.out] at hR5
        obtain ⟨A5, c5, rfl, hc5, hC5⟩ := Kd.R_reads hR5
        have HC5 := Aside0.mk hC5
        have HC4d := Aside0.mk (Kd.C_below HC4.out hb)
        have HHd := Aside0.mk (HHc.out.later hb)
        have HBd := Aside0.mk (HBc.out.trans (below_low hb HHc.out.2.2.2.2))
        clear hb HHc HBc HC4 hR5 hC5
        go_wp2_with fail
        refine (cofferdamref03_Same.calls _ A4 c4 X A5 c5 X true _ HC4d.out hc4 HC5.out hc5 HSM.out).mono ?_
        rintro e we ⟨rfl, hd⟩
        have HHe := Aside0.mk (HHd.out.later hd.below)
        have HBe := Aside0.mk (HBd.out.trans (below_low hd.below HHd.out.2.2.2.2))
        clear hd HHd HBd
        go_wp2_with fail
        go_ret
        exact ⟨b, b2, vs, vs2, M, rfl, HHe.out, rfl, HBe.out⟩
  · go_wp2_with fail
    refine (flush_any _ _ c b (wy : Int) vs M HH1.out.1 hn).mono ?_
    rintro e w2 ⟨rfl, hS', hK', hF', hB'⟩
    have HS := Aside0.mk hS'
    have HR := Aside0.mk (HH1.out.2.1.kept hK' (fun k hk hf => HH1.out.2.2.1 k hf hk))
    have HJ := Aside0.mk (fun k (hk : Foot c b (List.replicate M.length nilV) k) (hf : Foot c2 b2 vs2 k) => by
      rcases hF' k hk with h1 | h1
      · exact HH1.out.2.2.1 k h1 hf
      · have := (HH1.out.2.1.foot_lt hf).2; omega)
    have HB2 := Aside0.mk (HB1.out.trans hB')
    have HSZ : Aside0 (base ≤ w2.heap.size) := ⟨Nat.le_trans HH1.out.2.2.2.2 hK'.1⟩
    clear hS' hK' hF' hB' HH1 HB1 x1 x2 HX1 HX2
    go_wp2_with fail
    refine (rflush_any _ _ c2 b2 (wy : Int) vs2 M HR.out).mono ?_
    rintro e w3 ⟨b2', rfl, hS', hK', hF', hB'⟩
    have HE : Aside0 (Both w3 base c b c2 b2' wy (List.replicate M.length nilV) (List.replicate M.length nilV) (emp M.length)) := ⟨HS.out.kept hK' (fun k hk hf => HJ.out k hk hf), hS', fun k hk hf => by
        rcases hF' k hf with h1 | h1
        · exact HJ.out k hk h1
        · have := (HS.out.foot_lt hk).2; omega, fun i hi => by rw [emp_get]; exact List.nodup_nil, Nat.le_trans HSZ.out hK'.1⟩
    have HB3 := Aside0.mk (HB2.out.trans hB')
    clear hS' hK' hF' hB' HS HR HB2 HSZ HJ
    go_wp2_with fail
    go_ret
    exact ⟨b, b2', _, _, _, rfl, HE.out, by simp [emp], HB3.out⟩
end Go.Proofs.Ytcneepffhplpiaa.H
