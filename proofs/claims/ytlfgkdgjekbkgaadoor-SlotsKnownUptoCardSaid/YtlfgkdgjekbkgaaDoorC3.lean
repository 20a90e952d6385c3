/- New, Take, Give, Used of the area of slots. -/
import Derived.Test.YtlfgkdgjekbkgaaDoorC2
namespace Go.Proofs.YtlfgkdgjekbkgaaDoor.H
open Go.RowKit Go.Proofs.YtlfgkdgjekbkgaaDoorW.PrintWords Go.Proofs.YtlfgkdgjekbkgaaDoorW.PrintLast Go.Proofs.YtlfgkdgjekbkgaaDoorW.PrintMore
set_option linter.unusedVariables false
set_option linter.unusedSimpArgs false
set_option maxHeartbeats 8000000
set_option maxRecDepth 100000
theorem make44 (m : Nat) (hm : m ≤ 4096) : ∀ W : World, (Instr.makeSlice 44 (.int .i64 (m : Int)) (.int .i64 (m : Int))).run Tryd.prog W = .ok (.slice (some ⟨W.heap.size, 0, none⟩) m m) (W.alloc (.cells (madeCells #[.int .u64 0] m) 50)) :=
  fun W => run_make_row' 44 50 (.int .u64 0) 8 Tryd.underlying44 (by kernel_rfl) rfl .i64 .i64 m (by omega) (by omega) W
theorem made_list (v : Value) (m : Nat) : madeCells #[v] m = (List.replicate m v).toArray := by
  apply Array.ext
  · simp [madeCells]
  · intro i h1 h2
    simp [madeCells, Nat.mod_one]
theorem bt_none (n k : Nat) : bt (List.replicate n false) k = false := by
  unfold bt
  by_cases h : k < n <;> simp [h]
theorem wd_none (n i : Nat) : wd (List.replicate n false) i = 0 := by
  apply Nat.eq_of_testBit_eq
  intro k
  rw [wd_bit, bt_none]
  simp
theorem wv_none (n : Nat) : wv (List.replicate n false) = List.replicate (n / 64 + 1) (.int .u64 0) := by
  apply List.ext_getElem?
  intro i
  by_cases h : i < n / 64 + 1
  · rw [wv_get _ _ (by simpa using h), wd_none]
    simp [h]
  · rw [List.getElem?_eq_none (by rw [wv_len]; simp; omega), List.getElem?_eq_none (by simp; omega)]
theorem SP_new (w : World) (n : Nat) (hn : n ≤ 1024) (hT : Tb w) :
    SP ((w.alloc (.cells (madeCells #[.int .u64 0] (n / 64 + 1)) 50)).alloc (.cells #[.int .i64 n, .slice (some ⟨w.heap.size, 0, none⟩) (n / 64 + 1) (n / 64 + 1)] 46)) w.heap.size (w.heap.size + 1) w.heap.size (List.replicate n false) := by
  have hb : Bl (w.alloc (.cells (madeCells #[.int .u64 0] (n / 64 + 1)) 50)) w.heap.size 50 (wv (List.replicate n false)).toArray := by
    have := heap_alloc_new w (.cells (madeCells #[.int .u64 0] (n / 64 + 1)) 50)
    rw [made_list] at this
    rw [made_list, wv_none]
    exact this
  have hsz : (w.alloc (.cells (madeCells #[.int .u64 0] (n / 64 + 1)) 50)).heap.size = w.heap.size + 1 := by simp only [World.alloc, Array.size_push]
  refine ⟨?_, hb.later (below_alloc (Below.refl _ _) _), hT.later (below_alloc (below_alloc (Below.refl _ _) _) _), hT.pos, by omega, Nat.le_refl _, by simpa using hn⟩
  have := heap_alloc_new (w.alloc (.cells (madeCells #[.int .u64 0] (n / 64 + 1)) 50)) (.cells #[.int .i64 n, .slice (some ⟨w.heap.size, 0, none⟩) (n / 64 + 1) (n / 64 + 1)] 46)
  rw [hsz] at this
  rw [List.length_replicate]
  exact this
theorem new_ok (n : Nat) (w : World) (hn : n ≤ 1024) (hT : Tb w) :
    Calls Tryd.prog 6 #[.int .i64 (n : Int)] w fun e w' => ∃ c b, e = .returned (.tuple #[.pointer (some ⟨c, 0, none⟩), .int .i64 0]) ∧ SP w' w.heap.size c b (List.replicate n false) ∧ Below w.heap.size w w' := by
  have hs := SP_new w n hn hT
  have hw : IntKind.i64.wrap ((n : Int) / 64 + 1) = ((n / 64 + 1 : Nat) : Int) := by rw [IntWalk.i64_in _ (by omega)]; omega
  have hq : (n : Int).tdiv 64 = (n : Int) / 64 := Int.tdiv_eq_ediv_of_nonneg (by omega)
  have hm17 : n / 64 + 1 ≤ 4096 := by omega
  generalize n / 64 + 1 = m at hs hw hm17
  have HS := Aside0.mk hs
  have hmk := make44 m hm17
  have HB := Aside0.mk (below_alloc (below_alloc (Below.refl w.heap.size w) (.cells (madeCells #[.int .u64 0] m) 50)) (.cells #[.int .i64 n, .slice (some ⟨w.heap.size, 0, none⟩) m m] 46))
  have g1 : (0 : Int) ≤ (n : Int) := by omega
  have g2 : (n : Int) ≤ 1024 := by omega
  clear hT hs
  go_enter Tryd.func6, Tryd.ntmps6
  go_wp2_with fail
  go_ret2
  exact ⟨_, _, rfl, HS.out, HB.out⟩
theorem new_no (n : Int) (w : World) (hn : ¬ (0 ≤ n ∧ n ≤ 1024)) :
    Calls Tryd.prog 6 #[.int .i64 n] w fun e w' => e = .returned (.tuple #[.pointer none, .int .i64 2]) ∧ Drawn0 w w' := by
  by_cases h0 : n < 0
  · go_enter Tryd.func6, Tryd.ntmps6
    go_wp2_with fail
    go_ret2
    exact ⟨rfl, Drawn0.refl _⟩
  · have h1 : 1024 < n := by omega
    clear hn
    go_enter Tryd.func6, Tryd.ntmps6
    go_wp2_with fail
    go_ret2
    exact ⟨rfl, Drawn0.refl _⟩
theorem u64_max : IntKind.u64.max = 18446744073709551615 := by decide
theorem u64_signed : IntKind.u64.signed = false := rfl
theorem not_is (x : Nat) (hx : x < 18446744073709551616) : bits .xor .u64 IntKind.u64.max (x : Int) = ((18446744073709551615 - x : Nat) : Int) := by
  rw [u64_max, show (18446744073709551615 : Int) = ((18446744073709551615 : Nat) : Int) from rfl, u64_xor_nat _ _ (by decide) hx]
  congr 1
  apply Nat.eq_of_testBit_eq
  intro k
  rw [Nat.testBit_xor, show (18446744073709551615 : Nat) = 2 ^ 64 - 1 from rfl, Nat.testBit_two_pow_sub_one]
  have hc : 2 ^ 64 - 1 - x = 2 ^ 64 - (x + 1) := by omega
  rw [hc, Nat.testBit_two_pow_sub_succ (by simpa using hx)]
  by_cases hk : k < 64
  · simp [hk]
  · have : x.testBit k = false := Nat.testBit_lt_two_pow (Nat.lt_of_lt_of_le hx (by have : 2 ^ 64 ≤ 2 ^ k := Nat.pow_le_pow_right (by decide) (by omega); simpa using this))
    simp [hk, this]
def TP (w : World) (base c b : Nat) (T : List Bool) (e : Ending) (w' : World) : Prop :=
  e = .returned (.tuple #[.int .i64 (if fr T < T.length then (fr T : Int) else 0), .int .i64 (if fr T < T.length then 0 else 4)]) ∧ SP w' base c b (T.set (fr T) true) ∧ Kept w w' (Foot c b) ∧ Below base w w'
theorem TP_no {w w' : World} {base c b : Nat} {T : List Bool} (hf : fr T = T.length) (hS : SP w base c b T) (hd : Drawn0 w w') : TP w base c b T (.returned (.tuple #[.int .i64 0, .int .i64 4])) w' := by
  have e : T.set (fr T) true = T := by rw [hf, List.set_eq_of_length_le (Nat.le_refl _)]
  have hbase : base ≤ w.heap.size := Nat.le_trans hS.bc (Nat.le_of_lt (blk_lt hS.hc))
  refine ⟨by rw [if_neg (by omega), if_neg (by omega)], by rw [e]; exact hS.later hd.below, Kept.of_below hd.below _, hd.below.mono hbase⟩
theorem TP_yes {w w1 : World} {base c b : Nat} {T : List Bool} (k : Nat) (hf : fr T = k) (hk : k < T.length) (hS : SP w base c b T) (hd : Drawn0 w w1) :
    TP w base c b T (.returned (.tuple #[.int .i64 (k : Int), .int .i64 0])) (w1.setCell ⟨b, k / 64, none⟩ (.int .u64 (wd T (k / 64) ||| 2 ^ (k % 64) : Nat))) := by
  subst hf
  have hbase : base ≤ w.heap.size := Nat.le_trans hS.bc (Nat.le_of_lt (blk_lt hS.hc))
  obtain ⟨h1, h2, h3⟩ := (hS.later hd.below).wrote (fr T / 64) (.int .u64 (wd T (fr T / 64) ||| 2 ^ (fr T % 64) : Nat)) (T.set (fr T) true) (by simp) (wv_put T (fr T) hk)
  refine ⟨by rw [if_pos hk, if_pos hk], h1, (Kept.of_below hd.below _).then_ h2 (fun _ h => .inl h), (hd.below.mono hbase).trans h3⟩
theorem TP.drew {w w1 : World} {base c b : Nat} {T : List Bool} {e : Ending} (h : TP w base c b T e w1) : TP w base c b T e w1.drew :=
  ⟨h.1, h.2.1.move rfl (fun _ _ => rfl), h.2.2.1, h.2.2.2.drew⟩
theorem drawn_at {w w' : World} (n : Nat) (h : Drawn0 w w') : Drawn0 w (w'.drewN n) := h.step n
theorem take_any (w : World) (base c b : Nat) (T : List Bool) (h : SP w base c b T) :
    Calls Tryd.prog 8 #[.pointer (some ⟨c, 0, none⟩)] w (TP w base c b T) := by
  have HS := Aside0.mk h
  have hn := h.small
  obtain ⟨m, hm⟩ : ∃ m, m = T.length / 64 + 1 := ⟨_, rfl⟩
  have hm17 : m ≤ 17 := by omega
  have HTH := Aside0.mk (there_is _ _ _ _ _ h)
  have HM := Aside0.mk hm
  clear h hm
  go_enter Tryd.func8, Tryd.ntmps8
  go_wp2_with fail
  refine HTH.out.mono ?_
  rintro e w1 ⟨rfl, hd⟩
  have HD := Aside0.mk hd
  have hc1 : w1.cell? ⟨c, 1, none⟩ = some (.slice (some ⟨b, 0, none⟩) m m) := by rw [HM.out]; exact blk_cell (HS.out.later hd.below).hc 1
  clear hd HTH
  go_wp2_with fail
  clear hc1
  go_loopw [15] (fun v15 wr => ∃ i : Nat, i ≤ m ∧ v15 = .int .i64 i ∧ Aside0 (∀ k, k < 64 * i → bt T k = true) ∧ Aside0 (Drawn0 w wr)) (fun v15 _ => m - (intOf v15).toNat)
  case atStart => exact ⟨0, by omega, rfl, ⟨fun k hk => by omega⟩, HD⟩
  case round =>
    clear HD
    obtain ⟨i, hi, rfl, hF, hD⟩ := hrel
    by_cases hlt : i < m
    · have HS1 := Aside0.mk (HS.out.later hD.out.below)
      have hw := HS1.out.word (i := i) (by have := HM.out; omega)
      have hc0 : wr.cell? ⟨c, 0, none⟩ = some (.int .i64 T.length) := blk_cell HS1.out.hc 0
      have hc1 : wr.cell? ⟨c, 1, none⟩ = some (.slice (some ⟨b, 0, none⟩) m m) := by rw [HM.out]; exact blk_cell HS1.out.hc 1
      have hx := wd_lt T i
      have HNZ := Aside0.mk (not_zero T i)
      have HNC := Aside0.mk (not_ctz T i)
      have HWD : Aside0 (∃ q, q = wd T i) := ⟨_, rfl⟩
      obtain ⟨x, hxe⟩ := HWD.out
      rw [← hxe] at hw hx HNZ HNC
      have hxn := not_is x hx
      have hsg := u64_signed
      have HXE := Aside0.mk hxe
      clear hxe HWD
      obtain ⟨y, hy⟩ : ∃ y, y = 18446744073709551615 - x := ⟨_, rfl⟩
      rw [← hy] at hxn HNZ HNC
      have hyl : y < 18446744073709551616 := by omega
      have HTB := Aside0.mk HS1.out.tab
      have h64 : IntKind.i64.wrap ((i : Int) * 64) = 64 * (i : Int) := by rw [IntWalk.i64_in _ (by omega)]; omega
      clear hy
      go_wp2_with fail
      refine (tz_any y hyl _ HTB.out).mono ?_
      rintro e w2 ⟨rfl, hwe⟩
      subst w2
      by_cases hy0 : y = 0
      · subst hy0
        rw [ctz_zero]
        have h65 : IntKind.i64.wrap (64 * (i : Int) + 64) = 64 * (i : Int) + 64 := IntWalk.i64_in _ (by omega)
        have HF2 : Aside0 (∀ k, k < 64 * (i + 1) → bt T k = true) := ⟨fun k hk => by
          by_cases h : k < 64 * i
          · exact hF.out k h
          · exact HNZ.out rfl k (by omega) hk⟩
        clear hF
        go_wp2_with fail
        go_roundw
        case rel => exact ⟨i + 1, by omega, by go_num, HF2, hD⟩
        case measure => simp [intOf]; omega
      · obtain ⟨ht64, htf, htt⟩ := HNC.out hy0
        have hfr := fr_is T (64 * i + Lib.ctz 64 y) (fun k hk => by
          by_cases h : k < 64 * i
          · exact hF.out k h
          · exact htt k (by omega) hk) htf
        have HFR := Aside0.mk hfr
        clear hfr htf htt HNC HNZ hF
        obtain ⟨t, ht⟩ : ∃ t, t = Lib.ctz 64 y := ⟨_, rfl⟩
        rw [← ht] at HFR ht64 ⊢
        clear ht
        have hyi : ((y : Int) == 0) = false := by simp; omega
        have h65 : IntKind.i64.wrap (64 * (i : Int) + (t : Int)) = ((64 * i + t : Nat) : Int) := by rw [IntWalk.i64_in _ (by omega)]; omega
        by_cases hk : 64 * i + t < T.length
        · have hfk : fr T = 64 * i + t := by have := HFR.out; omega
          have hdiv : (64 * i + t) / 64 = i := by omega
          have hmod : (64 * i + t) % 64 = t := by omega
          have hyes := TP_yes (64 * i + t) hfk hk HS.out hD.out
          rw [hdiv, hmod, ← HXE.out] at hyes
          have HY := Aside0.mk hyes
          have hfz := HS1.out.hb.free i
          have hr : ((64 * i + t : Nat) : Int).tmod 64 = (t : Int) := by rw [Int.tmod_eq_emod_of_nonneg (by omega)]; omega
          have hor : bits .or .u64 (x : Int) (2 ^ t : Int) = ((x ||| 2 ^ t : Nat) : Int) := by
            have h2 : (2 : Nat) ^ t < 18446744073709551616 := by
              have : 2 ^ t < 2 ^ 64 := Nat.pow_lt_pow_right (by decide) ht64
              simpa using this
            have := u64_or_nat x (2 ^ t) hx h2
            rw [← this]
            simp
          have hsh : IntKind.u64.wrap ((2 : Int) ^ t) = (2 : Int) ^ t := by
            have h2 : (2 : Nat) ^ t < 18446744073709551616 := by
              have : 2 ^ t < 2 ^ 64 := Nat.pow_lt_pow_right (by decide) ht64
              simpa using this
            have := u64_inN (2 ^ t) h2
            simpa using this
          have hkb : ((64 * i + t : Nat) : Int) < (T.length : Int) := by omega
          clear hfk hyes hdiv hmod HFR
          generalize 64 * i + t = k at hr h65 hkb HY
          go_wp2_with fail
          go_region
          go_wp2_with fail
          go_ret2
          exact HY.out.drew
        · have hfk : fr T = T.length := by have := HFR.out; omega
          have HN := Aside0.mk (TP_no hfk HS.out hD.out)
          have hkb : (T.length : Int) ≤ ((64 * i + t : Nat) : Int) := by omega
          clear hfk HFR
          generalize 64 * i + t = k at h65 hkb
          go_wp2_with fail
          go_ret2
          exact HN.out
    · have him : i = m := by omega
      have := hF.out T.length (by have := HM.out; omega)
      rw [bt_off (Nat.le_refl _)] at this
      cases this
/-- What Give tells. -/
def gvE (T : List Bool) (s : Int) : Int := if 0 ≤ s ∧ bt T s.toNat = true then 0 else 91
def gvT (T : List Bool) (s : Int) : List Bool := if 0 ≤ s ∧ bt T s.toNat = true then T.set s.toNat false else T
theorem bt_lt {T : List Bool} {k : Nat} (h : bt T k = true) : k < T.length := by
  apply Nat.lt_of_not_le
  intro hle
  rw [bt_off hle] at h
  cases h
def GP (w : World) (base c b : Nat) (T : List Bool) (s : Int) (e : Ending) (w' : World) : Prop :=
  e = .returned (.int .i64 (gvE T s)) ∧ SP w' base c b (gvT T s) ∧ Kept w w' (Foot c b) ∧ Below base w w'
theorem GP_no {w w' : World} {base c b : Nat} {T : List Bool} {s : Int} (hf : ¬ (0 ≤ s ∧ bt T s.toNat = true)) (hS : SP w base c b T) (hd : Drawn0 w w') : GP w base c b T s (.returned (.int .i64 91)) w' := by
  have hbase : base ≤ w.heap.size := Nat.le_trans hS.bc (Nat.le_of_lt (blk_lt hS.hc))
  refine ⟨by unfold gvE; rw [if_neg hf], by unfold gvT; rw [if_neg hf]; exact hS.later hd.below, Kept.of_below hd.below _, hd.below.mono hbase⟩
theorem GP_yes {w w1 : World} {base c b : Nat} {T : List Bool} (k : Nat) (hf : bt T k = true) (hS : SP w base c b T) (hd : Drawn0 w w1) :
    GP w base c b T (k : Int) (.returned (.int .i64 0)) (w1.setCell ⟨b, k / 64, none⟩ (.int .u64 (wd T (k / 64) &&& (18446744073709551615 - 2 ^ (k % 64)) : Nat))) := by
  have hbase : base ≤ w.heap.size := Nat.le_trans hS.bc (Nat.le_of_lt (blk_lt hS.hc))
  have hc : 0 ≤ (k : Int) ∧ bt T (k : Int).toNat = true := ⟨by omega, by simpa using hf⟩
  obtain ⟨h1, h2, h3⟩ := (hS.later hd.below).wrote (k / 64) (.int .u64 (wd T (k / 64) &&& (18446744073709551615 - 2 ^ (k % 64)) : Nat)) (T.set k false) (by simp) (wv_off T k (bt_lt hf))
  refine ⟨by unfold gvE; rw [if_pos hc], by unfold gvT; rw [if_pos hc]; exact h1, (Kept.of_below hd.below _).then_ h2 (fun _ h => .inl h), (hd.below.mono hbase).trans h3⟩
theorem GP.drew {w w1 : World} {base c b : Nat} {T : List Bool} {s : Int} {e : Ending} (h : GP w base c b T s e w1) : GP w base c b T s e w1.drew :=
  ⟨h.1, h.2.1.move rfl (fun _ _ => rfl), h.2.2.1, h.2.2.2.drew⟩
theorem pow_lt64 {t : Nat} (h : t < 64) : 2 ^ t < 18446744073709551616 := by
  have : 2 ^ t < 2 ^ 64 := Nat.pow_lt_pow_right (by decide) h
  simpa using this
theorem give_any (w : World) (base c b : Nat) (T : List Bool) (s : Int) (h : SP w base c b T) :
    Calls Tryd.prog 10 #[.pointer (some ⟨c, 0, none⟩), .int .i64 s] w (GP w base c b T s) := by
  have HS := Aside0.mk h
  have hn := h.small
  have HTH := Aside0.mk (there_is _ _ _ _ _ h)
  by_cases h0 : s < 0
  · have HN := Aside0.mk (fun w' => GP_no (w' := w') (s := s) (fun hh => by omega) h)
    clear h
    go_enter Tryd.func10, Tryd.ntmps10
    go_wp2_with fail
    refine HTH.out.mono ?_
    rintro e w1 ⟨rfl, hd⟩
    go_wp2_with fail
    go_ret
    exact HN.out _ hd
  · obtain ⟨k, rfl⟩ := Int.eq_ofNat_of_zero_le (by omega : 0 ≤ s)
    clear h0
    by_cases hk : T.length ≤ k
    · have HN := Aside0.mk (fun w' => GP_no (w' := w') (s := (k : Int)) (fun hh => by have := hh.2; rw [Int.toNat_natCast, bt_off hk] at this; cases this) h)
      have hc0 : ∀ w', Drawn0 w w' → w'.cell? ⟨c, 0, none⟩ = some (.int .i64 T.length) := fun w' hd => blk_cell (HS.out.later hd.below).hc 0
      have HC := Aside0.mk hc0
      have hki : (T.length : Int) ≤ (k : Int) := by omega
      have hk0 : (0 : Int) ≤ (k : Int) := by omega
      clear h hc0 hk
      go_enter Tryd.func10, Tryd.ntmps10
      go_wp2_with fail
      refine HTH.out.mono ?_
      rintro e w1 ⟨rfl, hd⟩
      have hc0 := HC.out _ hd
      go_wp2_with fail
      go_ret
      exact HN.out _ hd
    · have hki : (k : Int) < (T.length : Int) := by omega
      have hk0 : (0 : Int) ≤ (k : Int) := by omega
      obtain ⟨m, hm⟩ : ∃ m, m = T.length / 64 + 1 := ⟨_, rfl⟩
      have HM := Aside0.mk hm
      have hm17 : m ≤ 17 := by omega
      have hq : (k : Int).tdiv 64 = ((k / 64 : Nat) : Int) := by rw [Int.tdiv_eq_ediv_of_nonneg hk0]; omega
      have hr : (k : Int).tmod 64 = ((k % 64 : Nat) : Int) := by rw [Int.tmod_eq_emod_of_nonneg hk0]; omega
      have hx := wd_lt T (k / 64)
      have hat := wd_at T k
      have HYES := Aside0.mk (fun w1 (hb : bt T k = true) => GP_yes (w1 := w1) k hb h)
      have HNO := Aside0.mk (fun w' (hb : bt T k = false) => GP_no (w' := w') (s := (k : Int)) (fun hh => by have := hh.2; rw [Int.toNat_natCast, hb] at this; cases this) h)
      have ht64 : k % 64 < 64 := Nat.mod_lt _ (by decide)
      have hi : k / 64 < m := by omega
      have HWD : Aside0 (∀ w', Drawn0 w w' → w'.cell? ⟨c, 0, none⟩ = some (.int .i64 T.length) ∧ w'.cell? ⟨c, 1, none⟩ = some (.slice (some ⟨b, 0, none⟩) m m) ∧ w'.cell? ⟨b, (k / 64 : Nat), none⟩ = some (.int .u64 (wd T (k / 64) : Nat)) ∧ w'.frozen? ⟨b, (k / 64 : Nat), none⟩ = false) :=
        ⟨fun w' hd => ⟨blk_cell (HS.out.later hd.below).hc 0, by rw [hm]; exact blk_cell (HS.out.later hd.below).hc 1, (HS.out.later hd.below).word (by omega), (HS.out.later hd.below).hb.free _⟩⟩
      clear h hm hk
      generalize wd T (k / 64) = x at hx hat HYES HWD
      generalize k / 64 = i at hq HYES HWD hi
      generalize k % 64 = t at hr hat HYES ht64
      have hp := pow_lt64 ht64
      have hsh : IntKind.u64.wrap ((2 : Int) ^ t) = (2 : Int) ^ t := by
        have := u64_inN (2 ^ t) hp
        simpa using this
      have hand : bits .and .u64 ((x : Int) / 2 ^ t) 1 = ((x / 2 ^ t % 2 : Nat) : Int) := by
        have := u64_and_nat (x / 2 ^ t) 1 (Nat.lt_of_le_of_lt (Nat.div_le_self _ _) hx) (by decide)
        rw [show x / 2 ^ t &&& 1 = x / 2 ^ t % 2 from Nat.and_two_pow_sub_one_eq_mod _ 1] at this
        rw [← this]
        simp
      rw [hat] at hand
      have hi17 : (i : Int) < (m : Int) := by omega
      have hi0 : (0 : Int) ≤ (i : Int) := by omega
      have t0 : (0 : Int) ≤ (t : Int) := by omega
      clear hat
      cases hb : bt T k
      · rw [hb] at hand
        have hand' : bits .and .u64 ((x : Int) / 2 ^ t) 1 = 0 := hand
        clear hand
        go_enter Tryd.func10, Tryd.ntmps10
        go_wp2_with fail
        refine HTH.out.mono ?_
        rintro e w1 ⟨rfl, hd⟩
        obtain ⟨hc0, hc1, hw, hfz⟩ := HWD.out _ hd
        go_wp2_with fail
        go_ret
        exact HNO.out _ hb hd
      · rw [hb] at hand
        have hand' : bits .and .u64 ((x : Int) / 2 ^ t) 1 = 1 := hand
        have hno : bits .andNot .u64 (x : Int) ((2 : Int) ^ t) = ((x &&& (18446744073709551615 - 2 ^ t) : Nat) : Int) := by
          have := u64_andNot_nat x (2 ^ t) hx hp
          rw [← this]
          simp
        have HB := Aside0.mk hb
        clear hand hb
        go_enter Tryd.func10, Tryd.ntmps10
        go_wp2_with fail
        refine HTH.out.mono ?_
        rintro e w1 ⟨rfl, hd⟩
        obtain ⟨hc0, hc1, hw, hfz⟩ := HWD.out _ hd
        have HY := Aside0.mk (HYES.out _ HB.out hd)
        clear hd HTH
        go_wp2_with fail
        go_region
        go_wp2_with fail
        go_ret
        exact HY.out.drew
end Go.Proofs.YtlfgkdgjekbkgaaDoor.H
