/- The reference's slots: New, Take, Give, Used, Free. -/
import Derived.Test.YtlfgkdgjekbkgaaDoorC4
namespace Go.Proofs.YtlfgkdgjekbkgaaDoor.H
open Go.RowKit Go.Proofs.YtlfgkdgjekbkgaaDoorW.PrintWords Go.Proofs.YtlfgkdgjekbkgaaDoorW.PrintLast Go.Proofs.YtlfgkdgjekbkgaaDoorW.PrintMore
set_option linter.unusedVariables false
set_option linter.unusedSimpArgs false
set_option maxHeartbeats 8000000
set_option maxRecDepth 100000
def bv (T : List Bool) : List Value := T.map Value.bool
theorem bv_set (T : List Bool) (k : Nat) (b : Bool) : bv (T.set k b) = (bv T).set k (.bool b) := by simp [bv, List.map_set]
/-- The reference's area: its box c, its bools b, what is taken T. -/
structure SQ (w : World) (base c b : Nat) (T : List Bool) : Prop where
  hc : Bl w c 49 #[.bool true, .slice (some ⟨b, 0, none⟩) T.length T.length]
  hb : Bl w b 4 (bv T).toArray
  bc : base ≤ c
  bb : base ≤ b
  small : T.length ≤ 1024
theorem SQ.lt {w : World} {base c b : Nat} {T : List Bool} (h : SQ w base c b T) {k : Nat} (hk : Foot c b k) : base ≤ k ∧ k < w.heap.size := by
  rcases hk with rfl | rfl
  · exact ⟨h.bc, blk_lt h.hc⟩
  · exact ⟨h.bb, blk_lt h.hb⟩
theorem SQ.move {w w' : World} {base c b : Nat} {T : List Bool} (h : SQ w base c b T) (hm : ∀ k, Foot c b k → w'.heap[k]? = w.heap[k]?) : SQ w' base c b T :=
  ⟨(hm c (.inl rfl)).trans h.hc, (hm b (.inr rfl)).trans h.hb, h.bc, h.bb, h.small⟩
theorem SQ.later {w w' : World} {base c b : Nat} {T : List Bool} (h : SQ w base c b T) (hb : Below w.heap.size w w') : SQ w' base c b T :=
  h.move (fun k hk => hb.block k (h.lt hk).2)
theorem SQ.kept {w w' : World} {S : Nat → Prop} {base c b : Nat} {T : List Bool} (h : SQ w base c b T) (hb : Kept w w' S) (hd : ∀ k, Foot c b k → ¬ S k) : SQ w' base c b T :=
  h.move (fun k hk => hb.2 k (h.lt hk).2 (hd k hk))
theorem SQ.bit {w : World} {base c b : Nat} {T : List Bool} (h : SQ w base c b T) {i : Nat} (hi : i < T.length) : w.cell? ⟨b, i, none⟩ = some (.bool (bt T i)) := by
  refine (blk_cell h.hb i).trans ?_
  simp [bv, bt, hi]
theorem SQ.low {w : World} {base base' c b : Nat} {T : List Bool} (h : SQ w base c b T) (hb : base' ≤ base) : SQ w base' c b T := ⟨h.hc, h.hb, Nat.le_trans hb h.bc, Nat.le_trans hb h.bb, h.small⟩
theorem SQ.ne {w : World} {base c b : Nat} {T : List Bool} (h : SQ w base c b T) : c ≠ b := by
  intro e
  have h1 := h.hc
  rw [e] at h1
  have h2 := h.hb
  unfold Bl at h1 h2
  rw [h1] at h2
  simp at h2
theorem SQ.wrote {w : World} {base c b : Nat} {T : List Bool} (h : SQ w base c b T) (i : Nat) (v : Bool) :
    SQ (w.setCell ⟨b, i, none⟩ (.bool v)) base c b (T.set i v) ∧ Kept w (w.setCell ⟨b, i, none⟩ (.bool v)) (Foot c b) ∧ Below base w (w.setCell ⟨b, i, none⟩ (.bool v)) := by
  have hsz : (w.setCell ⟨b, i, none⟩ (.bool v)).heap.size = w.heap.size := by simp [World.setCell]
  refine ⟨⟨?_, ?_, h.bc, h.bb, by rw [List.length_set]; exact h.small⟩, ⟨by rw [hsz]; exact Nat.le_refl _, fun k hk hn => Below.heap_setCell w ⟨b, i, none⟩ (.bool v) k (fun e => hn (.inr e))⟩, ⟨rfl, rfl, rfl, by rw [hsz]; exact Nat.le_refl _, fun k hk => Below.heap_setCell w ⟨b, i, none⟩ (.bool v) k (by have := h.bb; show k ≠ b; omega)⟩⟩
  · rw [List.length_set]
    exact (Below.heap_setCell w ⟨b, i, none⟩ (.bool v) c h.ne).trans h.hc
  · have := blk_set h.hb i (.bool v)
    rw [bv_set]
    have e : ((bv T).set i (.bool v)).toArray = (bv T).toArray.setIfInBounds i (.bool v) := by simp
    rw [e]
    exact this
theorem make42 (m : Nat) (hm : m ≤ 4096) : ∀ W : World, (Instr.makeSlice 42 (.int .i64 (m : Int)) (.int .i64 (m : Int))).run Tryd.prog W = .ok (.slice (some ⟨W.heap.size, 0, none⟩) m m) (W.alloc (.cells (madeCells #[.bool false] m) 4)) :=
  fun W => run_make_row' 42 4 (.bool false) 1 Tryd.underlying42 (by kernel_rfl) rfl .i64 .i64 m (by omega) (by omega) W
theorem made_bools (w : World) (n : Nat) : Bl (w.alloc (.cells (madeCells #[.bool false] n) 4)) w.heap.size 4 (bv (List.replicate n false)).toArray := by
  have := heap_alloc_new w (.cells (madeCells #[.bool false] n) 4)
  rw [made_list] at this
  rw [made_list]
  have e : bv (List.replicate n false) = List.replicate n (.bool false) := by simp [bv]
  rw [e]
  exact this
theorem SQ_new (w : World) (n : Nat) (hn : n ≤ 1024) :
    SQ ((w.alloc (.cells (madeCells #[.bool false] n) 4)).alloc (.cells #[.bool true, .slice (some ⟨w.heap.size, 0, none⟩) n n] 49)) w.heap.size (w.heap.size + 1) w.heap.size (List.replicate n false) := by
  have hb := made_bools w n
  have hsz : (w.alloc (.cells (madeCells #[.bool false] n) 4)).heap.size = w.heap.size + 1 := by simp only [World.alloc, Array.size_push]
  refine ⟨?_, hb.later (below_alloc (Below.refl _ _) _), by omega, Nat.le_refl _, by simpa using hn⟩
  have := heap_alloc_new (w.alloc (.cells (madeCells #[.bool false] n) 4)) (.cells #[.bool true, .slice (some ⟨w.heap.size, 0, none⟩) n n] 49)
  rw [hsz] at this
  rw [List.length_replicate]
  exact this
theorem within01 (n : Int) : cofferdamref01_Within.f n 0 1024 = some (decide (0 ≤ n ∧ n ≤ 1024)) := by
  unfold cofferdamref01_Within.f
  by_cases h : n ≥ 0
  · rw [if_pos h]
    congr 1
    rw [decide_eq_decide]
    omega
  · rw [if_neg h]
    congr 1
    simp
    omega
theorem rnew_ok (n : Nat) (w : World) (hn : n ≤ 1024) :
    Calls Tryd.prog 7 #[.int .i64 (n : Int)] w fun e w' => ∃ c b, e = .returned (.tuple #[.pointer (some ⟨c, 0, none⟩), .int .i64 0]) ∧ SQ w' w.heap.size c b (List.replicate n false) ∧ Below w.heap.size w w' := by
  have HS := Aside0.mk (fun w => SQ_new w n hn)
  have hmk := make42 n (by omega)
  have HB := Aside0.mk (fun w : World => below_alloc (below_alloc (Below.refl w.heap.size w) (.cells (madeCells #[.bool false] n) 4)) (.cells #[.bool true, .slice (some ⟨w.heap.size, 0, none⟩) n n] 49))
  have e : decide ((0 : Int) ≤ (n : Int) ∧ (n : Int) ≤ 1024) = true := by simp; omega
  have HW := Aside0.mk (within01 n)
  rw [e] at HW
  have g1 : (0 : Int) ≤ (n : Int) := by omega
  have g2 : (n : Int) ≤ 1024 := by omega
  clear e
  go_enter Tryd.func7, Tryd.ntmps7
  go_wp2_with fail
  refine (cofferdamref01_Within.calls _ _ _ _ _ HW.out).mono ?_
  rintro e w1 ⟨rfl, hd⟩
  have HD := Aside0.mk hd.below
  clear hd
  go_wp2_with fail
  go_ret2
  exact ⟨_, _, rfl, (HS.out _).low HD.out.size, below_step HD.out (HB.out _)⟩
theorem rnew_no (n : Int) (w : World) (hn : ¬ (0 ≤ n ∧ n ≤ 1024)) :
    Calls Tryd.prog 7 #[.int .i64 n] w fun e w' => e = .returned (.tuple #[.pointer none, .int .i64 2]) ∧ Drawn0 w w' := by
  have e : decide ((0 : Int) ≤ n ∧ n ≤ 1024) = false := decide_eq_false hn
  have HW := Aside0.mk (within01 n)
  rw [e] at HW
  clear e hn
  go_enter Tryd.func7, Tryd.ntmps7
  go_wp2_with fail
  refine (cofferdamref01_Within.calls _ _ _ _ _ HW.out).mono ?_
  rintro e w1 ⟨rfl, hd⟩
  go_wp2_with fail
  go_ret2
  exact ⟨rfl, hd⟩
def RTP (w : World) (base c b : Nat) (T : List Bool) (e : Ending) (w' : World) : Prop :=
  e = .returned (.tuple #[.int .i64 (if fr T < T.length then (fr T : Int) else 0), .int .i64 (if fr T < T.length then 0 else 4)]) ∧ SQ w' base c b (T.set (fr T) true) ∧ Kept w w' (Foot c b) ∧ Below base w w'
theorem RTP_no {w w' : World} {base c b : Nat} {T : List Bool} (hf : fr T = T.length) (hS : SQ w base c b T) (hd : Drawn0 w w') : RTP w base c b T (.returned (.tuple #[.int .i64 0, .int .i64 4])) w' := by
  have e : T.set (fr T) true = T := by rw [hf, List.set_eq_of_length_le (Nat.le_refl _)]
  have hbase : base ≤ w.heap.size := Nat.le_trans hS.bc (Nat.le_of_lt (blk_lt hS.hc))
  refine ⟨by rw [if_neg (by omega), if_neg (by omega)], by rw [e]; exact hS.later hd.below, Kept.of_below hd.below _, hd.below.mono hbase⟩
theorem RTP_yes {w w1 : World} {base c b : Nat} {T : List Bool} (k : Nat) (hf : fr T = k) (hk : k < T.length) (hS : SQ w base c b T) (hd : Drawn0 w w1) :
    RTP w base c b T (.returned (.tuple #[.int .i64 (k : Int), .int .i64 0])) (w1.setCell ⟨b, k, none⟩ (.bool true)) := by
  subst hf
  have hbase : base ≤ w.heap.size := Nat.le_trans hS.bc (Nat.le_of_lt (blk_lt hS.hc))
  obtain ⟨h1, h2, h3⟩ := (hS.later hd.below).wrote (fr T) true
  refine ⟨by rw [if_pos hk, if_pos hk], h1, (Kept.of_below hd.below _).then_ h2 (fun _ h => .inl h), (hd.below.mono hbase).trans h3⟩
theorem RTP.drew {w w1 : World} {base c b : Nat} {T : List Bool} {e : Ending} (h : RTP w base c b T e w1) : RTP w base c b T e w1.drew :=
  ⟨h.1, h.2.1.move (fun _ _ => rfl), h.2.2.1, h.2.2.2.drew⟩
theorem rtake_any (w : World) (base c b : Nat) (T : List Bool) (h : SQ w base c b T) :
    Calls Tryd.prog 9 #[.pointer (some ⟨c, 0, none⟩)] w (RTP w base c b T) := by
  have HS := Aside0.mk h
  have hn := h.small
  have hc0 : w.cell? ⟨c, 0, none⟩ = some (.bool true) := blk_cell h.hc 0
  obtain ⟨n, hm⟩ : ∃ n, n = T.length := ⟨_, rfl⟩
  have HM := Aside0.mk hm
  have hn24 : n ≤ 1024 := by omega
  clear h hm hn
  go_enter Tryd.func9, Tryd.ntmps9
  go_wp2_with fail
  go_loopw [4] (fun v4 wr => ∃ i : Nat, i ≤ n ∧ v4 = .int .i64 i ∧ Aside0 (∀ k, k < i → bt T k = true) ∧ Aside0 (Drawn0 w wr)) (fun v4 _ => n - (intOf v4).toNat)
  case atStart => exact ⟨0, by omega, rfl, ⟨fun k hk => by omega⟩, ⟨Drawn0.refl _⟩⟩
  case round =>
    clear hc0
    obtain ⟨i, hi, rfl, hF, hD⟩ := hrel
    have HS1 := Aside0.mk (HS.out.later hD.out.below)
    have hc1 : wr.cell? ⟨c, 1, none⟩ = some (.slice (some ⟨b, 0, none⟩) n n) := by rw [HM.out]; exact blk_cell HS1.out.hc 1
    by_cases hlt : i < n
    · have hw := HS1.out.bit (i := i) (by have := HM.out; omega)
      cases hbt : bt T i
      · rw [hbt] at hw
        have hfr := fr_is T i hF.out hbt
        have hfk : fr T = i := by have := HM.out; omega
        have HY := Aside0.mk (RTP_yes i hfk (by have := HM.out; omega) HS.out hD.out)
        have hfz := HS1.out.hb.free i
        clear hfr hfk hbt hF
        go_wp2_with fail
        go_ret2
        exact HY.out
      · rw [hbt] at hw
        have HF2 : Aside0 (∀ k, k < i + 1 → bt T k = true) := ⟨fun k hk => by
          by_cases h : k < i
          · exact hF.out k h
          · rw [show k = i by omega]; exact hbt⟩
        clear hbt hF
        go_wp2_with fail
        go_roundw
        case rel => exact ⟨i + 1, by omega, by go_num, HF2, hD⟩
        case measure => simp [intOf]; omega
    · have hin : i = n := by omega
      have hfr := fr_is T T.length (fun k hk => hF.out k (by have := HM.out; omega)) (bt_off (Nat.le_refl _))
      have hfk : fr T = T.length := by omega
      have HN := Aside0.mk (RTP_no hfk HS.out hD.out)
      subst hin
      clear hfr hfk hF
      go_wp2_with fail
      go_ret2
      exact HN.out
def RGP (w : World) (base c b : Nat) (T : List Bool) (s : Int) (e : Ending) (w' : World) : Prop :=
  e = .returned (.int .i64 (gvE T s)) ∧ SQ w' base c b (gvT T s) ∧ Kept w w' (Foot c b) ∧ Below base w w'
theorem RGP_no {w w' : World} {base c b : Nat} {T : List Bool} {s : Int} (hf : ¬ (0 ≤ s ∧ bt T s.toNat = true)) (hS : SQ w base c b T) (hd : Drawn0 w w') : RGP w base c b T s (.returned (.int .i64 91)) w' := by
  have hbase : base ≤ w.heap.size := Nat.le_trans hS.bc (Nat.le_of_lt (blk_lt hS.hc))
  refine ⟨by unfold gvE; rw [if_neg hf], by unfold gvT; rw [if_neg hf]; exact hS.later hd.below, Kept.of_below hd.below _, hd.below.mono hbase⟩
theorem RGP_yes {w w1 : World} {base c b : Nat} {T : List Bool} (k : Nat) (hf : bt T k = true) (hS : SQ w base c b T) (hd : Drawn0 w w1) :
    RGP w base c b T (k : Int) (.returned (.int .i64 0)) (w1.setCell ⟨b, k, none⟩ (.bool false)) := by
  have hbase : base ≤ w.heap.size := Nat.le_trans hS.bc (Nat.le_of_lt (blk_lt hS.hc))
  have hc : 0 ≤ (k : Int) ∧ bt T (k : Int).toNat = true := ⟨by omega, by simpa using hf⟩
  obtain ⟨h1, h2, h3⟩ := (hS.later hd.below).wrote k false
  refine ⟨by unfold gvE; rw [if_pos hc], by unfold gvT; rw [if_pos hc]; exact h1, (Kept.of_below hd.below _).then_ h2 (fun _ h => .inl h), (hd.below.mono hbase).trans h3⟩
theorem rgive_any (w : World) (base c b : Nat) (T : List Bool) (s : Int) (h : SQ w base c b T) :
    Calls Tryd.prog 11 #[.pointer (some ⟨c, 0, none⟩), .int .i64 s] w (RGP w base c b T s) := by
  have hn := h.small
  have hc0 : w.cell? ⟨c, 0, none⟩ = some (.bool true) := blk_cell h.hc 0
  have hc1 : w.cell? ⟨c, 1, none⟩ = some (.slice (some ⟨b, 0, none⟩) T.length T.length) := blk_cell h.hc 1
  by_cases h0 : s < 0
  · have HN := Aside0.mk (fun w' => RGP_no (w' := w') (s := s) (fun hh => by omega) h)
    clear h
    generalize T.length = n at hc1 hn
    go_enter Tryd.func11, Tryd.ntmps11
    go_wp2_with fail
    go_ret
    exact HN.out _ (Drawn0.refl _)
  · obtain ⟨k, rfl⟩ := Int.eq_ofNat_of_zero_le (by omega : 0 ≤ s)
    clear h0
    by_cases hk : T.length ≤ k
    · have HN := Aside0.mk (fun w' => RGP_no (w' := w') (s := (k : Int)) (fun hh => by have := hh.2; rw [Int.toNat_natCast, bt_off hk] at this; cases this) h)
      have hki : (T.length : Int) ≤ (k : Int) := by omega
      have hk0 : (0 : Int) ≤ (k : Int) := by omega
      clear h hk
      generalize T.length = n at hc1 hn hki
      go_enter Tryd.func11, Tryd.ntmps11
      go_wp2_with fail
      go_ret
      exact HN.out _ (Drawn0.refl _)
    · have hki : (k : Int) < (T.length : Int) := by omega
      have hk0 : (0 : Int) ≤ (k : Int) := by omega
      have hw := h.bit (i := k) (by omega)
      have hfz := h.hb.free k
      cases hb : bt T k
      · rw [hb] at hw
        have HN := Aside0.mk (fun w' => RGP_no (w' := w') (s := (k : Int)) (fun hh => by have := hh.2; rw [Int.toNat_natCast, hb] at this; cases this) h)
        clear h hb hk
        generalize T.length = n at hc1 hn hki
        go_enter Tryd.func11, Tryd.ntmps11
        go_wp2_with fail
        go_ret
        exact HN.out _ (Drawn0.refl _)
      · rw [hb] at hw
        have HY := Aside0.mk (RGP_yes k hb h (Drawn0.refl _))
        clear h hb hk
        generalize T.length = n at hc1 hn hki
        go_enter Tryd.func11, Tryd.ntmps11
        go_wp2_with fail
        go_ret
        exact HY.out
theorem rused_any (w : World) (base c b : Nat) (T : List Bool) (h : SQ w base c b T) :
    Calls Tryd.prog 16 #[.pointer (some ⟨c, 0, none⟩)] w (UP w T) := by
  have HS := Aside0.mk h
  have hn := h.small
  obtain ⟨n, hm⟩ : ∃ n, n = T.length := ⟨_, rfl⟩
  have HM := Aside0.mk hm
  have hn24 : n ≤ 1024 := by omega
  clear h hm hn
  go_enter Tryd.func16, Tryd.ntmps16
  go_wp2_with fail
  go_loopw [3, 4] (fun v3 v4 wr => ∃ i : Nat, i ≤ n ∧ v4 = .int .i64 i ∧ Aside0 (wr.ownsRow w.heap.size 3 1 v3 (U T i).length (nums .i64 (U T i))) ∧ Aside0 (Below w.heap.size w wr)) (fun _ v4 _ => n - (intOf v4).toNat)
  case atStart => exact ⟨0, by omega, rfl, ⟨own_nil _ _ _ _⟩, ⟨Below.refl _ _⟩⟩
  case round =>
    obtain ⟨i, hi, rfl, hO, hB⟩ := hrel
    have HS1 := Aside0.mk (HS.out.later hB.out)
    have hc1 : wr.cell? ⟨c, 1, none⟩ = some (.slice (some ⟨b, 0, none⟩) n n) := by rw [HM.out]; exact blk_cell HS1.out.hc 1
    by_cases hlt : i < n
    · have hw := HS1.out.bit (i := i) (by have := HM.out; omega)
      have hU := U_succ T i
      cases hbt : bt T i
      · rw [hbt] at hw hU
        rw [if_neg (by decide)] at hU
        have hO' : Aside0 (wr.ownsRow w.heap.size 3 1 u3 (U T (i + 1)).length (nums .i64 (U T (i + 1)))) := ⟨by rw [hU]; exact hO.out⟩
        clear hO hU hbt
        go_wp2_with fail
        go_roundw
        case rel => exact ⟨i + 1, by omega, by go_num, hO', hB⟩
        case measure => simp [intOf]; omega
      · rw [hbt] at hw hU
        rw [if_pos rfl] at hU
        have HU := Aside0.mk hU
        have hul : Aside0 (((U T i).length + 1) * 8 ≤ 140737488355328) := ⟨by have := U_len T i; omega⟩
        have hbs : Aside0 (w.heap.size ≤ wr.heap.size) := ⟨hB.out.size⟩
        clear hU hbt
        go_wp2_with (first | ((with_reducible refine gate_builtin (b := .append) (xs := #[.tmp 24, .tmp 26]) rfl ?_); at_builtin; refine print_append_num (w0 := w) w.heap.size rfl (.tmp 24) (.tmp 26) 35 3 .i64 8 rfl Tryd.underlying35 info3 (by decide) _ (U T i) (i : Int) rfl rfl hO.out hB.out hbs.out hul.out ?_; intro v1 wa ho1 hb1 hg1 hat1; have HO := Aside0.mk ho1; have HBa := Aside0.mk hb1; clear ho1 hb1 hg1 hat1; refine Hold.of ?_))
        unfold Hold
        have HO' : Aside0 (wa.ownsRow w.heap.size 3 1 v1 (U T (i + 1)).length (nums .i64 (U T (i + 1)))) := ⟨by rw [HU.out]; exact HO.out⟩
        clear HO hO hB hbs hc1 hw
        go_wp2_with fail
        go_roundw
        case rel => exact ⟨i + 1, by omega, by go_num, HO', HBa⟩
        case measure => simp [intOf]; omega
    · have hin : i = n := by omega
      have hO' : Aside0 (wr.ownsRow w.heap.size 3 1 u3 (U T T.length).length (nums .i64 (U T T.length))) := ⟨by rw [← HM.out, ← hin]; exact hO.out⟩
      subst hin
      clear hO
      go_wp2_with fail
      go_ret
      exact ⟨_, rfl, hO'.out, hB.out⟩
def RFP (w : World) (T : List Bool) (e : Ending) (w' : World) : Prop := e = .returned (.int .i64 (T.length - (U T T.length).length : Int)) ∧ Below w.heap.size w w'
theorem rfree_any (w : World) (base c b : Nat) (T : List Bool) (h : SQ w base c b T) :
    Calls Tryd.prog 14 #[.pointer (some ⟨c, 0, none⟩)] w (RFP w T) := by
  have hn := h.small
  have HU := Aside0.mk (U_len T T.length)
  have HUS := Aside0.mk (rused_any w base c b T h)
  have hc1 : w.cell? ⟨c, 1, none⟩ = some (.slice (some ⟨b, 0, none⟩) T.length T.length) := blk_cell h.hc 1
  have HS := Aside0.mk h
  have hs : ∀ n : Nat, n = T.length → IntKind.i64.wrap ((n : Int) - ((U T T.length).length : Int)) = (T.length - (U T T.length).length : Int) := fun n e => by subst e; exact IntWalk.i64_in _ (by have := HU.out; omega)
  have HH := Aside0.mk hs
  clear h hs
  obtain ⟨n, hm⟩ : ∃ n, n = T.length := ⟨_, rfl⟩
  have HM := Aside0.mk hm
  have hw := HH.out n hm
  rw [← hm] at hc1
  clear hm hn
  go_enter Tryd.func14, Tryd.ntmps14
  go_wp2_with fail
  go_region_with (first
    | (go_at_call 16; refine (rused_any _ base c b T (by first | exact HS.out | exact HS.out.later (below_drew (Below.refl _ _)))).mono ?_; rintro e w' ⟨v, rfl, ho, hb⟩; obtain ⟨A, cc, rfl⟩ := own_slice ho; have hc1 := pw_cell_below hb hc1; have HB := Aside0.mk hb; clear hb ho))
  all_goals go_wp2_with fail
  all_goals go_ret
  all_goals exact ⟨rfl, by first | exact below_step (below_drew (Below.refl w.heap.size w)) HB.out | exact HB.out | exact below_drew (below_step (below_drew (Below.refl w.heap.size w)) HB.out) | exact below_drew HB.out⟩
end Go.Proofs.YtlfgkdgjekbkgaaDoor.H
