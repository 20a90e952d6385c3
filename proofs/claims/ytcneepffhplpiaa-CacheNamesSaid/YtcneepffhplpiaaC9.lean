/- The reference's Lines, Touch, Flush, New; the program's Flush, and what New refuses. -/
import Derived.Test.YtcneepffhplpiaaC8
import Derived.Test.YtcneepffhplpiaaD3
namespace Go.Proofs.Ytcneepffhplpiaa.H
open Go.RowKit Go.Proofs.YtcneepffhplpiaaW.PrintWords Go.Proofs.YtcneepffhplpiaaW.PrintLast Go.Proofs.YtcneepffhplpiaaW.PrintMore
set_option linter.unusedVariables false
set_option linter.unusedSimpArgs false
set_option maxHeartbeats 8000000
set_option maxRecDepth 100000
theorem rlines_any (w : World) (base c b : Nat) (wy : Int) (vs : List Value) (M : List (List Int)) (h : SR w base c b wy vs M) :
    Calls Try.prog 28 #[.pointer (some ⟨c, 0, none⟩)] w fun e w' => ∃ v, e = .returned v ∧ Kd.R k39 39 w' w.heap.size (fun _ => True) v (LN M M.length) ∧ Below w.heap.size w w' := by
  have hc1 : w.cell? ⟨c, 1, none⟩ = some (.slice (some ⟨b, 0, none⟩) M.length M.length) := blk_cell h.hc 1
  have hM := h.small
  have hl : ∀ i, i < M.length → (M.getD i []).length ≤ 16 := fun i hi => by have := h.lens i hi; have := h.wy16; omega
  have HL := Aside0.mk (LN_le M hl)
  have HL16 := Aside0.mk hl
  have HV := Aside0.mk (fun i (hi : i < M.length) => h.row hi)
  have HC := Aside0.mk hc1
  clear hl h hc1
  go_enter Try.func28, Try.ntmps28
  go_wp2_with fail
  go_loopw [3, 4] (fun v3 v4 wr => ∃ i : Nat, i ≤ M.length ∧ v4 = .int .i64 i ∧ Aside0 (Kd.R k39 39 wr w.heap.size (fun _ => True) v3 (LN M i)) ∧ Aside0 (Below w.heap.size w wr)) (fun _ v4 _ => M.length - (intOf v4).toNat)
  case atStart => exact ⟨0, by omega, rfl, ⟨Kd.R_nil _ _ _ _ _⟩, ⟨Below.refl _ _⟩⟩
  case round =>
    obtain ⟨i, hi, rfl, hR, hB⟩ := hrel
    have hc1 := pw_cell_below hB.out HC.out
    by_cases hlt : i < M.length
    · obtain ⟨A, cc, hvs0, hrd0⟩ := HV.out i hlt
      have HVS := Aside0.mk hvs0
      have HRD := Aside0.mk hrd0
      have hl16 := HL16.out i hlt
      have HNX := Aside0.mk (LN_next M i)
      have hcl := HL.out i (by omega)
      clear hvs0 hrd0
      generalize M.getD i [] = L at HVS HRD hl16 HNX
      go_wp2_with fail
      clear hc1
      go_loopw [3, 5] (fun v3 v5 wr => ∃ j : Nat, j ≤ L.length ∧ v5 = .int .i64 j ∧ Aside0 (Kd.R k39 39 wr w.heap.size (fun _ => True) v3 (LN M i ++ row39 i (L.take j))) ∧ Aside0 (Below w.heap.size w wr)) (fun _ v5 _ => L.length - (intOf v5).toNat)
      case atStart => exact ⟨0, by omega, rfl, ⟨by have := hR.out; simpa [row39] using this⟩, hB⟩
      case round =>
        clear hR hB
        obtain ⟨j, hj, rfl, hR, hB⟩ := hrel
        have hc1 := pw_cell_below hB.out HC.out
        have hvs := pw_cell_below hB.out HVS.out
        by_cases hjl : j < L.length
        · have hrd := (HRD.out.below hB.out).at_ (j : Int) (by omega) (by omega)
          obtain ⟨ad, rfl, hc⟩ := hrd
          rw [Int.toNat_natCast] at hc
          have HRS := Aside0.mk (row_step i L hjl)
          generalize rd L (j : Int) = t at hc HRS
          have hbs : Aside0 (w.heap.size ≤ wr.heap.size) := ⟨hB.out.size⟩
          have hle : Aside0 (((LN M i ++ row39 i (L.take j)).length + 1) * 16 ≤ 140737488355328) := ⟨by
            rw [List.length_append, row39, List.length_map, List.length_take]
            omega⟩
          go_wp2_with (first | ((with_reducible refine gate_builtin (b := .append) (xs := #[.tmp 27, .tmp 40]) rfl ?_); at_builtin; refine Kd.R_append k39 (w0 := w) w.heap.size rfl (.tmp 27) (.tmp 40) 37 39 (.agg #[.int .i64 0, .int .u64 0]) 16 rfl Try.underlying37 info39 rfl (by decide) (by omega) _ (LN M i ++ row39 i (L.take j)) (⟨(i : Int), t⟩ : S39) [.int .i64 (i : Int), .int .u64 t] (fun _ => True) (fun _ => False) rfl rfl (k39_mkM _ _ _ (⟨(i : Int), t⟩ : S39)) (fun _ hk => hk.elim) (fun _ _ => trivial) hR.out hB.out hbs.out hle.out ?_; intro v' wa ho1 hb1 hg1 hat1; have HO := Aside0.mk ho1; have HBa := Aside0.mk hb1; clear ho1 hb1 hg1 hat1; refine Hold.of ?_))
          unfold Hold
          have HO' : Aside0 (Kd.R k39 39 wa w.heap.size (fun _ => True) v' (LN M i ++ row39 i (L.take (j + 1)))) := ⟨by rw [HRS.out, ← List.append_assoc]; exact HO.out⟩
          clear HO HRS hR hB hbs hle hc
          go_wp2_with fail
          go_roundw
          case rel => exact ⟨j + 1, by omega, by go_num, HO', HBa⟩
          case measure => simp [intOf]; omega
        · have hje : j = L.length := by omega
          subst hje
          have HO' : Aside0 (Kd.R k39 39 wr w.heap.size (fun _ => True) u3 (LN M (i + 1))) := ⟨by rw [HNX.out]; have := hR.out; rw [List.take_length] at this; exact this⟩
          clear hR
          go_wp2_with fail
          go_roundw
          case rel => exact ⟨i + 1, by omega, by go_num, HO', hB⟩
          case measure => simp [intOf]; omega
    · have hiM : i = M.length := by omega
      subst hiM
      obtain ⟨A3, c3, rfl⟩ := Kd.R_slice hR.out
      go_wp2_with fail
      go_ret
      exact ⟨_, rfl, hR.out, hB.out⟩
/-- The reference's list while it is made. -/
def nx (w : Nat) (L : List Int) (t : Int) (i : Nat) : List Int := (t :: (L.take i).filter fun y => y != t).take w
theorem nx_step (w : Nat) (L : List Int) (t : Int) {i : Nat} (hi : i < L.length) : nx w L t (i + 1) = if rd L (i : Int) ≠ t ∧ (nx w L t i).length < w then nx w L t i ++ [rd L (i : Int)] else nx w L t i := by
  unfold nx
  rw [List.take_succ_eq_append_getElem hi, rd_get hi, List.filter_append]
  by_cases hx : L[i] = t
  · rw [if_neg (fun h => h.1 hx)]
    simp [hx]
  · have e : [L[i]].filter (fun y => y != t) = [L[i]] := by simp [hx]
    rw [e]
    generalize (L.take i).filter (fun y => y != t) = F
    by_cases hl : ((t :: F).take w).length < w
    · rw [if_pos ⟨hx, hl⟩]
      have hF : (t :: F).length < w := by rw [List.length_take] at hl; omega
      rw [List.take_of_length_le (l := t :: F) (by omega), ← List.cons_append, List.take_of_length_le (by rw [List.length_append]; simp only [List.length_singleton]; omega)]
    · rw [if_neg (fun h => hl h.2)]
      have hF : w ≤ (t :: F).length := by rw [List.length_take] at hl; omega
      rw [← List.cons_append, List.take_append_of_le_length hF]
theorem nx_end (w : Nat) (L : List Int) (t : Int) (h1 : 1 ≤ w) (hn : L.Nodup) (hl : L.length ≤ w) : nx w L t L.length = tl (w : Int) L t := by
  have := tl_is L hn w h1 t
  rw [List.take_of_length_le hl] at this
  rw [this, nx, List.take_length]
theorem nx_start (w : Nat) (L : List Int) (t : Int) (h1 : 1 ≤ w) : nx w L t 0 = [t] := by
  obtain ⟨v, rfl⟩ : ∃ v, w = v + 1 := ⟨w - 1, by omega⟩
  simp [nx]
theorem nx_len (w : Nat) (L : List Int) (t : Int) (i : Nat) : (nx w L t i).length ≤ w := by unfold nx; rw [List.length_take]; omega
theorem tl_nodup (w : Nat) (L : List Int) (t : Int) (h1 : 1 ≤ w) (hn : L.Nodup) (hl : L.length ≤ w) : (tl (w : Int) L t).Nodup ∧ (tl (w : Int) L t).length ≤ w := by
  have := tl_is L hn w h1 t
  rw [List.take_of_length_le hl] at this
  rw [this]
  refine ⟨List.Nodup.sublist (List.take_sublist _ _) (List.nodup_cons.2 ⟨by simp, hn.filter _⟩), by rw [List.length_take]; omega⟩
theorem nx_pos (w : Nat) (L : List Int) (t : Int) (i : Nat) (h1 : 1 ≤ w) : 0 < (nx w L t i).length := by unfold nx; rw [List.length_take]; simp; omega
def RP (w : World) (base c b : Nat) (wy : Int) (vs : List Value) (M : List (List Int)) (n : Nat) (t : Int) (e : Ending) (w' : World) : Prop :=
  ∃ vs', e = .returned (.bool (decide (t ∈ M.getD n []))) ∧ SR w' base c b wy vs' (M.set n (tl wy (M.getD n []) t)) ∧ Kept w w' (Foot c b vs) ∧ (∀ k, Foot c b vs' k → Foot c b vs k ∨ w.heap.size ≤ k) ∧ Below base w w'
theorem rtouch_on (w : World) (base c b : Nat) (wy : Nat) (vs : List Value) (M : List (List Int)) (n : Nat) (t : Int) (h : SR w base c b (wy : Int) vs M) (hn : n < M.length) (hnd : (M.getD n []).Nodup) :
    Calls Try.prog 26 #[.pointer (some ⟨c, 0, none⟩), .int .i64 (n : Int), .int .u64 t] w (RP w base c b (wy : Int) vs M n t) := by
  have HH := Aside0.mk (rhas_on w base c b (wy : Int) vs M n t h hn)
  have hc0 : w.cell? ⟨c, 0, none⟩ = some (.int .i64 (wy : Int)) := blk_cell h.hc 0
  have hc1 : w.cell? ⟨c, 1, none⟩ = some (.slice (some ⟨b, 0, none⟩) M.length M.length) := blk_cell h.hc 1
  have hM := h.small
  have hw1 : 1 ≤ wy := by have := h.wy1; omega
  have hw16 : wy ≤ 16 := by have := h.wy16; omega
  have hlw : (M.getD n []).length ≤ wy := by have := h.lens n hn; omega
  obtain ⟨A, cc, hvs, hR⟩ := h.row hn
  have hbase : base ≤ w.heap.size := Nat.le_trans h.bc (Nat.le_of_lt (blk_lt h.hc))
  have HTch := Aside0.mk (fun w2 v' L' => @SR.touched w w2 base c b (wy : Int) vs M h n hn v' L')
  have HFZ := Aside0.mk h.hb
  have HRP : Aside0 (∀ e w', (∃ vs', e = .returned (.bool (decide (t ∈ M.getD n []))) ∧ SR w' base c b (wy : Int) vs' (M.set n (tl (wy : Int) (M.getD n []) t)) ∧ Kept w w' (Foot c b vs) ∧ (∀ k, Foot c b vs' k → Foot c b vs k ∨ w.heap.size ≤ k) ∧ Below base w w') → RP w base c b (wy : Int) vs M n t e w') := ⟨fun _ _ h => h⟩
  have HR := Aside0.mk hR
  have HV := Aside0.mk hvs
  have HC1 := Aside0.mk hc1
  have HC0 := Aside0.mk hc0
  have HST := Aside0.mk (fun i (hi : i < (M.getD n []).length) => nx_step wy (M.getD n []) t hi)
  have HEN := Aside0.mk (nx_end wy (M.getD n []) t hw1 hnd hlw)
  have HNS := Aside0.mk (nx_start wy (M.getD n []) t hw1)
  have HNL := Aside0.mk (nx_len wy (M.getD n []) t)
  clear h hR hvs hc1 hc0 hnd
  generalize M.getD n [] = L at HH HRP HR HV HST HEN HNS HNL hlw
  generalize decide (t ∈ L) = q at HH HRP
  go_enter Try.func26, Try.ntmps26
  go_wp2_with fail
  refine HH.out.mono ?_
  rintro e w1 ⟨rfl, hd⟩
  have HB1 := Aside0.mk hd.below
  have hs1 := hd.below.size
  have HO1 : Aside0 ((w1.alloc (.cells #[.int .u64 t] 31)).ownsRow w.heap.size 31 1 (.slice (some ⟨w1.heap.size, 0, none⟩) 1 1) (nx wy L t 0).length (nums .u64 (nx wy L t 0))) := ⟨by rw [HNS.out]; exact own_lit w1 w.heap.size 31 .u64 [t] hs1 (by simp)⟩
  have HB2 := Aside0.mk (below_step HB1.out (below_alloc (Below.refl w1.heap.size w1) (.cells #[.int .u64 t] 31)))
  clear hd HH HNS HB1
  go_wp2_with fail
  go_loopw [8, 9] (fun v8 v9 wr => ∃ i : Nat, i ≤ L.length ∧ v9 = .int .i64 i ∧ Aside0 (wr.ownsRow w.heap.size 31 1 v8 (nx wy L t i).length (nums .u64 (nx wy L t i))) ∧ Aside0 (Below w.heap.size w wr)) (fun _ v9 _ => L.length - (intOf v9).toNat)
  case atStart => exact ⟨0, by omega, rfl, HO1, HB2⟩
  case round =>
    clear HO1 HB2 hs1
    obtain ⟨i, hi, rfl, hO, hB⟩ := hrel
    have hc1 := pw_cell_below hB.out HC1.out
    have hc0 := pw_cell_below hB.out HC0.out
    have hvs := pw_cell_below hB.out HV.out
    by_cases hlt : i < L.length
    · obtain ⟨ad, rfl, hc⟩ := (HR.out.below hB.out).at_ (i : Int) (by omega) (by omega)
      rw [Int.toNat_natCast] at hc
      obtain ⟨A8, c8, hv8⟩ := own_slice hO.out
      subst hv8
      have HSI := Aside0.mk (HST.out i hlt)
      have hnl := HNL.out i
      generalize hX : nx wy L t i = X at hO HSI hnl
      generalize rd L (i : Int) = x at hc HSI
      by_cases hx : x = t
      · have hnext : Aside0 (nx wy L t (i + 1) = X) := ⟨by rw [HSI.out, if_neg (fun h => h.1 hx)]⟩
        clear HSI
        go_wp2_with fail
        go_roundw
        case rel => exact ⟨i + 1, by omega, by go_num, ⟨by rw [hnext.out]; exact hO.out⟩, hB⟩
        case measure => simp [intOf]; omega
      · by_cases hlen : X.length < wy
        · have hnext : Aside0 (nx wy L t (i + 1) = X ++ [x]) := ⟨by rw [HSI.out, if_pos ⟨hx, hlen⟩]⟩
          have hbs : Aside0 (w.heap.size ≤ wr.heap.size) := ⟨hB.out.size⟩
          have hle : Aside0 ((X.length + 1) * 8 ≤ 140737488355328) := ⟨by omega⟩
          clear HSI
          go_wp2_with (first | ((with_reducible refine gate_builtin (b := .append) (xs := #[.tmp 49, .tmp 60]) rfl ?_); at_builtin; refine print_append_num (w0 := w) w.heap.size rfl (.tmp 49) (.tmp 60) 23 31 .u64 8 rfl Try.underlying23 info31 (by decide) _ X x rfl rfl hO.out hB.out hbs.out hle.out ?_; intro v' wa ho1 hb1 hg1 hat1; have HO := Aside0.mk ho1; have HBa := Aside0.mk hb1; clear ho1 hb1 hg1 hat1; refine Hold.of ?_))
          unfold Hold
          clear hO hB hbs hle hc
          go_wp2_with fail
          go_roundw
          case rel => exact ⟨i + 1, by omega, by go_num, ⟨by rw [hnext.out]; exact HO.out⟩, HBa⟩
          case measure => simp [intOf]; omega
        · have hnext : Aside0 (nx wy L t (i + 1) = X) := ⟨by rw [HSI.out, if_neg (fun h => hlen h.2)]⟩
          clear HSI
          go_wp2_with fail
          go_roundw
          case rel => exact ⟨i + 1, by omega, by go_num, ⟨by rw [hnext.out]; exact hO.out⟩, hB⟩
          case measure => simp [intOf]; omega
    · have hie : i = L.length := by omega
      subst hie
      obtain ⟨g, c8, hv8, hbg, _⟩ := hO.out.form (nx_pos wy L t _ hw1)
      subst hv8
      have hO2 := hO.out
      rw [HEN.out] at hO2
      have HO2 : Aside0 (wr.ownsRow w.heap.size 31 1 (.slice (some ⟨g, 0, none⟩) (nx wy L t L.length).length c8) (tl (wy : Int) L t).length (nums .u64 (tl (wy : Int) L t))) := ⟨by rw [HEN.out]; exact hO2⟩
      have hTl : ((tl (wy : Int) L t).length : Int) ≤ wy := by rw [← HEN.out]; have := HNL.out L.length; omega
      have hfz : wr.frozen? ⟨b, n, none⟩ = false := (HFZ.out.later hB.out).free n
      clear hO hO2
      go_wp2_with fail
      go_ret
      exact HRP.out _ _ ⟨_, rfl, HTch.out wr _ _ (grown_of_below hB.out _) (own_lower HO2.out hbase) (.inr ⟨g, rfl, hbg⟩) hTl⟩
theorem SR_new (w : World) (n : Nat) (wy : Int) (hn : n ≤ 4096) (h1 : 1 ≤ wy) (h2 : wy ≤ 16) :
    SR ((w.alloc (.cells (madeCells #[nilV] n) 23)).alloc (.cells #[.int .i64 wy, .slice (some ⟨w.heap.size, 0, none⟩) n n] 63)) w.heap.size (w.heap.size + 1) w.heap.size wy (List.replicate n nilV) (emp n) := by
  have hb : Bl (w.alloc (.cells (madeCells #[nilV] n) 23)) w.heap.size 23 (List.replicate n nilV).toArray := by
    have := heap_alloc_new w (.cells (madeCells #[nilV] n) 23)
    rw [made_list] at this
    rw [made_list]
    exact this
  have hsz : (w.alloc (.cells (madeCells #[nilV] n) 23)).heap.size = w.heap.size + 1 := by simp only [World.alloc, Array.size_push]
  have hl : (emp n).length = n := by simp [emp]
  refine ⟨?_, hb.later (below_alloc (Below.refl _ _) _), ⟨by simp [emp], fun i hi => ?_, fun i j k hi hj hij hk => ?_⟩, by omega, Nat.le_refl _, by rw [hl]; exact hn, h1, h2, fun i hi => ?_⟩
  · have := heap_alloc_new (w.alloc (.cells (madeCells #[nilV] n) 23)) (.cells #[.int .i64 wy, .slice (some ⟨w.heap.size, 0, none⟩) n n] 63)
    rw [hsz] at this
    rw [hl]
    exact this
  · rw [emp_get, nil_get]
    exact own_nil _ _ _ _
  · rw [nil_get] at hk
    simp [nilV, Value.ownBlock] at hk
  · rw [emp_get]
    simp
    omega
/-- What New takes. -/
def Ok (n wy : Int) : Prop := 1 ≤ n ∧ n ≤ 4096 ∧ bits .and .i64 n (n - 1) = 0 ∧ 1 ≤ wy ∧ wy ≤ 16
theorem rnew_ok (n : Nat) (wy : Int) (w : World) (h : Ok (n : Int) wy) :
    Calls Try.prog 17 #[.int .i64 (n : Int), .int .i64 wy] w fun e w' => ∃ c b, e = .returned (.tuple #[.pointer (some ⟨c, 0, none⟩), .bool true]) ∧ SR w' w.heap.size c b wy (List.replicate n nilV) (emp n) ∧ Below w.heap.size w w' := by
  obtain ⟨h1, h2, hz, h3, h4⟩ := h
  have hn2 : n ≤ 4096 := by omega
  have hwr : wrap64 ((n : Int) - 1) = (n : Int) - 1 := by unfold wrap64; omega
  have hP : cofferdamref00_Power.f (n : Int) = some true := by
    unfold cofferdamref00_Power.f
    rw [if_pos (by omega), hwr, hz]
    rfl
  have HP := Aside0.mk hP
  have HS := Aside0.mk (fun w => SR_new w n wy hn2 h3 h4)
  have hmk := make56 n hn2
  clear hP hz hwr
  go_enter Try.func17, Try.ntmps17
  go_wp2_with fail
  refine (cofferdamref00_Power.calls _ _ _ HP.out).mono ?_
  rintro e w1 ⟨rfl, nd, rfl⟩
  have HB := Aside0.mk (below_step (pw_below_drewN (Below.refl w.heap.size w) nd) (below_alloc (below_alloc (Below.refl (w.drewN nd).heap.size (w.drewN nd)) (.cells (madeCells #[nilV] n) 23)) (.cells #[.int .i64 wy, .slice (some ⟨(w.drewN nd).heap.size, 0, none⟩) n n] 63)))
  go_wp2_with fail
  go_ret2
  exact ⟨_, _, rfl, HS.out (w.drewN nd), HB.out⟩
theorem not_ok {n wy : Int} (h : ¬ Ok n wy) : n < 1 ∨ (1 ≤ n ∧ 4096 < n) ∨ (1 ≤ n ∧ n ≤ 4096 ∧ bits .and .i64 n (n - 1) ≠ 0) ∨ (1 ≤ n ∧ n ≤ 4096 ∧ bits .and .i64 n (n - 1) = 0 ∧ wy < 1) ∨ (1 ≤ n ∧ n ≤ 4096 ∧ bits .and .i64 n (n - 1) = 0 ∧ 1 ≤ wy ∧ 16 < wy) := by
  unfold Ok at h
  by_cases h1 : n < 1
  · exact .inl h1
  · by_cases h2 : 4096 < n
    · exact .inr (.inl ⟨by omega, h2⟩)
    · by_cases h3 : bits .and .i64 n (n - 1) = 0
      · by_cases h4 : wy < 1
        · exact .inr (.inr (.inr (.inl ⟨by omega, by omega, h3, h4⟩)))
        · exact .inr (.inr (.inr (.inr ⟨by omega, by omega, h3, by omega, Int.not_le.1 (fun h5 => h ⟨by omega, by omega, h3, by omega, h5⟩)⟩)))
      · exact .inr (.inr (.inl ⟨by omega, by omega, h3⟩))
theorem new_no (n wy : Int) (w : World) (h : ¬ Ok n wy) :
    Calls Try.prog 16 #[.int .i64 n, .int .i64 wy] w fun e w' => e = .returned (.tuple #[.pointer none, .int .i64 2]) ∧ Below w.heap.size w w' := by
  rcases not_ok h with h1 | ⟨h1, h2⟩ | ⟨h1, h2, h3⟩ | ⟨h1, h2, h3, h4⟩ | ⟨h1, h2, h3, h4, h5⟩
  all_goals
    try have hw : IntKind.i64.wrap (n - 1) = n - 1 := IntWalk.i64_in _ (by omega)
    clear h
    go_enter Try.func16, Try.ntmps16
    go_wp2_with fail
    go_ret2
    exact ⟨rfl, Below.refl _ _⟩
theorem rnew_no (n wy : Int) (w : World) (hn : n ≤ 9223372036854775807) (h : ¬ Ok n wy) :
    Calls Try.prog 17 #[.int .i64 n, .int .i64 wy] w fun e w' => e = .returned (.tuple #[.pointer none, .bool false]) ∧ Below w.heap.size w w' := by
  obtain ⟨P, hP⟩ : ∃ P, cofferdamref00_Power.f n = some P := by
    unfold cofferdamref00_Power.f
    split
    · exact ⟨_, rfl⟩
    · exact ⟨_, rfl⟩
  have hPf : P = true → 1 ≤ n ∧ bits .and .i64 n (n - 1) = 0 := by
    intro e
    subst e
    unfold cofferdamref00_Power.f at hP
    by_cases hg : n > 0
    · rw [if_pos hg] at hP
      have hwr : wrap64 (n - 1) = n - 1 := by unfold wrap64; omega
      rw [hwr] at hP
      injection hP with hP
      exact ⟨by omega, by simpa using hP⟩
    · rw [if_neg hg] at hP
      cases hP
  have HP := Aside0.mk hP
  cases P with
  | false =>
    clear hPf hP h
    go_enter Try.func17, Try.ntmps17
    go_wp2_with fail
    refine (cofferdamref00_Power.calls _ _ _ HP.out).mono ?_
    rintro e w1 ⟨rfl, hd⟩
    go_wp2_with fail
    go_ret2
    exact ⟨rfl, hd.below⟩
  | true =>
    obtain ⟨g1, g2⟩ := hPf rfl
    clear hPf hP
    rcases not_ok h with h1 | ⟨h1, h2⟩ | ⟨h1, h2, h3⟩ | ⟨h1, h2, h3, h4⟩ | ⟨h1, h2, h3, h4, h5⟩
    · omega
    · clear h g2
      go_enter Try.func17, Try.ntmps17
      go_wp2_with fail
      refine (cofferdamref00_Power.calls _ _ _ HP.out).mono ?_
      rintro e w1 ⟨rfl, hd⟩
      go_wp2_with fail
      go_ret2
      exact ⟨rfl, hd.below⟩
    · exact absurd g2 h3
    all_goals
      clear h h3 g2
      go_enter Try.func17, Try.ntmps17
      go_wp2_with fail
      refine (cofferdamref00_Power.calls _ _ _ HP.out).mono ?_
      rintro e w1 ⟨rfl, hd⟩
      go_wp2_with fail
      go_ret2
      exact ⟨rfl, hd.below⟩
end Go.Proofs.Ytcneepffhplpiaa.H
