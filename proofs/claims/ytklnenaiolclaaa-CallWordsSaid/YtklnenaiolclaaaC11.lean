/- The reference's Encode by its contract. -/
import Derived.Test.YtklnenaiolclaaaC10
namespace Go.Proofs.Ytklnenaiolclaaa.H
open Go.RowKit Go.Proofs.YtklnenaiolclaaaW.PrintWords Go.Proofs.YtklnenaiolclaaaW.PrintLast Go.Proofs.YtklnenaiolclaaaW.PrintMore
set_option linter.unusedVariables false
set_option linter.unusedSimpArgs false
set_option maxHeartbeats 8000000
theorem keep_drew1 {w W : World} {g : Nat} {row : Option Nat} (h : KeepBut w W g row) : KeepBut w W.drew g row := h
def ci (w : World) (a : Addr) : Int := match w.cell? a with
  | some (.int _ z) => z
  | _ => 0
theorem ci_of {w : World} {a : Addr} {z : Int} (h : w.cell? a = some (.int .u64 z)) : w.cell? a = some (.int .u64 (ci w a)) := by simp [ci, h]
theorem pw_put (L : List Int) (c : C7) {i : Nat} (hi : i < 4) (u : Value) : ((pw L c i).setIfInBounds (1 + i) u)[1 + i]? = some u := by
  have h : i = 0 ∨ i = 1 ∨ i = 2 ∨ i = 3 := by omega
  rcases h with rfl | rfl | rfl | rfl <;> simp [pw, raw]
theorem word_is (c : C7) {f : Int} (hf : 0 ≤ f ∧ f ≤ 5) : cofferdamref25_word.f c.k c.p c.g c.n c.m c.a c.v (letter f) = some (getF c f) := by
  have hc : f = 0 ∨ f = 1 ∨ f = 2 ∨ f = 3 ∨ f = 4 ∨ f = 5 := by omega
  unfold cofferdamref25_word.f letter getF
  rcases hc with rfl | rfl | rfl | rfl | rfl | rfl <;> simp
theorem rencode_any (c : C7) (w : World) (hP : c.p ≤ 9223372036854775807 ∧ c.g ≤ 9223372036854775807 ∧ c.n ≤ 9223372036854775807) (hk : 0 ≤ c.k) (hm : 0 ≤ c.m ∧ c.m ≤ 255) (ha : 0 ≤ c.a) (hv : 0 ≤ c.v) :
    Calls Try.prog 17 #[cV c] w (EP (enc c) w) := by
  have HC0 : Aside0 (Bl (w.alloc (.cells c.cells 26)) w.heap.size 26 c.cells) := ⟨heap_alloc_new w _⟩
  have HZ0 : Aside0 (Bl ((w.alloc (.cells c.cells 26)).alloc (.cells raw0 24)) (w.heap.size + 1) 24 raw0) := ⟨by have := heap_alloc_new (w.alloc (.cells c.cells 26)) (.cells raw0 24); simpa [Bl] using this⟩
  have HB0 := Aside0.mk (below_alloc (below_alloc (Below.refl w.heap.size w) (.cells c.cells 26)) (.cells raw0 24))
  have HC1 := Aside0.mk (HC0.out.later (below_alloc (Below.refl _ _) (.cells raw0 24)))
  clear HC0
  obtain ⟨q0, q1, q2, q3, q4, q5, q6⟩ := HC1.out.cells7
  have HCH := Aside0.mk (rcheck_is c hP hm ha hv)
  have HE : Aside0 (enc c = match fds c.k with
    | none => none
    | some L => if c.p < 0 ∨ c.g < 0 ∨ c.n < 0 then none else if decw L c = some c then some (wds L c) else none) := ⟨rfl⟩
  have HCK : Aside0 (chk c = if (enc c).isSome then 0 else 250) := ⟨rfl⟩
  generalize hres : enc c = E at HE HCK
  generalize chk c = X at HCH HCK
  clear hres
  cases E with
  | none =>
    have hx : X = 250 := HCK.out
    subst hx
    clear HE HCK
    unfold cV C7.cells
    unfold C7.cells raw0 raw at q0 q1 q2 q3 q4 q5 q6 HB0 HZ0 HC1
    go_enter Try.func17, Try.ntmps17
    go_wp2_with fail
    refine (cofferdamref25_Check.calls 12 c.k c.p c.g c.n c.m c.a c.v 250 _ HCH.out).mono ?_
    rintro e w1 ⟨rfl, hb⟩
    have HB2 := Aside0.mk (below_step HB0.out hb)
    have HZ2 : Aside0 (Bl w1 (w.heap.size + 1) 24 (raw 0 0 0 0 0 0)) := ⟨HZ0.out.later hb⟩
    obtain ⟨z0, z1, z2, z3, z4, z5⟩ := HZ2.out.cells6
    have hf := HZ2.out.free
    clear hb HB0 HZ0 HC1 HCH q0 q1 q2 q3 q4 q5 q6
    go_wp2_with fail
    refine bodyPost_ret (res_ar rfl _ _ (w.heap.size + 1) 0 0 0 0 0 0 rfl (put6_blk HZ2.out 0 0 0 0 0 0)) rfl ?_
    exact EP_none (put6_below HB2.out (Nat.le_succ _) 0 0 0 0 0 0)
  | some R =>
    have hx : X = 0 := HCK.out
    subst hx
    cases hL : fds c.k with
    | none =>
      have := HE.out
      rw [hL] at this
      cases this
    | some L =>
    have hR : R = wds L c := by
      have := HE.out
      rw [hL] at this
      simp only at this
      split at this
      · cases this
      · split at this
        · injection this
        · cases this
    clear HE HCK
    subst hR
    obtain ⟨hN, hl4, hfs⟩ := fds_yes hL
    have HN := Aside0.mk (nms_yes hL)
    have HFS := Aside0.mk hfs
    have HSZ := Aside0.mk (str_size L)
    have HSAT := Aside0.mk (str_at L hfs)
    have hk255 : c.k ≤ 10 := by
      have hh := hL
      unfold fds at hh
      by_cases h10 : c.k ≤ 10
      · exact h10
      · rw [if_neg (by omega), if_neg (by omega), if_neg (by omega), if_neg (by omega), if_neg (by omega), if_neg (by omega), if_neg (by omega)] at hh
        simp at hh
    have hkw : IntKind.u64.wrap c.k = c.k := wrap_in hk (by omega)
    clear hN hL hfs
    generalize str L = S at HN HSZ HSAT
    unfold cV C7.cells
    unfold C7.cells raw0 raw at q0 q1 q2 q3 q4 q5 q6 HB0 HZ0 HC1
    go_enter Try.func17, Try.ntmps17
    go_wp2_with fail
    refine (cofferdamref25_Check.calls 12 c.k c.p c.g c.n c.m c.a c.v 0 _ HCH.out).mono ?_
    rintro e w1 ⟨rfl, hb⟩
    have HB2 := Aside0.mk (below_step HB0.out hb)
    have HZ2 : Aside0 (Bl w1 (w.heap.size + 1) 24 (raw 0 0 0 0 0 0)) := ⟨HZ0.out.later hb⟩
    have HC2 : Aside0 (Bl w1 w.heap.size 26 c.cells) := ⟨HC1.out.later hb⟩
    clear hb HB0 HZ0 HC1 HCH q0 q1 q2 q3 q4 q5 q6
    have HCz := Aside0.mk (HC2.out.later (below_alloc (Below.refl _ _) (.cells #[.int .u64 0, .int .u64 0, .int .u64 0, .int .u64 0, .int .u64 0, .int .u64 0] 24)))
    obtain ⟨q0, q1, q2, q3, q4, q5, q6⟩ := HCz.out.cells7
    clear HCz
    have hgw : w.heap.size + 1 < w1.heap.size := blk_lt HZ2.out
    have HP : Aside0 (Bl (w1.alloc (.cells (raw c.k 0 0 0 0 0) 24)) w1.heap.size 24 (pw L c 0)) := ⟨by rw [pw_zero]; exact heap_alloc_new w1 _⟩
    have HB3 := Aside0.mk (below_alloc HB2.out (.cells (raw c.k 0 0 0 0 0) 24))
    have HZ3 := Aside0.mk (HZ2.out.later (below_alloc (Below.refl _ _) (.cells (raw c.k 0 0 0 0 0) 24)))
    have HC3 := Aside0.mk (HC2.out.later (below_alloc (Below.refl _ _) (.cells (raw c.k 0 0 0 0 0) 24)))
    have hk3 := HC3.out.cells7.1
    unfold raw at HP HB3 HZ3 HC3 hk3
    go_wp2_with fail
    refine (cofferdamref25_Names.calls 5 c.k S true _ HN.out).mono ?_
    rintro e w2 ⟨rfl, hd⟩
    have HB4 := Aside0.mk (below_step HB3.out hd.below)
    have HZ4 : Aside0 (Bl w2 (w.heap.size + 1) 24 (raw 0 0 0 0 0 0)) := ⟨HZ3.out.later hd.below⟩
    have HC4 := Aside0.mk (HC3.out.later hd.below)
    have HP4 := Aside0.mk (HP.out.later hd.below)
    have hgz : w.heap.size ≤ w1.heap.size := HB2.out.size
    clear hd HB2 HZ2 HC2 HB3 HZ3 HC3 HP HN hk3 q0 q1 q2 q3 q4 q5 q6
    generalize w1.heap.size = gp at HP4 hgw hgz ⊢
    go_wp2_with fail
    go_loopw [7] (fun v7 wr => ∃ i : Nat, i ≤ L.length ∧ v7 = .int .i64 i ∧ Aside0 (Bl wr gp 24 (pw L c i)) ∧ Aside0 (Bl wr (w.heap.size + 1) 24 (raw 0 0 0 0 0 0)) ∧ Aside0 (Bl wr w.heap.size 26 c.cells) ∧ Aside0 (Below w.heap.size w wr)) (fun v7 _ => L.length - (intOf v7).toNat)
    case atStart => exact ⟨0, Nat.zero_le _, rfl, HP4, HZ4, HC4, HB4⟩
    case round =>
      obtain ⟨i, hi, rfl, hP4, hZ, hC, hB⟩ := hrel
      clear HP4 HZ4 HC4 HB4
      have hsz : (S.size : Int) = (L.length : Int) := by have := HSZ.out; omega
      by_cases hlt : i < L.length
      · have hff := HFS.out _ (L_mem hlt)
        have hbt := HSAT.out i hlt
        have hiS : i < S.size := by have := HSZ.out; omega
        have hGet := Aside0.mk (word_is c hff)
        have hPN := Aside0.mk (pw_next L c (i := i) (by omega))
        have hi4 : i < 4 := by omega
        have hpc := (blk_cell hP4.out (1 + i)).trans (pw_at L c hi4)
        have hfr := hP4.out.free (1 + i)
        generalize rd L (i : Int) = f at hff hGet hPN hbt
        obtain ⟨q0, q1, q2, q3, q4, q5, q6⟩ := hC.out.cells7
        have b0 : (0 : Int) ≤ (i : Int) := by omega
        have b1 : (i : Int) < (S.size : Int) := by omega
        have b2 : (0 : Int) ≤ 1 + (i : Int) := by omega
        have b3 : 1 + (i : Int) < 6 := by omega
        have b4 : IntKind.i64.wrap (1 + (i : Int)) = 1 + (i : Int) := IntWalk.i64_in _ (by omega)
        have b6 : (1 + (i : Int)).toNat = 1 + i := by omega
        generalize getF c f = y at hPN hGet
        generalize wI L c i i = y0 at hpc
        have hltw : gp < wr.heap.size := blk_lt hP4.out
        go_wp2_with fail
        go_region_held3 (fun w' => w'.cell? ⟨w.heap.size, 0, none⟩ = some (.int .u8 c.k) ∧ w'.cell? ⟨w.heap.size, 1, none⟩ = some (.int .i64 c.p) ∧ w'.cell? ⟨w.heap.size, 2, none⟩ = some (.int .i64 c.g) ∧ w'.cell? ⟨w.heap.size, 3, none⟩ = some (.int .i64 c.n) ∧ w'.cell? ⟨w.heap.size, 4, none⟩ = some (.int .u8 c.m) ∧ w'.cell? ⟨w.heap.size, 5, none⟩ = some (.int .u64 c.a) ∧ w'.cell? ⟨w.heap.size, 6, none⟩ = some (.int .u64 c.v) ∧ w'.cell? ⟨gp, 1 + i, none⟩ = some (.int .u64 (ci w' ⟨gp, 1 + i, none⟩)) ∧ w'.frozen? ⟨gp, 1 + i, none⟩ = false ∧ KeepBut wr w' gp none)
          (exact ⟨keep_cell (w := wr) (g := gp) (by (repeat (with_reducible first | exact KeepBut.refl _ _ _ | exact hK5 | apply keep_drewN | apply keep_drew1 | apply keep_alloc | apply KeepBut.set_))) q0 (show w.heap.size ≠ gp by omega), keep_cell (w := wr) (g := gp) (by (repeat (with_reducible first | exact KeepBut.refl _ _ _ | exact hK5 | apply keep_drewN | apply keep_drew1 | apply keep_alloc | apply KeepBut.set_))) q1 (show w.heap.size ≠ gp by omega), keep_cell (w := wr) (g := gp) (by (repeat (with_reducible first | exact KeepBut.refl _ _ _ | exact hK5 | apply keep_drewN | apply keep_drew1 | apply keep_alloc | apply KeepBut.set_))) q2 (show w.heap.size ≠ gp by omega), keep_cell (w := wr) (g := gp) (by (repeat (with_reducible first | exact KeepBut.refl _ _ _ | exact hK5 | apply keep_drewN | apply keep_drew1 | apply keep_alloc | apply KeepBut.set_))) q3 (show w.heap.size ≠ gp by omega), keep_cell (w := wr) (g := gp) (by (repeat (with_reducible first | exact KeepBut.refl _ _ _ | exact hK5 | apply keep_drewN | apply keep_drew1 | apply keep_alloc | apply KeepBut.set_))) q4 (show w.heap.size ≠ gp by omega), keep_cell (w := wr) (g := gp) (by (repeat (with_reducible first | exact KeepBut.refl _ _ _ | exact hK5 | apply keep_drewN | apply keep_drew1 | apply keep_alloc | apply KeepBut.set_))) q5 (show w.heap.size ≠ gp by omega), keep_cell (w := wr) (g := gp) (by (repeat (with_reducible first | exact KeepBut.refl _ _ _ | exact hK5 | apply keep_drewN | apply keep_drew1 | apply keep_alloc | apply KeepBut.set_))) q6 (show w.heap.size ≠ gp by omega), (by first | exact ci_of ((blk_cell (blk_set HP5 (1 + i) _) (1 + i)).trans (pw_put L c hi4 _)) | exact ci_of (pw_cell_below (by (repeat (with_reducible first | exact Below.refl _ _ | exact hB5 | apply below_alloc | apply pw_below_drewN | apply below_drew | refine below_set ?_ (Nat.le_refl _) | refine below_set ?_ hB5.size))) hpc)), (by first | exact blk_frozen (blk_set HP5 (1 + i) _) (1 + i) | exact (Below.frozen (w := wr) (by (repeat (with_reducible first | exact Below.refl _ _ | exact hB5 | apply below_alloc | apply pw_below_drewN | apply below_drew | refine below_set ?_ (Nat.le_refl _) | refine below_set ?_ hB5.size))) (p := ⟨gp, 1 + i, none⟩) hltw).trans hfr), (by (repeat (with_reducible first | exact KeepBut.refl _ _ _ | exact hK5 | apply keep_drewN | apply keep_drew1 | apply keep_alloc | apply KeepBut.set_)))⟩)
          (first
            | (go_at_call 26; refine (cofferdamref25_word.calls c.k c.p c.g c.n c.m c.a c.v (letter f) y _ hGet.out).mono ?_; rintro e w5 ⟨rfl, hb5⟩; have hB5 := below_step (w := wr) (by (repeat (with_reducible first | exact Below.refl _ _ | exact hB5 | apply below_alloc | apply pw_below_drewN | apply below_drew | refine below_set ?_ (Nat.le_refl _) | refine below_set ?_ hB5.size))) hb5; have hK5 := keep_refl_trans (KeepBut.of_below hB5 gp none) (KeepBut.refl w5 gp none); have HP5 := hP4.out.later hB5))
        have HP9 : Aside0 (Bl (w5.setCell ⟨gp, 1 + i, none⟩ (.int .u64 y)) gp 24 (pw L c (i + 1))) := ⟨by rw [← hPN.out]; exact blk_set HP5 (1 + i) _⟩
        have HZ9 := Aside0.mk ((hZ.out.later hB5).far (p := ⟨gp, 1 + i, none⟩) (show w.heap.size + 1 ≠ gp by omega) (.int .u64 y))
        have HC9 := Aside0.mk ((hC.out.later hB5).far (p := ⟨gp, 1 + i, none⟩) (show w.heap.size ≠ gp by omega) (.int .u64 y))
        have HB9 := Aside0.mk (below_set (j := 1 + i) (v := .int .u64 y) (below_step hB.out hB5) hgz)
        clear HP5 hK5 hB5 hb5 hP4 hZ hC hB q0 q1 q2 q3 q4 q5 q6 hpc hfr hGet hPN b1 b2 b3 b4 b6 hbt
        go_wp2_with fail
        go_roundw
        case rel => exact ⟨i + 1, by omega, by go_num, HP9, HZ9, HC9, HB9⟩
        case measure => simp [intOf]; omega
      · have hiL : i = L.length := by omega
        subst hiL
        obtain ⟨x1, hx1⟩ : ∃ x, x = wI L c L.length 0 := ⟨_, rfl⟩
        obtain ⟨x2, hx2⟩ : ∃ x, x = wI L c L.length 1 := ⟨_, rfl⟩
        obtain ⟨x3, hx3⟩ : ∃ x, x = wI L c L.length 2 := ⟨_, rfl⟩
        obtain ⟨x4, hx4⟩ : ∃ x, x = wI L c L.length 3 := ⟨_, rfl⟩
        obtain ⟨x5, hx5⟩ : ∃ x, x = wI L c L.length 4 := ⟨_, rfl⟩
        have HPL : Aside0 (Bl wr gp 24 (raw c.k x1 x2 x3 x4 x5)) := ⟨by rw [hx1, hx2, hx3, hx4, hx5]; exact hP4.out⟩
        have HWD : Aside0 (wds L c = raw c.k x1 x2 x3 x4 x5) := ⟨by rw [hx1, hx2, hx3, hx4, hx5]; rfl⟩
        clear hx1 hx2 hx3 hx4 hx5 hP4 hC
        obtain ⟨p0, p1, p2, p3, p4, p5⟩ := HPL.out.cells6
        obtain ⟨z0, z1, z2, z3, z4, z5⟩ := hZ.out.cells6
        have hf := hZ.out.free
        go_wp2_with fail
        refine bodyPost_ret (res_ar rfl _ _ (w.heap.size + 1) c.k x1 x2 x3 x4 x5 rfl (put6_blk hZ.out c.k x1 x2 x3 x4 x5)) rfl ?_
        rw [HWD.out]
        exact EP_some (put6_below hB.out (Nat.le_succ _) c.k x1 x2 x3 x4 x5)
end Go.Proofs.Ytklnenaiolclaaa.H
