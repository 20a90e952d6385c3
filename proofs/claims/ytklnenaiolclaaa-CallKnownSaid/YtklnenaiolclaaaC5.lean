/- Contract of call.Encode. -/
import Derived.Test.YtklnenaiolclaaaC3
namespace Go.Proofs.Ytklnenaiolclaaa.H
open Go.RowKit Go.Proofs.YtklnenaiolclaaaW.PrintWords Go.Proofs.YtklnenaiolclaaaW.PrintLast Go.Proofs.YtklnenaiolclaaaW.PrintMore
set_option linter.unusedVariables false
set_option linter.unusedSimpArgs false
attribute [local go_sem] max2_int min2_int max_two min_two max_three min_three max_four min_four
set_option maxHeartbeats 8000000
set_option maxRecDepth 100000
theorem get_is (c : C7) (f : Int) : call_get.f c.k c.p c.g c.n c.m c.a c.v f = some (getF c f) := by
  unfold call_get.f getF
  repeat' split
  all_goals rfl
theorem wrapU (x : Int) : 0 ≤ IntKind.u64.wrap x := by
  simp [IntKind.wrap, IntKind.signed, IntKind.bits]; omega
def wI (L : List Int) (c : C7) (i j : Nat) : Int := if j < i then getF c (rd L (j : Int)) else 0
def pw (L : List Int) (c : C7) (i : Nat) : Array Value := raw c.k (wI L c i 0) (wI L c i 1) (wI L c i 2) (wI L c i 3) (wI L c i 4)
def raw0 : Array Value := raw 0 0 0 0 0 0
theorem pw_zero (L : List Int) (c : C7) : pw L c 0 = raw c.k 0 0 0 0 0 := by simp [pw, wI]
theorem pw_next (L : List Int) (c : C7) {i : Nat} (hi : i < 4) : (pw L c i).setIfInBounds (1 + i) (.int .u64 (getF c (rd L (i : Int)))) = pw L c (i + 1) := by
  have hc : i = 0 ∨ i = 1 ∨ i = 2 ∨ i = 3 := by omega
  rcases hc with rfl | rfl | rfl | rfl <;> simp [pw, wI, raw]
theorem pw_at (L : List Int) (c : C7) {i : Nat} (hi : i < 4) : (pw L c i)[1 + i]? = some (.int .u64 (wI L c i i)) := by
  have hc : i = 0 ∨ i = 1 ∨ i = 2 ∨ i = 3 := by omega
  rcases hc with rfl | rfl | rfl | rfl <;> rfl
theorem getF_lo {c : C7} (ha : 0 ≤ c.a) (hv : 0 ≤ c.v) (f : Int) : 0 ≤ getF c f := by
  unfold getF
  repeat' split
  all_goals first | exact wrapU _ | assumption
theorem wI_lo {c : C7} (ha : 0 ≤ c.a) (hv : 0 ≤ c.v) (L : List Int) (i j : Nat) : 0 ≤ wI L c i j := by
  unfold wI; split
  · exact getF_lo ha hv _
  · omega
/-- The words of a call, told by its kind's list. -/
def wds (L : List Int) (c : C7) : Array Value := pw L c L.length
def decw (L : List Int) (c : C7) : Option C7 := dec c.k (wI L c L.length 0) (wI L c L.length 1) (wI L c L.length 2) (wI L c L.length 3) (wI L c L.length 4)
def enc (c : C7) : Option (Array Value) := match fds c.k with
  | none => none
  | some L => if c.p < 0 ∨ c.g < 0 ∨ c.n < 0 then none else if decw L c = some c then some (wds L c) else none
def EP (E : Option (Array Value)) (w : World) (e : Ending) (w' : World) : Prop := e = .returned (.tuple #[.agg (E.getD raw0), .int .i64 (if E.isSome then 0 else 250)]) ∧ Below w.heap.size w w'
theorem EP_none {w w' : World} (hb : Below w.heap.size w w') : EP none w (.returned (.tuple #[.agg raw0, .int .i64 250])) w' := ⟨rfl, hb⟩
theorem EP_some {d : Array Value} {w w' : World} (hb : Below w.heap.size w w') : EP (some d) w (.returned (.tuple #[.agg d, .int .i64 0])) w' := ⟨rfl, hb⟩
theorem res_ar {fn : Func} {p u : Tmp} (h : fn.results = #[.cell p 24, .tmp u]) (tmps : Array Value) (w : World) (g : Nat) (x0 x1 x2 x3 x4 x5 : Int) (hp : tmps.getD p undef = .pointer (some ⟨g, 0, none⟩)) (hg : Bl w g 24 (raw x0 x1 x2 x3 x4 x5)) :
    (results fn tmps).run Try.prog w = .ok (.tuple #[.agg (raw x0 x1 x2 x3 x4 x5), tmps.getD u undef]) w := results_ct h tmps w g 24 _ (0, 0) _ hp hg Try.underlying24 rfl (by kernel_rfl)
def put6 (w : World) (g : Nat) (x0 x1 x2 x3 x4 x5 : Int) : World := (((((w.setCell ⟨g, 0, none⟩ (.int .u64 x0)).setCell ⟨g, 1, none⟩ (.int .u64 x1)).setCell ⟨g, 2, none⟩ (.int .u64 x2)).setCell ⟨g, 3, none⟩ (.int .u64 x3)).setCell ⟨g, 4, none⟩ (.int .u64 x4)).setCell ⟨g, 5, none⟩ (.int .u64 x5)
theorem put6_blk {w : World} {g : Nat} {y0 y1 y2 y3 y4 y5 : Int} (h : Bl w g 24 (raw y0 y1 y2 y3 y4 y5)) (x0 x1 x2 x3 x4 x5 : Int) : Bl (put6 w g x0 x1 x2 x3 x4 x5) g 24 (raw x0 x1 x2 x3 x4 x5) := by
  have h1 := blk_set h 0 (.int .u64 x0)
  have h2 := blk_set h1 1 (.int .u64 x1)
  have h3 := blk_set h2 2 (.int .u64 x2)
  have h4 := blk_set h3 3 (.int .u64 x3)
  have h5 := blk_set h4 4 (.int .u64 x4)
  exact blk_set h5 5 (.int .u64 x5)
theorem put6_below {w0 w : World} {g : Nat} (h : Below w0.heap.size w0 w) (hg : w0.heap.size ≤ g) (x0 x1 x2 x3 x4 x5 : Int) : Below w0.heap.size w0 (put6 w g x0 x1 x2 x3 x4 x5) := by
  have h1 := below_set (j := 0) (v := .int .u64 x0) h hg
  have h2 := below_set (j := 1) (v := .int .u64 x1) h1 hg
  have h3 := below_set (j := 2) (v := .int .u64 x2) h2 hg
  have h4 := below_set (j := 3) (v := .int .u64 x3) h3 hg
  have h5 := below_set (j := 4) (v := .int .u64 x4) h4 hg
  exact below_set (j := 5) (v := .int .u64 x5) h5 hg
theorem Bl.cells6 {w : World} {g : Nat} {x0 x1 x2 x3 x4 x5 : Int} (h : Bl w g 24 (raw x0 x1 x2 x3 x4 x5)) : w.cell? ⟨g, 0, none⟩ = some (.int .u64 x0) ∧ w.cell? ⟨g, 1, none⟩ = some (.int .u64 x1) ∧ w.cell? ⟨g, 2, none⟩ = some (.int .u64 x2) ∧ w.cell? ⟨g, 3, none⟩ = some (.int .u64 x3) ∧ w.cell? ⟨g, 4, none⟩ = some (.int .u64 x4) ∧ w.cell? ⟨g, 5, none⟩ = some (.int .u64 x5) :=
  ⟨blk_cell h 0, blk_cell h 1, blk_cell h 2, blk_cell h 3, blk_cell h 4, blk_cell h 5⟩
def eq7 (x0 y0 x1 y1 x2 y2 x3 y3 x4 y4 x5 y5 x6 y6 : Int) : Bool := x0 == y0 && (x1 == y1 && (x2 == y2 && (x3 == y3 && (x4 == y4 && (x5 == y5 && (x6 == y6))))))
theorem eqB26 (d : Nat) (w : World) (x0 y0 x1 y1 x2 y2 x3 y3 x4 y4 x5 y5 x6 y6 : Int) : (Op.equalIn (d + 2) 26 (.agg #[.int .u8 x0, .int .i64 x1, .int .i64 x2, .int .i64 x3, .int .u8 x4, .int .u64 x5, .int .u64 x6]) (.agg #[.int .u8 y0, .int .i64 y1, .int .i64 y2, .int .i64 y3, .int .u8 y4, .int .u64 y5, .int .u64 y6])).run Try.prog w = .ok (eq7 x0 y0 x1 y1 x2 y2 x3 y3 x4 y4 x5 y5 x6 y6) w := eqA26 d w x0 y0 x1 y1 x2 y2 x3 y3 x4 y4 x5 y5 x6 y6
attribute [local go_sem high] eqB26
theorem c7_ne {c d : C7} : c ≠ d ↔ eq7 c.k d.k c.p d.p c.g d.g c.n d.n c.m d.m c.a d.a c.v d.v = false := by
  cases c; cases d; simp [eq7, C7.mk.injEq]
theorem c7_eq {c d : C7} : c = d ↔ eq7 c.k d.k c.p d.p c.g d.g c.n d.n c.m d.m c.a d.a c.v d.v = true := by
  cases c; cases d; simp [eq7, C7.mk.injEq]
theorem encode_any (c : C7) (w : World) (hk : 0 ≤ c.k) (ha : 0 ≤ c.a) (hv : 0 ≤ c.v) :
    Calls Try.prog 16 #[cV c] w (EP (enc c) w) := by
  have HC0 : Aside0 (Bl (w.alloc (.cells c.cells 26)) w.heap.size 26 c.cells) := ⟨heap_alloc_new w _⟩
  have HZ0 : Aside0 (Bl ((w.alloc (.cells c.cells 26)).alloc (.cells raw0 24)) (w.heap.size + 1) 24 raw0) := ⟨by have := heap_alloc_new (w.alloc (.cells c.cells 26)) (.cells raw0 24); simpa [Bl] using this⟩
  have HB0 := Aside0.mk (below_alloc (below_alloc (Below.refl w.heap.size w) (.cells c.cells 26)) (.cells raw0 24))
  have HC1 := Aside0.mk (HC0.out.later (below_alloc (Below.refl _ _) (.cells raw0 24)))
  clear HC0
  obtain ⟨q0, q1, q2, q3, q4, q5, q6⟩ := HC1.out.cells7
  cases hL : fds c.k with
  | none =>
    have hd : enc c = none := by simp [enc, hL]
    rw [hd]
    have HN := Aside0.mk (fds_no hL)
    clear hd hL
    unfold cV C7.cells
    unfold C7.cells raw0 raw at q0 q1 q2 q3 q4 q5 q6 HB0 HZ0 HC1
    go_enter Try.func16, Try.ntmps16
    go_wp2_with fail
    refine (call_fields.calls 5 c.k [] false _ HN.out).mono ?_
    rintro e w1 ⟨v, rfl, hv, hb⟩
    obtain ⟨A, cc, rfl⟩ := Kd.R_slice hv
    have HB2 := Aside0.mk (below_step HB0.out hb)
    have HZ2 : Aside0 (Bl w1 (w.heap.size + 1) 24 (raw 0 0 0 0 0 0)) := ⟨HZ0.out.later hb⟩
    obtain ⟨z0, z1, z2, z3, z4, z5⟩ := HZ2.out.cells6
    have hf := HZ2.out.free
    clear hv hb HB0 HZ0 HC1 HN q0 q1 q2 q3 q4 q5 q6
    go_wp2_with fail
    refine bodyPost_ret (res_ar rfl _ _ (w.heap.size + 1) 0 0 0 0 0 0 rfl (put6_blk HZ2.out 0 0 0 0 0 0)) rfl ?_
    exact EP_none (put6_below HB2.out (Nat.le_succ _) 0 0 0 0 0 0)
  | some L =>
    obtain ⟨hN, hl4, hfs⟩ := fds_yes hL
    have HN := Aside0.mk hN
    have HE : Aside0 (enc c = if c.p < 0 ∨ c.g < 0 ∨ c.n < 0 then none else if decw L c = some c then some (wds L c) else none) := ⟨by simp only [enc, hL]⟩
    have hk255 : c.k ≤ 10 := by
      have hh := hL
      unfold fds at hh
      by_cases h10 : c.k ≤ 10
      · exact h10
      · rw [if_neg (by omega), if_neg (by omega), if_neg (by omega), if_neg (by omega), if_neg (by omega), if_neg (by omega), if_neg (by omega)] at hh
        simp at hh
    generalize hres : enc c = E at HE
    clear hres hN hL hfs
    unfold cV C7.cells
    unfold C7.cells raw0 raw at q0 q1 q2 q3 q4 q5 q6 HB0 HZ0 HC1
    go_enter Try.func16, Try.ntmps16
    go_wp2_with fail
    refine (call_fields.calls 5 c.k L true _ HN.out).mono ?_
    rintro e w1 ⟨v, rfl, hv, hb⟩
    obtain ⟨A, cc, rfl, hrow⟩ := fields_row hv
    have HB2 := Aside0.mk (below_step HB0.out hb)
    have HZ2 : Aside0 (Bl w1 (w.heap.size + 1) 24 (raw 0 0 0 0 0 0)) := ⟨HZ0.out.later hb⟩
    have HC2 : Aside0 (Bl w1 w.heap.size 26 c.cells) := ⟨HC1.out.later hb⟩
    have HW := Aside0.mk hrow
    clear hv hb hrow HB0 HZ0 HC1 HN q0 q1 q2 q3 q4 q5 q6
    obtain ⟨A1, hA1⟩ : ∃ A1, (if c.g < c.p then c.g else c.p) = A1 := ⟨_, rfl⟩
    obtain ⟨A2, hA2⟩ : ∃ A2, (if c.n < A1 then c.n else A1) = A2 := ⟨_, rfl⟩
    have hneg : A2 < 0 ↔ (c.p < 0 ∨ c.g < 0 ∨ c.n < 0) := by
      rw [← hA2, ← hA1]; split <;> split <;> omega
    have HG := Aside0.mk hneg
    clear hneg
    by_cases hlow : A2 < 0
    · have HE2 : Aside0 (E = none) := ⟨by rw [HE.out, if_pos (HG.out.1 hlow)]⟩
      clear HE HG
      obtain ⟨q0, q1, q2, q3, q4, q5, q6⟩ := HC2.out.cells7
      obtain ⟨z0, z1, z2, z3, z4, z5⟩ := HZ2.out.cells6
      have hf := HZ2.out.free
      clear HW
      go_wp2_with fail
      refine bodyPost_ret (res_ar rfl _ _ (w.heap.size + 1) 0 0 0 0 0 0 rfl (put6_blk HZ2.out 0 0 0 0 0 0)) rfl ?_
      rw [HE2.out]
      exact EP_none (put6_below HB2.out (Nat.le_succ _) 0 0 0 0 0 0)
    · have HE2 : Aside0 (E = if decw L c = some c then some (wds L c) else none) := ⟨by rw [HE.out, if_neg (fun h => hlow (HG.out.2 h))]⟩
      have hlow' : 0 ≤ A2 := by omega
      have hkw : IntKind.u64.wrap c.k = c.k := by simp [IntKind.wrap, IntKind.signed, IntKind.bits]; omega
      clear HE HG hlow
      obtain ⟨q0, q1, q2, q3, q4, q5, q6⟩ := HC2.out.cells7
      have hgw : w.heap.size + 1 < w1.heap.size := blk_lt HZ2.out
      have HP : Aside0 (Bl (w1.alloc (.cells (raw c.k 0 0 0 0 0) 24)) w1.heap.size 24 (pw L c 0)) := ⟨by rw [pw_zero]; exact heap_alloc_new w1 _⟩
      have HB3 := Aside0.mk (below_alloc HB2.out (.cells (raw c.k 0 0 0 0 0) 24))
      have HZ3 := Aside0.mk (HZ2.out.later (below_alloc (Below.refl _ _) (.cells (raw c.k 0 0 0 0 0) 24)))
      have HC3 := Aside0.mk (HC2.out.later (below_alloc (Below.refl _ _) (.cells (raw c.k 0 0 0 0 0) 24)))
      have HW3 : Aside0 (∀ i : Nat, i < L.length → ∃ g : Nat, A = some ⟨g, 0, none⟩ ∧ g ≠ w1.heap.size ∧ (w1.alloc (.cells (raw c.k 0 0 0 0 0) 24)).cell? ⟨g, i, none⟩ = some (.int .u8 (rd L (i : Int)))) := ⟨fun i hi => by
        obtain ⟨g, h1, h2, h3⟩ := HW.out i hi
        have hne := World.block_lt_of_cell? w1 _ h3
        exact ⟨g, h1, Nat.ne_of_lt hne, pw_cell_below (below_alloc (Below.refl _ _) (.cells (raw c.k 0 0 0 0 0) 24)) h3⟩⟩
      unfold raw at HP HB3 HZ3 HC3 HW3
      go_wp2_with fail
      have hgz : w.heap.size ≤ w1.heap.size := HB2.out.size
      clear HB2 HZ2 HC2 HW q0 q1 q2 q3 q4 q5 q6
      have HK : Aside0 (KeepBut (w1.alloc (.cells #[.int .u64 c.k, .int .u64 0, .int .u64 0, .int .u64 0, .int .u64 0, .int .u64 0] 24)) (w1.alloc (.cells #[.int .u64 c.k, .int .u64 0, .int .u64 0, .int .u64 0, .int .u64 0, .int .u64 0] 24)) w1.heap.size none) := ⟨KeepBut.refl _ _ _⟩
      generalize w1.heap.size = gp at HP HW3 HK hgw hgz ⊢
      go_loopw [36] (fun v36 wr => ∃ i : Nat, i ≤ L.length ∧ v36 = .int .i64 i ∧ Aside0 (Bl wr gp 24 (pw L c i)) ∧ Aside0 (Bl wr (w.heap.size + 1) 24 (raw 0 0 0 0 0 0)) ∧ Aside0 (Bl wr w.heap.size 26 c.cells) ∧ Aside0 (KeepBut (w1.alloc (.cells #[.int .u64 c.k, .int .u64 0, .int .u64 0, .int .u64 0, .int .u64 0, .int .u64 0] 24)) wr gp none) ∧ Aside0 (Below w.heap.size w wr)) (fun v36 _ => L.length - (intOf v36).toNat)
      case atStart => exact ⟨0, Nat.zero_le _, rfl, HP, HZ3, HC3, HK, HB3⟩
      case round =>
        obtain ⟨i, hi, rfl, hP, hZ, hC, hK, hB⟩ := hrel
        clear HP HZ3 HC3 HK HB3
        by_cases hlt : i < L.length
        · obtain ⟨gl, rfl, hgl, hlc⟩ := HW3.out i hlt
          have hlc2 := keep_cell hK.out hlc hgl
          have hGet := Aside0.mk (get_is c (rd L (i : Int)))
          have hPN := Aside0.mk (pw_next L c (i := i) (by omega))
          have hi4 : i < 4 := by omega
          clear hlc
          generalize rd L (i : Int) = f at hlc2 hGet hPN
          obtain ⟨q0, q1, q2, q3, q4, q5, q6⟩ := hC.out.cells7
          go_wp2_with fail
          refine (call_get.calls c.k c.p c.g c.n c.m c.a c.v f (getF c f) _ hGet.out).mono ?_
          rintro e w2 ⟨rfl, hb2⟩
          have HP3 := Aside0.mk (hP.out.later hb2)
          have HZ4 := Aside0.mk (hZ.out.later hb2)
          have HC4 := Aside0.mk (hC.out.later hb2)
          have HK4 := Aside0.mk (keep_refl_trans hK.out (KeepBut.of_below hb2 gp none))
          have HB4 := Aside0.mk (below_step hB.out hb2)
          clear hb2 hP hZ hC hK hB q0 q1 q2 q3 q4 q5 q6 hlc2
          generalize getF c f = y at hPN ⊢
          have hpc := (blk_cell HP3.out (1 + i)).trans (pw_at L c hi4)
          have hfr := HP3.out.free
          go_wp2_with fail
          have HP9 : Aside0 (Bl (w2.setCell ⟨gp, 1 + i, none⟩ (.int .u64 y)) gp 24 (pw L c (i + 1))) := ⟨by rw [← hPN.out]; exact blk_set HP3.out (1 + i) _⟩
          have HZ9 := Aside0.mk (HZ4.out.far (p := ⟨gp, 1 + i, none⟩) (show w.heap.size + 1 ≠ gp by omega) (.int .u64 y))
          have HC9 := Aside0.mk (HC4.out.far (p := ⟨gp, 1 + i, none⟩) (show w.heap.size ≠ gp by omega) (.int .u64 y))
          have HK9 := Aside0.mk (HK4.out.set_ (1 + i) (.int .u64 y))
          have HB9 := Aside0.mk (below_set (j := 1 + i) (v := .int .u64 y) HB4.out hgz)
          clear HP3 HZ4 HC4 HK4 HB4 hpc hfr
          go_roundw
          case rel => exact ⟨i + 1, by omega, by go_num, HP9, HZ9, HC9, HK9, HB9⟩
          case measure => simp [intOf]; omega
        · have hiL : i = L.length := by omega
          subst hiL
          obtain ⟨x1, hx1⟩ : ∃ x, x = wI L c L.length 0 := ⟨_, rfl⟩
          obtain ⟨x2, hx2⟩ : ∃ x, x = wI L c L.length 1 := ⟨_, rfl⟩
          obtain ⟨x3, hx3⟩ : ∃ x, x = wI L c L.length 2 := ⟨_, rfl⟩
          obtain ⟨x4, hx4⟩ : ∃ x, x = wI L c L.length 3 := ⟨_, rfl⟩
          obtain ⟨x5, hx5⟩ : ∃ x, x = wI L c L.length 4 := ⟨_, rfl⟩
          have HE5 : Aside0 (E = if dec c.k x1 x2 x3 x4 x5 = some c then some (raw c.k x1 x2 x3 x4 x5) else none) := ⟨by rw [HE2.out, hx1, hx2, hx3, hx4, hx5]; rfl⟩
          have HP5 : Aside0 (Bl wr gp 24 (raw c.k x1 x2 x3 x4 x5)) := ⟨by rw [hx1, hx2, hx3, hx4, hx5]; exact hP.out⟩
          have y1 : 0 ≤ x1 := by rw [hx1]; exact wI_lo ha hv L _ _
          have y2 : 0 ≤ x2 := by rw [hx2]; exact wI_lo ha hv L _ _
          have y3 : 0 ≤ x3 := by rw [hx3]; exact wI_lo ha hv L _ _
          have y4 : 0 ≤ x4 := by rw [hx4]; exact wI_lo ha hv L _ _
          have y5 : 0 ≤ x5 := by rw [hx5]; exact wI_lo ha hv L _ _
          have HD := Aside0.mk (decode_any c.k x1 x2 x3 x4 x5 wr hk y1 y2 y3 y4 y5)
          clear hx1 hx2 hx3 hx4 hx5 hP HE2 hK HW3 hlow' hA1 hA2 hlt
          clear y1 y2 y3 y4 y5
          obtain ⟨p0, p1, p2, p3, p4, p5⟩ := HP5.out.cells6
          cases hdd : dec c.k x1 x2 x3 x4 x5 with
          | none =>
            have HE6 : Aside0 (E = none) := ⟨by rw [HE5.out, hdd]; rfl⟩
            have HC6 := HD.out
            rw [hdd] at HC6
            have HD6 := Aside0.mk HC6
            clear HC6 HD hdd HE5
            unfold raw at HD6
            go_wp2_with fail
            refine HD6.out.mono ?_
            intro e w2 hpo
            have hpo2 : e = .returned (.tuple #[.agg #[.int .u8 0, .int .i64 0, .int .i64 0, .int .i64 0, .int .u8 0, .int .u64 0, .int .u64 0], .int .i64 250]) ∧ Below wr.heap.size wr w2 := hpo
            clear hpo
            obtain ⟨rfl, hb2⟩ := hpo2
            have hba := below_alloc hb2 (.cells #[.int .u8 0, .int .i64 0, .int .i64 0, .int .i64 0, .int .u8 0, .int .u64 0, .int .u64 0] 26)
            have HZ6 := Aside0.mk (hZ.out.later hba)
            have HB6 := Aside0.mk (below_step hB.out hba)
            clear hb2 hba hZ hB hC HP5 p0 p1 p2 p3 p4 p5
            obtain ⟨z0, z1, z2, z3, z4, z5⟩ := HZ6.out.cells6
            have hfr := HZ6.out.free
            go_wp2_with fail
            refine bodyPost_ret (res_ar rfl _ _ (w.heap.size + 1) 0 0 0 0 0 0 rfl (put6_blk HZ6.out 0 0 0 0 0 0)) rfl ?_
            rw [HE6.out]
            exact EP_none (put6_below HB6.out (Nat.le_succ _) 0 0 0 0 0 0)
          | some d =>
            have HC6 := HD.out
            rw [hdd] at HC6
            have HD6 := Aside0.mk HC6
            clear HC6 HD
            unfold raw at HD6
            by_cases hdc : d = c
            · have HE6 : Aside0 (E = some (raw c.k x1 x2 x3 x4 x5)) := ⟨by rw [HE5.out, hdd, hdc]; exact if_pos rfl⟩
              have heq := c7_eq.1 hdc
              clear hdd HE5 hdc
              go_wp2_with fail
              refine HD6.out.mono ?_
              intro e w2 hpo
              have hpo2 : e = .returned (.tuple #[.agg #[.int .u8 d.k, .int .i64 d.p, .int .i64 d.g, .int .i64 d.n, .int .u8 d.m, .int .u64 d.a, .int .u64 d.v], .int .i64 0]) ∧ Below wr.heap.size wr w2 := hpo
              clear hpo
              obtain ⟨rfl, hb2⟩ := hpo2
              have hba := below_alloc hb2 (.cells #[.int .u8 d.k, .int .i64 d.p, .int .i64 d.g, .int .i64 d.n, .int .u8 d.m, .int .u64 d.a, .int .u64 d.v] 26)
              have HZ6 := Aside0.mk (hZ.out.later hba)
              have HB6 := Aside0.mk (below_step hB.out hba)
              have HC7 := Aside0.mk (hC.out.later hba)
              have HP6 := Aside0.mk (HP5.out.later hba)
              have HD9 : Bl (w2.alloc (.cells #[.int .u8 d.k, .int .i64 d.p, .int .i64 d.g, .int .i64 d.n, .int .u8 d.m, .int .u64 d.a, .int .u64 d.v] 26)) w2.heap.size 26 d.cells := heap_alloc_new w2 _
              clear hb2 hba hZ hB hC HP5 p0 p1 p2 p3 p4 p5
              obtain ⟨z0, z1, z2, z3, z4, z5⟩ := HZ6.out.cells6
              obtain ⟨p0, p1, p2, p3, p4, p5⟩ := HP6.out.cells6
              obtain ⟨q0, q1, q2, q3, q4, q5, q6⟩ := HC7.out.cells7
              obtain ⟨d0, d1, d2, d3, d4, d5, d6⟩ := HD9.cells7
              have hfr := HZ6.out.free
              clear HD9
              go_wp2_with fail
              refine bodyPost_ret (res_ar rfl _ _ (w.heap.size + 1) c.k x1 x2 x3 x4 x5 rfl (put6_blk HZ6.out c.k x1 x2 x3 x4 x5)) rfl ?_
              rw [HE6.out]
              exact EP_some (put6_below HB6.out (Nat.le_succ _) c.k x1 x2 x3 x4 x5)
            · have HE6 : Aside0 (E = none) := ⟨by rw [HE5.out, hdd]; exact if_neg (fun h => hdc (Option.some.inj h))⟩
              have heq := c7_ne.1 hdc
              clear hdd HE5 hdc
              go_wp2_with fail
              refine HD6.out.mono ?_
              intro e w2 hpo
              have hpo2 : e = .returned (.tuple #[.agg #[.int .u8 d.k, .int .i64 d.p, .int .i64 d.g, .int .i64 d.n, .int .u8 d.m, .int .u64 d.a, .int .u64 d.v], .int .i64 0]) ∧ Below wr.heap.size wr w2 := hpo
              clear hpo
              obtain ⟨rfl, hb2⟩ := hpo2
              have hba := below_alloc hb2 (.cells #[.int .u8 d.k, .int .i64 d.p, .int .i64 d.g, .int .i64 d.n, .int .u8 d.m, .int .u64 d.a, .int .u64 d.v] 26)
              have HZ6 := Aside0.mk (hZ.out.later hba)
              have HB6 := Aside0.mk (below_step hB.out hba)
              have HC7 := Aside0.mk (hC.out.later hba)
              have HD9 : Bl (w2.alloc (.cells #[.int .u8 d.k, .int .i64 d.p, .int .i64 d.g, .int .i64 d.n, .int .u8 d.m, .int .u64 d.a, .int .u64 d.v] 26)) w2.heap.size 26 d.cells := heap_alloc_new w2 _
              clear hb2 hba hZ hB hC HP5 p0 p1 p2 p3 p4 p5
              obtain ⟨z0, z1, z2, z3, z4, z5⟩ := HZ6.out.cells6
              obtain ⟨q0, q1, q2, q3, q4, q5, q6⟩ := HC7.out.cells7
              obtain ⟨d0, d1, d2, d3, d4, d5, d6⟩ := HD9.cells7
              have hfr := HZ6.out.free
              clear HD9
              go_wp2_with fail
              refine bodyPost_ret (res_ar rfl _ _ (w.heap.size + 1) 0 0 0 0 0 0 rfl (put6_blk HZ6.out 0 0 0 0 0 0)) rfl ?_
              rw [HE6.out]
              exact EP_none (put6_below HB6.out (Nat.le_succ _) 0 0 0 0 0 0)
end Go.Proofs.Ytklnenaiolclaaa.H
