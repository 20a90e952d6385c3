/- Contracts of Read, the program's and the reference's: both come to 'rdB', 'rdA', 'rdE' of the word. -/
import Derived.Test.YtfhiboibfhjmpaaC2
import Derived.Deep.DrawnRows
namespace Go.Proofs.Ytfhiboibfhjmpaa.H
open Go.RowKit Go.Proofs.YtfhiboibfhjmpaaW.PrintWords Go.Proofs.YtfhiboibfhjmpaaW.PrintLast Go.Proofs.YtfhiboibfhjmpaaW.PrintMore
set_option linter.unusedVariables false
set_option linter.unusedSimpArgs false
attribute [local go_sem ↓] Go.wp_at_zero Go.wp_at_succ
def hb (x m : Int) : Bool := decide (0 < bits .and .u64 x m)
def rdE (x : Int) : Int := if 4095 < x / 256 ∨ 63 < x % 256 then 70 else Chk (hb x 1) (hb x 2) (hb x 4) (hb x 8) (hb x 16) (hb x 32) (x / 256)
def rdB (x m : Int) : Bool := if rdE x = 0 then hb x m else false
def rdA (x : Int) : Int := if rdE x = 0 then x / 256 else 0
theorem blk_set7 {w : World} {g : Nat} {t : TypeId} {c0 c1 c2 c3 c4 c5 c6 : Value} (h : w.heap[g]? = some (.cells #[c0, c1, c2, c3, c4, c5, c6] t (0, 0))) (u0 u1 u2 u3 u4 u5 u6 : Value) :
    (((((((w.setCell ⟨g, 0, none⟩ u0).setCell ⟨g, 1, none⟩ u1).setCell ⟨g, 2, none⟩ u2).setCell ⟨g, 3, none⟩ u3).setCell ⟨g, 4, none⟩ u4).setCell ⟨g, 5, none⟩ u5).setCell ⟨g, 6, none⟩ u6).heap[g]? = some (.cells #[u0, u1, u2, u3, u4, u5, u6] t (0, 0)) :=
  by simpa using blk_set (blk_set (blk_set (blk_set (blk_set (blk_set (blk_set h 0 u0) 1 u1) 2 u2) 3 u3) 4 u4) 5 u5) 6 u6
theorem below_set7 {B : Nat} {a w : World} (h : Below B a w) {g : Nat} (hg : B ≤ g) (u0 u1 u2 u3 u4 u5 u6 : Value) :
    Below B a (((((((w.setCell ⟨g, 0, none⟩ u0).setCell ⟨g, 1, none⟩ u1).setCell ⟨g, 2, none⟩ u2).setCell ⟨g, 3, none⟩ u3).setCell ⟨g, 4, none⟩ u4).setCell ⟨g, 5, none⟩ u5).setCell ⟨g, 6, none⟩ u6) :=
  ((((((h.setCell hg u0).setCell hg u1).setCell hg u2).setCell hg u3).setCell hg u4).setCell hg u5).setCell hg u6
theorem rd_bad {x : Int} (h : rdE x ≠ 0) : rdE x = 70 ∧ (∀ m, rdB x m = false) ∧ rdA x = 0 := by
  refine ⟨?_, fun m => by unfold rdB; rw [if_neg h], by unfold rdA; rw [if_neg h]⟩
  unfold rdE at h ⊢
  by_cases c : 4095 < x / 256 ∨ 63 < x % 256
  · rw [if_pos c]
  · rw [if_neg c] at h ⊢; exact (Chk_or _ _ _ _ _ _ _).resolve_left h
theorem rd_ok {x : Int} (h : rdE x = 0) : x / 256 ≤ 4095 ∧ x % 256 ≤ 63 ∧ Chk (hb x 1) (hb x 2) (hb x 4) (hb x 8) (hb x 16) (hb x 32) (x / 256) = 0 ∧ (∀ m, rdB x m = hb x m) ∧ rdA x = x / 256 := by
  have h' := h
  unfold rdE at h'
  by_cases c : 4095 < x / 256 ∨ 63 < x % 256
  · rw [if_pos c] at h'; omega
  · rw [if_neg c] at h'
    exact ⟨by omega, by omega, h', fun m => by unfold rdB; rw [if_pos h], by unfold rdA; rw [if_pos h]⟩
set_option maxHeartbeats 4000000 in
set_option maxRecDepth 100000 in
theorem ref_Read_ok (x : Int) (w : World) (h0 : 0 ≤ x) (h1 : x < 18446744073709551616) (hA : x / 256 ≤ 4095) (hB : x % 256 ≤ 63) (hz : Chk (hb x 1) (hb x 2) (hb x 4) (hb x 8) (hb x 16) (hb x 32) (x / 256) = 0) :
    Calls Try.prog 15 #[.int .u64 x] w fun e w' => e = .returned (.tuple #[.agg #[.bool (hb x 1), .bool (hb x 2), .bool (hb x 4), .bool (hb x 8), .bool (hb x 16), .bool (hb x 32), .int .i64 (x / 256)], .int .i64 0]) ∧ Below w.heap.size w w' := by
  have hu23 := Try.underlying23
  unfold hb at *
  go_enter Try.func15, Try.ntmps15
  go_wp2_with (go_at_call 10; refine (ref_Check _ _ _ _ _ _ _ _).mono ?_; rintro e w1 ⟨rfl, hb⟩; obtain ⟨hc, hf⟩ := bcell hb)
  have HB := blk_set7 (blk_below (blk_alloc (blk_new w (.cells #[.bool false, .bool false, .bool false, .bool false, .bool false, .bool false, .int .i64 0] 23)) _) hb)
  refine bodyPost_ret (results_ct (P := Try.prog) Try.results15 _ _ w.heap.size 23 _ (0, 0) _ ?h1 (HB _ _ _ _ _ _ _) Try.underlying23 rfl (by kernel_rfl)) rfl ?h2
  case h1 => rfl
  refine ⟨rfl, ?_⟩
  have hB := below_then (below_alloc (below_alloc (Below.refl w.heap.size w) _) _) (by simp; omega) hb
  exact below_set7 hB (Nat.le_refl _) _ _ _ _ _ _ _
set_option maxHeartbeats 4000000 in
set_option maxRecDepth 100000 in
theorem ref_Read_bad (x : Int) (w : World) (h0 : 0 ≤ x) (h1 : x < 18446744073709551616) (hbd : 4095 < x / 256 ∨ 63 < x % 256 ∨ (x / 256 ≤ 4095 ∧ x % 256 ≤ 63 ∧ (Chk (hb x 1) (hb x 2) (hb x 4) (hb x 8) (hb x 16) (hb x 32) (x / 256) != 0) = true)) :
    Calls Try.prog 15 #[.int .u64 x] w fun e w' => e = .returned (.tuple #[.agg #[.bool false, .bool false, .bool false, .bool false, .bool false, .bool false, .int .i64 0], .int .i64 70]) ∧ Below w.heap.size w w' := by
  have hu23 := Try.underlying23
  unfold hb at *
  rcases hbd with h | h | ⟨hA, hB, hz⟩
  · have hd : decide (4095 < x / 256) = true := by simpa using h
    go_enter Try.func15, Try.ntmps15
    go_wp2
    refine bodyPost_ret (results_ct (P := Try.prog) Try.results15 _ _ w.heap.size 23 _ (0, 0) _ rfl (blk_new w _) Try.underlying23 rfl (by kernel_rfl)) rfl ⟨rfl, ?_⟩
    exact below_alloc (Below.refl w.heap.size w) _
  · by_cases h' : 4095 < x / 256
    all_goals
      go_enter Try.func15, Try.ntmps15
      go_wp2
      refine bodyPost_ret (results_ct (P := Try.prog) Try.results15 _ _ w.heap.size 23 _ (0, 0) _ rfl (blk_new w _) Try.underlying23 rfl (by kernel_rfl)) rfl ⟨rfl, ?_⟩
      exact below_alloc (Below.refl w.heap.size w) _
  · go_enter Try.func15, Try.ntmps15
    go_wp2_with (go_at_call 10; refine (ref_Check _ _ _ _ _ _ _ _).mono ?_; rintro e w1 ⟨rfl, hb⟩; obtain ⟨hc, hf⟩ := bcell hb)
    have HB := blk_set7 (blk_below (blk_alloc (blk_new w (.cells #[.bool false, .bool false, .bool false, .bool false, .bool false, .bool false, .int .i64 0] 23)) _) hb)
    refine bodyPost_ret (results_ct (P := Try.prog) Try.results15 _ _ w.heap.size 23 _ (0, 0) _ ?h1 (HB _ _ _ _ _ _ _) Try.underlying23 rfl (by kernel_rfl)) rfl ?h2
    case h1 => rfl
    refine ⟨rfl, ?_⟩
    have hB := below_then (below_alloc (below_alloc (Below.refl w.heap.size w) _) _) (by simp; omega) hb
    exact below_set7 hB (Nat.le_refl _) _ _ _ _ _ _ _
theorem ref_Read (x : Int) (w : World) (h0 : 0 ≤ x) (h1 : x < 18446744073709551616) :
    Calls Try.prog 15 #[.int .u64 x] w fun e w' => e = .returned (.tuple #[.agg #[.bool (rdB x 1), .bool (rdB x 2), .bool (rdB x 4), .bool (rdB x 8), .bool (rdB x 16), .bool (rdB x 32), .int .i64 (rdA x)], .int .i64 (rdE x)]) ∧ Below w.heap.size w w' := by
  by_cases h : rdE x = 0
  · obtain ⟨p, q, r, s, t⟩ := rd_ok h
    rw [s, s, s, s, s, s, t, h]
    exact ref_Read_ok x w h0 h1 p q r
  · obtain ⟨r, s, t⟩ := rd_bad h
    rw [s, s, s, s, s, s, t, r]
    refine ref_Read_bad x w h0 h1 ?_
    unfold rdE at h
    by_cases c : 4095 < x / 256 ∨ 63 < x % 256
    · rcases c with c | c
      · exact .inl c
      · exact .inr (.inl c)
    · rw [if_neg c] at h
      exact .inr (.inr ⟨by omega, by omega, by rw [bne_iff_ne]; exact h⟩)
end Go.Proofs.Ytfhiboibfhjmpaa.H
