/- Contract of entry.Read, whatever the word: 'rdB', 'rdA', 'rdE'. -/
import Derived.Test.YtfhiboibfhjmpaaC6
import Derived.Test.YtfhiboibfhjmpaaC7
namespace Go.Proofs.Ytfhiboibfhjmpaa.H
open Go.RowKit Go.Proofs.YtfhiboibfhjmpaaW.PrintWords Go.Proofs.YtfhiboibfhjmpaaW.PrintLast Go.Proofs.YtfhiboibfhjmpaaW.PrintMore
set_option linter.unusedVariables false
set_option linter.unusedSimpArgs false
set_option maxHeartbeats 4000000 in
set_option maxRecDepth 100000 in
theorem entry_Read_bad (x : Int) (w : World) (h0 : 0 ≤ x) (h1 : x < 18446744073709551616) (hm : (bits .andNot .u64 x 1048383 != 0) = true) :
    Calls Try.prog 14 #[.int .u64 x] w fun e w' => e = .returned (.tuple #[.agg #[.bool false, .bool false, .bool false, .bool false, .bool false, .bool false, .int .i64 0], .int .i64 70]) ∧ Below w.heap.size w w' := by
  have hu23 := Try.underlying23
  go_enter Try.func14, Try.ntmps14
  go_wp2
  refine bodyPost_ret (results_ct (P := Try.prog) Try.results14 _ _ (w.heap.size + 1) 23 #[.bool false, .bool false, .bool false, .bool false, .bool false, .bool false, .int .i64 0] (0, 0) _ ?h1 ?h3 Try.underlying23 rfl (by kernel_rfl)) rfl ?h2
  case h1 => rfl
  case h3 => 
    have := blk_new (w.alloc (.cells #[.int .u64 x] 24)) (.cells #[.bool false, .bool false, .bool false, .bool false, .bool false, .bool false, .int .i64 0] 23)
    simpa using this
  refine ⟨rfl, ?_⟩
  exact below_alloc (below_alloc (Below.refl _ _) _) _
theorem entry_Read (x : Int) (w : World) (h0 : 0 ≤ x) (h1 : x < 18446744073709551616) :
    Calls Try.prog 14 #[.int .u64 x] w fun e w' => e = .returned (.tuple #[.agg #[.bool (rdB x 1), .bool (rdB x 2), .bool (rdB x 4), .bool (rdB x 8), .bool (rdB x 16), .bool (rdB x 32), .int .i64 (rdA x)], .int .i64 (rdE x)]) ∧ Below w.heap.size w w' := by
  have hmi := mask_int x h0 h1
  by_cases c : 4095 < x / 256 ∨ 63 < x % 256
  · have h70 : rdE x = 70 := by unfold rdE; rw [if_pos c]
    obtain ⟨_, s, t⟩ := rd_bad (x := x) (by omega)
    rw [s, s, s, s, s, s, t, h70]
    exact entry_Read_bad x w h0 h1 (by rw [hmi]; exact decide_eq_true c)
  · have hE : rdE x = Chk (hb x 1) (hb x 2) (hb x 4) (hb x 8) (hb x 16) (hb x 32) (x / 256) := by unfold rdE; rw [if_neg c]
    have hor : rdE x = 0 ∨ rdE x = 70 := by rw [hE]; exact Chk_or _ _ _ _ _ _ _
    refine (entry_Read_fits x w h0 h1 (by rw [hmi]; exact decide_eq_false c) (hb x 1) (hb x 2) (hb x 4) (hb x 8) (hb x 16) (hb x 32) (rdE x) hor (hn_hb _ _ h0 h1 (by decide) (by decide)) (hn_hb _ _ h0 h1 (by decide) (by decide)) (hn_hb _ _ h0 h1 (by decide) (by decide)) (hn_hb _ _ h0 h1 (by decide) (by decide)) (hn_hb _ _ h0 h1 (by decide) (by decide)) (hn_hb _ _ h0 h1 (by decide) (by decide)) hE.symm).mono ?_
    rintro e w' ⟨he, hb'⟩
    refine ⟨?_, hb'⟩
    rw [he]
    rcases hor with z | z
    · obtain ⟨_, _, _, s, t⟩ := rd_ok z
      rw [if_pos z, s, s, s, s, s, s, t]
    · obtain ⟨_, s, t⟩ := rd_bad (x := x) (by omega)
      rw [if_neg (by omega), s, s, s, s, s, s, t]
end Go.Proofs.Ytfhiboibfhjmpaa.H
