/- Plain law: words that are read are just those that are written. -/
import Derived.Test.YtklnenaiolclaaaC5
import Derived.Laws.BitsAllLaws
namespace Go.Proofs.Ytklnenaiolclaaa.H
open Go.RowKit Go.Proofs.YtklnenaiolclaaaW.PrintWords Go.Proofs.YtklnenaiolclaaaW.PrintLast Go.Proofs.YtklnenaiolclaaaW.PrintMore
set_option linter.unusedVariables false
set_option linter.unusedSimpArgs false
set_option maxHeartbeats 4000000
theorem wrap_in {x : Int} (h0 : 0 ≤ x) (h : x ≤ 18446744073709551615) : IntKind.u64.wrap x = x := by
  simp [IntKind.wrap, IntKind.signed, IntKind.bits]; omega
theorem fds_forms {k : Int} {L : List Int} (h : fds k = some L) : L = [] ∨ L = [0] ∨ L = [0, 1, 2, 3] ∨ L = [0, 1, 2] ∨ L = [0, 2] ∨ L = [0, 4, 2] ∨ L = [0, 4, 2, 5] := by
  unfold fds at h
  repeat' split at h
  all_goals first | (injection h with h; subst h; simp; done) | (cases h; done)
theorem dec_enc {x0 x1 x2 x3 x4 x5 : Int} {d : C7} (h0 : 0 ≤ x0) (h1 : 0 ≤ x1) (h2 : 0 ≤ x2) (h3 : 0 ≤ x3) (h4 : 0 ≤ x4) (h5 : 0 ≤ x5) (h : dec x0 x1 x2 x3 x4 x5 = some d) :
    enc d = some (raw x0 x1 x2 x3 x4 x5) ∧ d.k = x0 ∧ 0 ≤ d.a ∧ 0 ≤ d.v := by
  have hh := h
  unfold dec at hh
  by_cases hb : 255 < x0
  · rw [if_pos hb] at hh; cases hh
  rw [if_neg hb] at hh
  cases hL : fds x0 with
  | none => rw [hL] at hh; cases hh
  | some L =>
    rw [hL] at hh
    simp only at hh
    have hL0 := hL
    have key : d.k = x0 ∧ 0 ≤ d.p ∧ 0 ≤ d.g ∧ 0 ≤ d.n ∧ 0 ≤ d.a ∧ 0 ≤ d.v ∧ wI L d L.length 0 = x1 ∧ wI L d L.length 1 = x2 ∧ wI L d L.length 2 = x3 ∧ wI L d L.length 3 = x4 ∧ wI L d L.length 4 = x5 := by
      have v1 : ¬ 2147483647 < x1 → IntKind.u64.wrap x1 = x1 := fun h => wrap_in h1 (by omega)
      have v2 : ¬ 2147483647 < x2 → IntKind.u64.wrap x2 = x2 := fun h => wrap_in h2 (by omega)
      have v3 : ¬ 2147483647 < x3 → IntKind.u64.wrap x3 = x3 := fun h => wrap_in h3 (by omega)
      have v4 : x4 ≤ 255 → IntKind.u64.wrap x4 = x4 := fun h => wrap_in h4 (by omega)
      clear h hL hb
      rcases d with ⟨dk, dp, dg, dn, dm, da, dv⟩
      rcases fds_forms hL0 with rfl | rfl | rfl | rfl | rfl | rfl | rfl
      all_goals
        by_cases b1 : 2147483647 < x1 <;> by_cases b2 : 2147483647 < x2 <;> by_cases b3 : 2147483647 < x3 <;> by_cases b4 : x4 ≤ 255 <;> simp [go, setF, c0, b1, b2, b3, b4] at hh
      all_goals simp only [b1, b2, b3, b4, not_false_eq_true, not_true_eq_false, true_imp_iff, false_imp_iff] at v1 v2 v3 v4
      all_goals
        simp [wI, getF, rd]
        first
          | (obtain ⟨g1, g2, g3, g4, g5, q1, q2, q3, q4, q5, q6, q7⟩ := hh; subst_vars; simp_all; done)
          | (obtain ⟨g1, g2, g3, g4, q1, q2, q3, q4, q5, q6, q7⟩ := hh; subst_vars; simp_all; done)
          | (obtain ⟨g1, g2, g3, q1, q2, q3, q4, q5, q6, q7⟩ := hh; subst_vars; simp_all; done)
          | (obtain ⟨g1, g2, q1, q2, q3, q4, q5, q6, q7⟩ := hh; subst_vars; simp_all; done)
          | (obtain ⟨g1, q1, q2, q3, q4, q5, q6, q7⟩ := hh; subst_vars; simp_all; done)
          | (obtain ⟨q1, q2, q3, q4, q5, q6, q7⟩ := hh; subst_vars; simp_all; done)
    obtain ⟨hk, hp, hg, hn, ha, hv, w1, w2, w3, w4, w5⟩ := key
    have hdw : decw L d = some d := by unfold decw; rw [hk, w1, w2, w3, w4, w5]; exact h
    have hwd : wds L d = raw x0 x1 x2 x3 x4 x5 := by unfold wds pw; rw [hk, w1, w2, w3, w4, w5]
    refine ⟨?_, hk, ha, hv⟩
    unfold enc
    rw [hk, hL]
    simp only
    rw [if_neg (by omega), if_pos hdw, hwd]
theorem wrapU_hi (x : Int) : IntKind.u64.wrap x ≤ 18446744073709551615 := by
  simp [IntKind.wrap, IntKind.signed, IntKind.bits]; omega
theorem getF_hi {c : C7} (ha : c.a ≤ 18446744073709551615) (hv : c.v ≤ 18446744073709551615) (f : Int) : getF c f ≤ 18446744073709551615 := by
  unfold getF
  repeat' split
  all_goals first | exact wrapU_hi _ | assumption
theorem wI_hi {c : C7} (ha : c.a ≤ 18446744073709551615) (hv : c.v ≤ 18446744073709551615) (L : List Int) (i j : Nat) : wI L c i j ≤ 18446744073709551615 := by
  unfold wI; split
  · exact getF_hi ha hv _
  · omega
theorem enc_dec_hi {c : C7} {r : Array Value} (h : enc c = some r) (ha : 0 ≤ c.a ∧ c.a ≤ 18446744073709551615) (hv : 0 ≤ c.v ∧ c.v ≤ 18446744073709551615) : ∃ x1 x2 x3 x4 x5 : Int, r = raw c.k x1 x2 x3 x4 x5 ∧ dec c.k x1 x2 x3 x4 x5 = some c ∧ (0 ≤ x1 ∧ x1 ≤ 18446744073709551615) ∧ (0 ≤ x2 ∧ x2 ≤ 18446744073709551615) ∧ (0 ≤ x3 ∧ x3 ≤ 18446744073709551615) ∧ (0 ≤ x4 ∧ x4 ≤ 18446744073709551615) ∧ (0 ≤ x5 ∧ x5 ≤ 18446744073709551615) := by
  unfold enc at h
  cases hL : fds c.k with
  | none => rw [hL] at h; cases h
  | some L =>
    rw [hL] at h
    simp only at h
    split at h
    · cases h
    · split at h
      · rename_i h2
        injection h with h
        exact ⟨_, _, _, _, _, h.symm, h2, ⟨wI_lo ha.1 hv.1 L _ _, wI_hi ha.2 hv.2 L _ _⟩, ⟨wI_lo ha.1 hv.1 L _ _, wI_hi ha.2 hv.2 L _ _⟩, ⟨wI_lo ha.1 hv.1 L _ _, wI_hi ha.2 hv.2 L _ _⟩, ⟨wI_lo ha.1 hv.1 L _ _, wI_hi ha.2 hv.2 L _ _⟩, ⟨wI_lo ha.1 hv.1 L _ _, wI_hi ha.2 hv.2 L _ _⟩⟩
      · cases h
theorem xor_turns {a b : Int} (ha : 0 ≤ a ∧ a ≤ 18446744073709551615) (hb : 0 ≤ b ∧ b ≤ 18446744073709551615) (hz : b ≠ 0) : 0 ≤ bits .xor .u64 a b ∧ bits .xor .u64 a b ≠ a := by
  rw [u64_xor a b ha.1 (by omega) hb.1 (by omega)]
  refine ⟨Int.natCast_nonneg _, fun h => ?_⟩
  have h1 : a.toNat ^^^ b.toNat = a.toNat := by omega
  have h2 : a.toNat ^^^ (a.toNat ^^^ b.toNat) = b.toNat := by rw [← Nat.xor_assoc, Nat.xor_self, Nat.zero_xor]
  rw [h1, Nat.xor_self] at h2
  omega
theorem tmod6 (x : Int) : 0 ≤ (wrap64 (x.tmod 6 + 6)).tmod 6 ∧ (wrap64 (x.tmod 6 + 6)).tmod 6 < 6 := by
  have h1 : x.tmod 6 < 6 := Int.tmod_lt_of_pos x (by omega)
  have h2 : -6 < x.tmod 6 := by
    have := Int.tmod_lt_of_pos (-x) (show (0 : Int) < 6 by omega)
    rw [Int.neg_tmod] at this
    omega
  have h3 : wrap64 (x.tmod 6 + 6) = x.tmod 6 + 6 := by unfold wrap64; omega
  rw [h3]
  exact ⟨Int.tmod_nonneg _ (by omega), Int.tmod_lt_of_pos _ (by omega)⟩
/-- What is written is read. -/
theorem enc_dec {c : C7} {r : Array Value} (h : enc c = some r) (ha : 0 ≤ c.a) (hv : 0 ≤ c.v) : ∃ x1 x2 x3 x4 x5 : Int, r = raw c.k x1 x2 x3 x4 x5 ∧ dec c.k x1 x2 x3 x4 x5 = some c ∧ 0 ≤ x1 ∧ 0 ≤ x2 ∧ 0 ≤ x3 ∧ 0 ≤ x4 ∧ 0 ≤ x5 := by
  unfold enc at h
  cases hL : fds c.k with
  | none => rw [hL] at h; cases h
  | some L =>
    rw [hL] at h
    simp only at h
    split at h
    · cases h
    · split at h
      · rename_i h2
        injection h with h
        exact ⟨_, _, _, _, _, h.symm, h2, wI_lo ha hv L _ _, wI_lo ha hv L _ _, wI_lo ha hv L _ _, wI_lo ha hv L _ _, wI_lo ha hv L _ _⟩
      · cases h
theorem raw_inj {x0 x1 x2 x3 x4 x5 y0 y1 y2 y3 y4 y5 : Int} (h : raw x0 x1 x2 x3 x4 x5 = raw y0 y1 y2 y3 y4 y5) : x0 = y0 ∧ x1 = y1 ∧ x2 = y2 ∧ x3 = y3 ∧ x4 = y4 ∧ x5 = y5 := by
  simpa [raw] using h
end Go.Proofs.Ytklnenaiolclaaa.H
