/- Plain laws of chapter 10: the worst and the most, in closed form without a wrap. -/
import Derived.Test.YtpodcbaechlejaaQa2
namespace Go.Proofs.Ytpodcbaechlejaa.Pure
open Go.RowKit Go.Proofs.Ytpodcbaechlejaa.H Go.Proofs.YtpodcbaechlejaaW.PrintWords Go.Proofs.YtpodcbaechlejaaW.PrintLast Go.Proofs.YtpodcbaechlejaaW.PrintMore
set_option linter.unusedVariables false
set_option linter.unusedSimpArgs false
theorem img_eq {m s0 : Int} (hm : 1 ≤ m ∧ m ≤ 65536) (h : s0 = 1 ∨ s0 = 2 ∨ s0 = 4 ∨ s0 = 8) : IntKind.u64.wrap (IntKind.u64.wrap s0 * m) = s0 * m ∧ 0 ≤ s0 * m ∧ s0 * m ≤ 524288 := by
  rcases h with rfl | rfl | rfl | rfl
  · rw [wrap_in (x := 1) (by omega) (by omega), wrap_in (by omega) (by omega)]; omega
  · rw [wrap_in (x := 2) (by omega) (by omega), wrap_in (by omega) (by omega)]; omega
  · rw [wrap_in (x := 4) (by omega) (by omega), wrap_in (by omega) (by omega)]; omega
  · rw [wrap_in (x := 8) (by omega) (by omega), wrap_in (by omega) (by omega)]; omega
theorem bp_top (m f st d u l n : Int) {k : Nat} (hk : 10 ≤ k) : bp m f st d u l n k = 0 := by
  obtain ⟨j, rfl⟩ : ∃ j, k = j + 10 := ⟨k - 10, by omega⟩
  rfl
theorem wk_eq {a b m f st d i u l n : Int} (hc : okc a b m f st d) (hs : oks i u l n) (kind : Int) (h0 : 0 ≤ kind) : wk m f st d i u l n kind = i * m + bp m f st d u l n kind.toNat := by
  obtain ⟨c0, c1, c2, c3, c4, c5, c6⟩ := hc
  have hm : 1 ≤ m ∧ m ≤ 65536 := by omega
  obtain ⟨s0, s1, s2, s3⟩ := hs
  obtain ⟨e1, e2, e3⟩ := img_eq hm s0
  obtain ⟨b1, b2, b3⟩ := bd_bp hm c4 c5 c6 s1 s2 s3 kind.toNat
  unfold wk
  rw [e1, b1]
  by_cases h : kind ≥ 11
  · rw [if_pos h, bp_top m f st d u l n (by omega)]; omega
  · rw [if_neg h, wrap_in (by omega) (by omega)]
theorem cworst_eq (k : Nat) (hk : 10 ≤ k) (a b m f st d i u l n kind : Int) (h0 : 0 ≤ kind) : cost_Worst.f k a b m f st d i u l n kind = some (if okc a b m f st d then (if oks i u l n then (i * m + bp m f st d u l n kind.toNat, 0) else (0, 2)) else (0, 100)) := by
  unfold cost_Worst.f
  rw [if_pos h0, asked_eq k hk]
  by_cases hc : okc a b m f st d
  · by_cases hs : oks i u l n
    · simp only [if_pos hc, if_pos hs, Option.bind_some, if_true, wk_eq hc hs kind h0]
    · simp only [if_pos hc, if_neg hs, Option.bind_some]; rfl
  · simp only [if_neg hc, Option.bind_some]; rfl
/-- The largest of the first kinds, without a wrap. -/
def bm (m f st d u l n : Int) : Nat → Int
  | 0 => 0
  | k + 1 => mx (bm m f st d u l n k) (bp m f st d u l n k)
theorem bm_in {m f st d u l n : Int} (hm : 1 ≤ m ∧ m ≤ 65536) (hf : 1 ≤ f ∧ f ≤ 65536) (hs : 1 ≤ st ∧ st ≤ 65536) (hd : 1 ≤ d ∧ d ≤ 65536) (hu : 2 ≤ u ∧ u ≤ 4096) (hl : 1 ≤ l ∧ l ≤ 5120) (hn : 1 ≤ n ∧ n ≤ 4096) : ∀ k, mxs m f st d u l n k = bm m f st d u l n k ∧ 0 ≤ bm m f st d u l n k ∧ bm m f st d u l n k ≤ 6000000000
  | 0 => ⟨rfl, Int.le_refl _, by show (0 : Int) ≤ 6000000000; omega⟩
  | k + 1 => by
    obtain ⟨i1, i2, i3⟩ := bm_in hm hf hs hd hu hl hn k
    obtain ⟨b1, b2, b3⟩ := bd_bp hm hf hs hd hu hl hn k
    refine ⟨?_, mx_bd i2 i3 b2 b3⟩
    show mx (mxs m f st d u l n k) (bd m f st d u l n k) = mx (bm m f st d u l n k) (bp m f st d u l n k)
    rw [i1, b1]
theorem bm_top {m f st d u l n : Int} (h : 0 ≤ bm m f st d u l n 11) : ∀ j, bm m f st d u l n (11 + j) = bm m f st d u l n 11
  | 0 => rfl
  | j + 1 => by
    have ih := bm_top h j
    show mx (bm m f st d u l n (11 + j)) (bp m f st d u l n (11 + j)) = _
    rw [ih, bp_top m f st d u l n (by omega)]
    unfold mx; rw [if_neg (by omega)]
theorem mst_eq {a b m f st d i u l n : Int} (hc : okc a b m f st d) (hs : oks i u l n) : mst m f st d i u l n = i * m + bm m f st d u l n 11 := by
  obtain ⟨c0, c1, c2, c3, c4, c5, c6⟩ := hc
  have hm : 1 ≤ m ∧ m ≤ 65536 := by omega
  obtain ⟨s0, s1, s2, s3⟩ := hs
  obtain ⟨e1, e2, e3⟩ := img_eq hm s0
  obtain ⟨b1, b2, b3⟩ := bm_in hm c4 c5 c6 s1 s2 s3 11
  unfold mst
  rw [e1, b1, wrap_in (by omega) (by omega)]
theorem cmost_eq (k : Nat) (hk : 10 ≤ k) (a b m f st d i u l n : Int) : cost_Most.f k a b m f st d i u l n = some (if okc a b m f st d then (if oks i u l n then (i * m + bm m f st d u l n 11, 0) else (0, 2)) else (0, 100)) := by
  unfold cost_Most.f
  rw [asked_eq k hk]
  by_cases hc : okc a b m f st d
  · by_cases hs : oks i u l n
    · simp only [if_pos hc, if_pos hs, Option.bind_some, if_true, mst_eq hc hs]
    · simp only [if_pos hc, if_neg hs, Option.bind_some]; rfl
  · simp only [if_neg hc, Option.bind_some]; rfl
end Go.Proofs.Ytpodcbaechlejaa.Pure
