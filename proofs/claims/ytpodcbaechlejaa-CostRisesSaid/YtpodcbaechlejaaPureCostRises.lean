/- CostRises: with costs and measures raised, no kind costs less; each is at most Most, and one is Most. -/
import Derived.Test.YtpodcbaechlejaaHy7
import Derived.Test.YtpodcbaechlejaaQa4
namespace Go.Proofs.Ytpodcbaechlejaa.Pure
open Go.RowKit Go.Proofs.Ytpodcbaechlejaa.H Go.Proofs.YtpodcbaechlejaaW.PrintWords Go.Proofs.YtpodcbaechlejaaW.PrintLast
set_option linter.unusedVariables false
theorem of_u64 {x : Int} (h : (Lit.int .u64 x).wf = true) : 0 ≤ x := by
  simp [Lit.wf, IntKind.min, IntKind.max, IntKind.signed, IntKind.bits] at h
  omega
theorem idx {j : Nat} (h : j < 256) : wrap64 ((j : Int) + 1) = ((j + 1 : Nat) : Int) ∧ ((j : Int) % 256) = (j : Int) ∧ 0 ≤ (j : Int) := by
  refine ⟨?_, ?_, by omega⟩
  · unfold wrap64; omega
  · omega
/-- Whether one of the first kinds is the most. -/
def fl (m f st d u l n : Int) : Nat → Bool
  | 0 => false
  | k + 1 => if fl m f st d u l n k = true then true else bp m f st d u l n k == bm m f st d u l n 11
theorem fl_yes (m f st d u l n : Int) (i : Nat) (h : bp m f st d u l n i = bm m f st d u l n 11) : ∀ k, i < k → fl m f st d u l n k = true
  | 0, hk => by omega
  | k + 1, hk => by
    show (if fl m f st d u l n k = true then true else bp m f st d u l n k == bm m f st d u l n 11) = true
    by_cases hik : i = k
    · subst hik; rw [h]; simp
    · rw [fl_yes m f st d u l n i h k (by omega)]; rfl
theorem rises_l0 {a b m f st d i u l n m' f' st' d' u' l' n' : Int} (hc : okc a b m f st d) (hs : oks i u l n) (hc' : okc a b m' f' st' d') (hs' : oks i u' l' n')
    (km : m ≤ m') (kf : f ≤ f') (ks : st ≤ st') (kd : d ≤ d') (ku : u ≤ u') (kl : l ≤ l') (kn : n ≤ n') :
    ∀ (t k j : Nat), j + t = 20 → t + 12 ≤ k → Lw.l0 k (i * m + bm m f st d u l n 11) (fl m f st d u l n j) (j : Int) a b m f st d i u l n a b m' f' st' d' i u' l' n' = some true := by
  have c1 := hc
  obtain ⟨c0, c1, c2, c3, c4, c5, c6⟩ := c1
  have c1' := hc'
  obtain ⟨c0', c1', c2', c3', c4', c5', c6'⟩ := c1'
  have hm : 1 ≤ m ∧ m ≤ 65536 := by omega
  have hm' : 1 ≤ m' ∧ m' ≤ 65536 := by omega
  have s0 := hs.1
  obtain ⟨s1, s2, s3⟩ := hs.2
  obtain ⟨s1', s2', s3'⟩ := hs'.2
  obtain ⟨e1, e2, e3⟩ := img_eq hm s0
  obtain ⟨e1', e2', e3'⟩ := img_eq hm' s0
  have hi : 1 ≤ i := by clear e1 e2 e3 e1' e2' e3'; omega
  have ei : i * m ≤ i * m' := mul_up (by omega) (by omega) (Int.le_refl _) km
  have hB := fun k => bd_bp hm c4 c5 c6 s1 s2 s3 k
  have hB' := fun k => bd_bp hm' c4' c5' c6' s1' s2' s3' k
  have hM := bm_in hm c4 c5 c6 s1 s2 s3 11
  have hU := bp_up hm.1 c4.1 c5.1 c6.1 s1.1 s2.1 s3.1 km kf ks kd ku kl kn
  clear c0 c1 c2 c3 c0' c1' c2' c3' s0
  intro t
  induction t with
  | zero =>
    intro k j hj hk
    obtain ⟨k, rfl⟩ : ∃ q, k = q + 1 := ⟨k - 1, by clear hc hs hc' hs'; omega⟩
    obtain ⟨z, hz1, hz2⟩ := bm_is m f st d u l n 10
    have hf := fl_yes m f st d u l n z hz2 j (by clear hc hs hc' hs'; omega)
    simp only [Lw.l0]
    rw [if_neg (by clear hc hs hc' hs'; omega), hf]
  | succ t ih =>
    intro k j hj hk
    obtain ⟨k, rfl⟩ : ∃ q, k = q + 1 := ⟨k - 1, by clear hc hs hc' hs'; omega⟩
    have hlt : j < 20 := by clear hc hs hc' hs' ih; omega
    have hk10 : 10 ≤ k := by clear hc hs hc' hs' ih; omega
    have ih := ih k (j + 1) (by clear hc hs hc' hs'; omega) (by clear hc hs hc' hs'; omega)
    obtain ⟨hw, hr, hj0⟩ := idx (j := j) (by clear hc hs hc' hs' ih hj hk hk10; omega)
    have hji : (j : Int) < 20 := by clear hc hs hc' hs' ih hj hk hk10 hw hr; omega
    clear hj hk
    have b1 := hB j
    have b2 := hB' j
    have b3 := hU j
    have b4 : bp m f st d u l n j ≤ bm m f st d u l n 11 := by
      by_cases h11 : j < 11
      · exact bm_up m f st d u l n j 11 h11
      · rw [bp_top m f st d u l n (Nat.le_trans (by decide) (Nat.le_of_not_lt h11))]; exact hM.2.1
    have hfl : fl m f st d u l n (j + 1) = (if fl m f st d u l n j = true then true else bp m f st d u l n j == bm m f st d u l n 11) := rfl
    rw [hfl] at ih
    have hbeq : ((i * m + bp m f st d u l n j) == (i * m + bm m f st d u l n 11)) = (bp m f st d u l n j == bm m f st d u l n 11) := by
      clear hc hs hc' hs' ih
      by_cases h : bp m f st d u l n j = bm m f st d u l n 11
      · rw [h]; simp
      · rw [beq_false_of_ne h]; exact beq_false_of_ne (by omega)
    have b12 := b1.2.1
    have b22 := b2.2.2
    have hM3 := hM.2.2
    clear hB hB' hU b1 b2 hM
    simp only [Lw.l0]
    rw [if_pos hji, hr, cworst_eq k hk10 _ _ _ _ _ _ _ _ _ _ _ hj0, cworst_eq k hk10 _ _ _ _ _ _ _ _ _ _ _ hj0, if_pos hc, if_pos hs, if_pos hc', if_pos hs']
    simp only [Option.bind_some, if_true, Int.toNat_natCast, hw, e1]
    rw [if_neg (by clear hc hs hc' hs' ih hw hr; omega), if_neg (by clear hc hs hc' hs' ih hw hr; omega), if_neg (by clear hc hs hc' hs' ih hw hr; omega), if_neg (by clear hc hs hc' hs' ih hw hr; omega), hbeq]
    cases hb : fl m f st d u l n j with
    | true => rw [hb] at ih; exact ih
    | false => rw [hb] at ih; exact ih
theorem CostRises : ∀ (a0_0 : Int) (a0_1 : Int) (a0_2 : Int) (a0_3 : Int) (a0_4 : Int) (a0_5 : Int) (a1_0 : Int) (a1_1 : Int) (a1_2 : Int) (a1_3 : Int) (a2_0 : Int) (a2_1 : Int) (a2_2 : Int) (a2_3 : Int) (a2_4 : Int) (a2_5 : Int) (a2_6 : Int), (Lit.int .u64 a0_0).wf = true → (Lit.int .u64 a0_1).wf = true → (Lit.int .u64 a0_2).wf = true → (Lit.int .u64 a0_3).wf = true → (Lit.int .u64 a0_4).wf = true → (Lit.int .u64 a0_5).wf = true → (Lit.int .i64 a1_0).wf = true → (Lit.int .i64 a1_1).wf = true → (Lit.int .i64 a1_2).wf = true → (Lit.int .i64 a1_3).wf = true → (Lit.int .u64 a2_0).wf = true → (Lit.int .u64 a2_1).wf = true → (Lit.int .u64 a2_2).wf = true → (Lit.int .u64 a2_3).wf = true → (Lit.int .i64 a2_4).wf = true → (Lit.int .i64 a2_5).wf = true → (Lit.int .i64 a2_6).wf = true → ∃ k, Lw.f k a0_0 a0_1 a0_2 a0_3 a0_4 a0_5 a1_0 a1_1 a1_2 a1_3 a2_0 a2_1 a2_2 a2_3 a2_4 a2_5 a2_6 = some true := by
  intro a b m f st d i u l n g0 g1 g2 g3 g4 g5 g6 _ _ _ _ _ _ _ _ _ _ k0 k1 k2 k3 k4 k5 k6
  have hv : ∀ x : Int, (Lit.int .u64 x).wf = true → 0 ≤ x := fun x h => of_u64 h
  refine ⟨100, ?_⟩
  unfold Lw.f
  rw [works_true 100 (by omega), cmost_eq 100 (by omega)]
  simp only [Option.bind_some, if_true]
  by_cases hc : okc a b m f st d
  · by_cases hs : oks i u l n
    · rw [if_pos hc, if_pos hs]
      simp only [if_true]
      have h1 := hc
      obtain ⟨c0, c1, c2, c3, c4, c5, c6⟩ := h1
      obtain ⟨s1, s2, s3⟩ := hs.2
      have hmx : ∀ x : Int, 0 ≤ IntKind.u64.wrap (mx 0 x) := by intro x; rw [IntKind.wrap_u64]; omega
      obtain ⟨t0, q0, r0, v0⟩ := up_eq (a := m) (top := 65536) (b := g0) (by omega) (by omega) (hv _ k0)
      obtain ⟨t1, q1, r1, v1⟩ := up_eq (a := f) (top := 65536) (b := g1) (by omega) (by omega) (hv _ k1)
      obtain ⟨t2, q2, r2, v2⟩ := up_eq (a := st) (top := 65536) (b := g2) (by omega) (by omega) (hv _ k2)
      obtain ⟨t3, q3, r3, v3⟩ := up_eq (a := d) (top := 65536) (b := g3) (by omega) (by omega) (hv _ k3)
      obtain ⟨t4, q4, r4, v4⟩ := up_eq (a := u) (top := 4096) (b := IntKind.u64.wrap (mx 0 g4)) (by omega) (by omega) (hmx g4)
      obtain ⟨t5, q5, r5, v5⟩ := up_eq (a := l) (top := 5120) (b := IntKind.u64.wrap (mx 0 g5)) (by omega) (by omega) (hmx g5)
      obtain ⟨t6, q6, r6, v6⟩ := up_eq (a := n) (top := 4096) (b := IntKind.u64.wrap (mx 0 g6)) (by omega) (by omega) (hmx g6)
      rw [wrap_in (x := u) (by omega) (by omega), wrap_in (x := l) (by omega) (by omega), wrap_in (x := n) (by omega) (by omega), q0, q1, q2, q3, q4, q5, q6]
      have w4 : wrap64 t4 = t4 := by clear hc hs; unfold wrap64; omega
      have w5 : wrap64 t5 = t5 := by clear hc hs; unfold wrap64; omega
      have w6 : wrap64 t6 = t6 := by clear hc hs; unfold wrap64; omega
      simp only [Option.bind_some, w4, w5, w6]
      have hc' : okc a b t0 t1 t2 t3 := ⟨c0, c1, by omega, by omega, ⟨by omega, by omega⟩, ⟨by omega, by omega⟩, ⟨by omega, by omega⟩⟩
      have hs' : oks i t4 t5 t6 := ⟨hs.1, ⟨by omega, by omega⟩, ⟨by omega, by omega⟩, ⟨by omega, by omega⟩⟩
      exact rises_l0 hc hs hc' hs' r0 r1 r2 r3 r4 r5 r6 20 100 0 (by omega) (by omega)
    · rw [if_pos hc, if_neg hs]; rfl
  · rw [if_neg hc]; rfl
end Go.Proofs.Ytpodcbaechlejaa.Pure
