/- Contracts of entry.Make and the reference's Make: both come to the word 'Mk' and the error 'Chk', whatever the entry. -/
import Derived.Test.YtfhiboibfhjmpaaC1
namespace Go.Proofs.Ytfhiboibfhjmpaa.H
open Go.RowKit Go.Proofs.YtfhiboibfhjmpaaW.PrintWords Go.Proofs.YtfhiboibfhjmpaaW.PrintLast Go.Proofs.YtfhiboibfhjmpaaW.PrintMore
set_option linter.unusedVariables false
set_option linter.unusedSimpArgs false
def bt (b : Bool) (v : Int) : Int := if b = true then v else 0
def part (a0 a1 a2 a3 a4 a5 : Bool) : Nat → Int
  | 0 => 0 | 1 => bt a0 1 | 2 => bt a0 1 + bt a1 2 | 3 => bt a0 1 + bt a1 2 + bt a2 4 | 4 => bt a0 1 + bt a1 2 + bt a2 4 + bt a3 8 | 5 => bt a0 1 + bt a1 2 + bt a2 4 + bt a3 8 + bt a4 16
  | _ => bt a0 1 + bt a1 2 + bt a2 4 + bt a3 8 + bt a4 16 + bt a5 32
theorem Chk_or (a0 a1 a2 a3 a4 a5 : Bool) (a6 : Int) : Chk a0 a1 a2 a3 a4 a5 a6 = 0 ∨ Chk a0 a1 a2 a3 a4 a5 a6 = 70 := by
  unfold Chk
  by_cases h : (a0 = false ∧ a1 = false ∧ a2 = false ∧ a3 = false ∧ a4 = false ∧ a5 = false ∧ a6 = 0)
  · rw [if_pos h]; exact .inl rfl
  · rw [if_neg h]
    by_cases h2 : a0 = a1 ∨ a6 < 0 ∨ a6 > (if a1 = true then 1023 else 4095) ∨ (a3 = true ∧ a2 = false) ∨ (a1 = true ∧ (a4 = true ∨ a5 = true))
    · rw [if_pos h2]; exact .inr rfl
    · rw [if_neg h2]; exact .inl rfl
theorem Chk_range {a0 a1 a2 a3 a4 a5 : Bool} {a6 : Int} (h : Chk a0 a1 a2 a3 a4 a5 a6 = 0) : 0 ≤ a6 ∧ a6 ≤ 4095 := by
  unfold Chk at h
  by_cases h1 : (a0 = false ∧ a1 = false ∧ a2 = false ∧ a3 = false ∧ a4 = false ∧ a5 = false ∧ a6 = 0)
  · omega
  · rw [if_neg h1] at h
    by_cases h2 : a0 = a1 ∨ a6 < 0 ∨ a6 > (if a1 = true then 1023 else 4095) ∨ (a3 = true ∧ a2 = false) ∨ (a1 = true ∧ (a4 = true ∨ a5 = true))
    · rw [if_pos h2] at h; omega
    · simp only [not_or] at h2
      obtain ⟨_, h3, h4, _⟩ := h2
      split at h4 <;> omega
def Mk (a0 a1 a2 a3 a4 a5 : Bool) (a6 : Int) : Int := if Chk a0 a1 a2 a3 a4 a5 a6 = 0 then a6 * 256 + part a0 a1 a2 a3 a4 a5 6 else 0
theorem bt_le (b : Bool) {v : Int} (h : 0 ≤ v) : 0 ≤ bt b v ∧ bt b v ≤ v := by unfold bt; split <;> omega
theorem or_nat (j hi lo : Nat) (hj : j ≤ 7) (hh : hi % 256 = 0) (hl : lo < 2 ^ j) : (hi + lo) ||| 2 ^ j = hi + lo + 2 ^ j := by
  have hp : 2 ^ j ≤ 128 := Nat.pow_le_pow_right (n := 2) (by decide) hj
  have h1 := nat_join 8 hi lo (by simpa using hh) (by omega)
  have h2 := nat_join j (2 ^ j) lo (by simp) hl
  have h3 := nat_join 8 hi (2 ^ j + lo) (by simpa using hh) (by omega)
  rw [← h1, Nat.or_assoc, Nat.or_comm lo, h2, h3, h1]; omega
theorem or_int (j : Nat) (a6 lo y : Int) (hj : j ≤ 7) (ha : 0 ≤ a6) (hb : a6 ≤ 4095) (h0 : 0 ≤ lo) (h1 : lo < 2 ^ j) (hy : y = 2 ^ j) : bits .or .u64 (a6 * 256 + lo) y = a6 * 256 + lo + y := by
  obtain ⟨a, rfl⟩ := Int.eq_ofNat_of_zero_le ha
  obtain ⟨l, rfl⟩ := Int.eq_ofNat_of_zero_le h0
  have hp : (2 : Nat) ^ j ≤ 128 := Nat.pow_le_pow_right (n := 2) (by decide) hj
  have hy' : y = ((2 ^ j : Nat) : Int) := by rw [hy]; simp
  have hl : l < 2 ^ j := by have : ((l : Nat) : Int) < ((2 ^ j : Nat) : Int) := by simpa using h1
                            omega
  subst hy'
  have e : ((a : Int) * 256 + (l : Int)) = ((a * 256 + l : Nat) : Int) := by omega
  rw [e, u64_or_nat _ _ (by omega) (by omega), or_nat j (a * 256) l hj (by omega) hl]
  omega
theorem u64_val {a b : Int} (h : a = b) : Value.int .u64 a = Value.int .u64 b := by rw [h]
set_option maxHeartbeats 4000000 in
set_option maxRecDepth 100000 in
theorem entry_Make (a0 a1 a2 a3 a4 a5 : Bool) (a6 : Int) (w : World) :
    Calls Try.prog 7 #[.agg #[.bool a0, .bool a1, .bool a2, .bool a3, .bool a4, .bool a5, .int .i64 a6]] w fun e w' => e = .returned (.tuple #[.int .u64 (Mk a0 a1 a2 a3 a4 a5 a6), .int .i64 (Chk a0 a1 a2 a3 a4 a5 a6)]) ∧ Below w.heap.size w w' := by
  have hu23 := Try.underlying23
  have i0 : ∀ w : World, (Instr.index 39 (.agg #[.bool a0, .bool a1, .bool a2, .bool a3, .bool a4, .bool a5]) (.int .i64 0)).run Try.prog w = .ok (.bool a0) w := fun _ => by kernel_rfl
  have i1 : ∀ w : World, (Instr.index 39 (.agg #[.bool a0, .bool a1, .bool a2, .bool a3, .bool a4, .bool a5]) (.int .i64 1)).run Try.prog w = .ok (.bool a1) w := fun _ => by kernel_rfl
  have i2 : ∀ w : World, (Instr.index 39 (.agg #[.bool a0, .bool a1, .bool a2, .bool a3, .bool a4, .bool a5]) (.int .i64 2)).run Try.prog w = .ok (.bool a2) w := fun _ => by kernel_rfl
  have i3 : ∀ w : World, (Instr.index 39 (.agg #[.bool a0, .bool a1, .bool a2, .bool a3, .bool a4, .bool a5]) (.int .i64 3)).run Try.prog w = .ok (.bool a3) w := fun _ => by kernel_rfl
  have i4 : ∀ w : World, (Instr.index 39 (.agg #[.bool a0, .bool a1, .bool a2, .bool a3, .bool a4, .bool a5]) (.int .i64 4)).run Try.prog w = .ok (.bool a4) w := fun _ => by kernel_rfl
  have i5 : ∀ w : World, (Instr.index 39 (.agg #[.bool a0, .bool a1, .bool a2, .bool a3, .bool a4, .bool a5]) (.int .i64 5)).run Try.prog w = .ok (.bool a5) w := fun _ => by kernel_rfl
  have b0 := bt_le a0 (v := 1) (by omega)
  have b1 := bt_le a1 (v := 2) (by omega)
  have b2 := bt_le a2 (v := 4) (by omega)
  have b3 := bt_le a3 (v := 8) (by omega)
  have b4 := bt_le a4 (v := 16) (by omega)
  have b5 := bt_le a5 (v := 32) (by omega)
  have b := Aside0.mk (And.intro b0 (And.intro b1 (And.intro b2 (And.intro b3 (And.intro b4 b5)))))
  clear b0 b1 b2 b3 b4 b5
  by_cases hz : Chk a0 a1 a2 a3 a4 a5 a6 = 0
  · have hm : Mk a0 a1 a2 a3 a4 a5 a6 = a6 * 256 + part a0 a1 a2 a3 a4 a5 6 := by unfold Mk; rw [if_pos hz]
    obtain ⟨ra, rb⟩ := Chk_range hz
    rw [hz, hm]
    have hz' := Aside0.mk hz
    clear hz hm
    go_enter Try.func7, Try.ntmps7
    go_wp2_with (go_at_call 9; refine (entry_Check _ _ _ _ _ _ _ _).mono ?_; rintro e w1 ⟨rfl, hb⟩; rw [hz'.out]; obtain ⟨hc, hf⟩ := bcell hb)
    go_loop [5, 30] (fun v i => ∃ k : Nat, k ≤ 6 ∧ i = .int .i64 k ∧ Aside0 (v = .int .u64 (a6 * 256 + part a0 a1 a2 a3 a4 a5 k))) (fun _ i => 6 - (intOf i).toNat)
    case atStart => exact ⟨0, Nat.zero_le _, rfl, ⟨by simp [part]⟩⟩
    case round =>
      obtain ⟨k, hk, rfl, hv⟩ := hrel
      have hbel := Aside0.mk (below_then (below_alloc (Below.refl w.heap.size w) (.cells #[.bool a0, .bool a1, .bool a2, .bool a3, .bool a4, .bool a5, .int .i64 a6] 23)) (by simp) hb)
      clear hb hc hf
      have hk5 : k = 0 ∨ k = 1 ∨ k = 2 ∨ k = 3 ∨ k = 4 ∨ k = 5 ∨ k = 6 := by omega
      rcases hk5 with rfl | rfl | rfl | rfl | rfl | rfl | rfl
      · obtain rfl := hv.out
        cases a0 <;> go_wp2 <;> refine ⟨⟨1, by omega, rfl, ⟨u64_val ?_⟩⟩, by simp [intOf]⟩
        · simp [part, bt]
        · rw [or_int 0 a6 _ 1 (by omega) ra rb (by simp [part]) (by simp [part]) (by decide)]; simp [part, bt]
      · obtain rfl := hv.out
        cases a1 <;> go_wp2 <;> refine ⟨⟨2, by omega, rfl, ⟨u64_val ?_⟩⟩, by simp [intOf]⟩
        · simp [part, bt]
        · have := b.out
          rw [or_int 1 a6 _ 2 (by omega) ra rb (by simp [part]; omega) (by simp [part]; omega) (by decide)]; simp [part, bt]; try omega
      · obtain rfl := hv.out
        cases a2 <;> go_wp2 <;> refine ⟨⟨3, by omega, rfl, ⟨u64_val ?_⟩⟩, by simp [intOf]⟩
        · simp [part, bt]
        · have := b.out
          rw [or_int 2 a6 _ 4 (by omega) ra rb (by simp [part]; omega) (by simp [part]; omega) (by decide)]; simp [part, bt]; try omega
      · obtain rfl := hv.out
        cases a3 <;> go_wp2 <;> refine ⟨⟨4, by omega, rfl, ⟨u64_val ?_⟩⟩, by simp [intOf]⟩
        · simp [part, bt]
        · have := b.out
          rw [or_int 3 a6 _ 8 (by omega) ra rb (by simp [part]; omega) (by simp [part]; omega) (by decide)]; simp [part, bt]; try omega
      · obtain rfl := hv.out
        cases a4 <;> go_wp2 <;> refine ⟨⟨5, by omega, rfl, ⟨u64_val ?_⟩⟩, by simp [intOf]⟩
        · simp [part, bt]
        · have := b.out
          rw [or_int 4 a6 _ 16 (by omega) ra rb (by simp [part]; omega) (by simp [part]; omega) (by decide)]; simp [part, bt]; try omega
      · obtain rfl := hv.out
        cases a5 <;> go_wp2 <;> refine ⟨⟨6, by omega, rfl, ⟨u64_val ?_⟩⟩, by simp [intOf]⟩
        · simp [part, bt]
        · have := b.out
          rw [or_int 5 a6 _ 32 (by omega) ra rb (by simp [part]; omega) (by simp [part]; omega) (by decide)]; simp [part, bt]; try omega
      · obtain rfl := hv.out
        go_wp2
        go_ret2
        exact ⟨rfl, hbel.out⟩
  · have hm : Mk a0 a1 a2 a3 a4 a5 a6 = 0 := by unfold Mk; rw [if_neg hz]
    have hb : (Chk a0 a1 a2 a3 a4 a5 a6 != 0) = true := by rw [bne_iff_ne]; exact hz
    rw [hm]
    clear hm hz
    go_enter Try.func7, Try.ntmps7
    go_wp2_with (go_at_call 9; refine (entry_Check _ _ _ _ _ _ _ _).mono ?_; rintro e w1 ⟨rfl, hb⟩; obtain ⟨hc, hf⟩ := bcell hb)
    go_ret2
    exact ⟨rfl, below_then (below_alloc (Below.refl w.heap.size w) _) (by simp) (by assumption)⟩
theorem bit_any (b : Bool) (n : Int) (w : World) (h0 : 0 ≤ n) (h1 : n ≤ 5) : Calls Try.prog 16 #[.bool b, .int .u64 n] w fun e w' => e = .returned (.int .u64 (bt b (2 ^ n.toNat))) ∧ w = w' := by
  have hk5 : n = 0 ∨ n = 1 ∨ n = 2 ∨ n = 3 ∨ n = 4 ∨ n = 5 := by omega
  rcases hk5 with rfl | rfl | rfl | rfl | rfl | rfl <;> cases b <;> (go_enter Try.func16, Try.ntmps16; go_wp2; go_ret; exact ⟨by simp [bt], rfl⟩)
end Go.Proofs.Ytfhiboibfhjmpaa.H
