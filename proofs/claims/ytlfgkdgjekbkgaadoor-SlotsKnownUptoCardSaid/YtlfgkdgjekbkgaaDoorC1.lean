/- Bits of words: trailing zeros, ones, the words that hold a list of bools. Plain. -/
import Derived.Lib.TrailingZeros
import Derived.Laws.BitsAllLaws
namespace Go.Proofs.YtlfgkdgjekbkgaaDoor.H
set_option linter.unusedVariables false
set_option linter.unusedSimpArgs false
/-- The lowest bit that is set: where it stands, and the word without it. -/
theorem ctz_spec (x : Nat) (h0 : x ≠ 0) (h : x < 18446744073709551616) : Lib.ctz 64 x < 64 ∧ x.testBit (Lib.ctz 64 x) = true ∧ (∀ k, k < Lib.ctz 64 x → x.testBit k = false) ∧ ∀ k, (x &&& (x - 1)).testBit k = (x.testBit k && decide (k ≠ Lib.ctz 64 x)) := by
  have h' : x < 2 ^ 64 := by simpa using h
  obtain ⟨m, hm, hk⟩ := Lib.ctzFrom_spec 64 x (by omega) h'
  have e : Lib.ctz 64 x = Lib.ctzFrom 64 x := by simp [Lib.ctz, h0]
  rw [e]
  generalize Lib.ctzFrom 64 x = t at hm hk
  have hp : 0 < 2 ^ t := Nat.two_pow_pos t
  have hx1 : x - 1 = 2 ^ t * (2 * m) + (2 ^ t - 1) := by
    rw [hm, Nat.mul_add, Nat.mul_one]; omega
  have hb : ∀ k, x.testBit k = if k < t then false else (2 * m + 1).testBit (k - t) := by
    intro k
    rw [hm, Nat.mul_comm, Nat.testBit_mul_two_pow]
    by_cases hkt : k < t
    · rw [if_pos hkt]; simp; omega
    · rw [if_neg hkt]; simp; omega
  have hb1 : ∀ k, (x - 1).testBit k = if k < t then true else (2 * m).testBit (k - t) := by
    intro k
    rw [hx1, Nat.testBit_two_pow_mul_add _ (by omega)]
    by_cases hkt : k < t
    · rw [if_pos hkt, if_pos hkt, Nat.testBit_two_pow_sub_one]; simp [hkt]
    · rw [if_neg hkt, if_neg hkt]
  refine ⟨hk, ?_, fun k hkt => ?_, fun k => ?_⟩
  · rw [hb, if_neg (by omega)]; simp
  · rw [hb, if_pos hkt]
  · rw [Nat.testBit_and, hb, hb1]
    by_cases hkt : k < t
    · rw [if_pos hkt, if_pos hkt]; simp
    · rw [if_neg hkt, if_neg hkt]
      by_cases he : k = t
      · subst he; simp
      · obtain ⟨j, hj⟩ : ∃ j, k - t = j + 1 := ⟨k - t - 1, by omega⟩
        rw [hj, Nat.testBit_succ, Nat.testBit_succ]
        have e1 : (2 * m + 1) / 2 = m := by omega
        have e2 : (2 * m) / 2 = m := by omega
        rw [e1, e2]
        simp [he]
theorem ctz_zero : Lib.ctz 64 0 = 64 := rfl
/-! ### How many bits are set -/
def rp (u : Nat) : Nat → Nat
  | 0 => 0
  | n + 1 => u + 256 * rp u n
def ev : List Nat → Nat
  | [] => 0
  | a :: l => a + 256 * ev l
theorem and_split (a b c d : Nat) (ha : a < 256) (hc : c < 256) : (a + 256 * b) &&& (c + 256 * d) = (a &&& c) + 256 * (b &&& d) := by
  have h1 : ((a + 256 * b) &&& (c + 256 * d)) / 2 ^ 8 = b &&& d := by
    rw [Nat.and_div_two_pow]
    congr 1 <;> omega
  have h2 : ((a + 256 * b) &&& (c + 256 * d)) % 2 ^ 8 = a &&& c := by
    rw [Nat.and_mod_two_pow]
    have e1 : (a + 256 * b) % 2 ^ 8 = a := by omega
    have e2 : (c + 256 * d) % 2 ^ 8 = c := by omega
    rw [e1, e2]
  have := Nat.div_add_mod ((a + 256 * b) &&& (c + 256 * d)) (2 ^ 8)
  rw [h1, h2] at this
  omega
def e1 (a : Nat) : Nat := (a / 2 &&& 85) + (a &&& 85)
def e2 (a : Nat) : Nat := (a / 4 &&& 51) + (a &&& 51)
def e3 (a : Nat) : Nat := (a / 16 + a) &&& 15
theorem e1_lt : ∀ a, a < 256 → e1 a < 256 := by decide +kernel
theorem e2_of : ∀ a, a < 256 → e2 (e1 a) % 16 ≤ 4 ∧ e2 (e1 a) / 16 ≤ 4 := by decide +kernel
theorem e1_in : ∀ a, a < 256 → ∀ b, b < 2 → (a / 2 + 128 * b) &&& 85 = a / 2 &&& 85 := by decide +kernel
theorem e2_in : ∀ a, a < 256 → ∀ b, b < 4 → (a / 4 + 64 * b) &&& 51 = a / 4 &&& 51 := by decide +kernel
theorem e_all : ∀ a, a < 256 → e3 (e2 (e1 a)) = (List.range 8).countP (fun k => a.testBit k) := by decide +kernel
theorem step1 : ∀ l : List Nat, (∀ a ∈ l, a < 256) → (ev l / 2 &&& rp 85 l.length) + (ev l &&& rp 85 l.length) = ev (l.map e1)
  | [], _ => rfl
  | a :: l, h => by
    have ha : a < 256 := h a (by simp)
    have ih := step1 l (fun b hb => h b (by simp [hb]))
    simp only [List.map_cons, List.length_cons, ev, rp]
    have hd : (a + 256 * ev l) / 2 = (a / 2 + 128 * (ev l % 2)) + 256 * (ev l / 2) := by omega
    rw [hd, and_split _ _ _ _ (by omega) (by omega), and_split _ _ _ _ ha (by omega), e1_in a ha _ (by omega), ← ih]
    unfold e1
    omega
theorem step2 : ∀ l : List Nat, (∀ a ∈ l, a < 256) → (ev l / 4 &&& rp 51 l.length) + (ev l &&& rp 51 l.length) = ev (l.map e2)
  | [], _ => rfl
  | a :: l, h => by
    have ha : a < 256 := h a (by simp)
    have ih := step2 l (fun b hb => h b (by simp [hb]))
    simp only [List.map_cons, List.length_cons, ev, rp]
    have hd : (a + 256 * ev l) / 4 = (a / 4 + 64 * (ev l % 4)) + 256 * (ev l / 4) := by omega
    rw [hd, and_split _ _ _ _ (by omega) (by omega), and_split _ _ _ _ ha (by omega), e2_in a ha _ (by omega), ← ih]
    unfold e2
    omega
theorem and15 (x : Nat) : x &&& 15 = x % 16 := Nat.and_two_pow_sub_one_eq_mod x 4
theorem step3 : ∀ l : List Nat, (∀ a ∈ l, a % 16 ≤ 4 ∧ a / 16 ≤ 4) → (ev l / 16 + ev l) &&& rp 15 l.length = ev (l.map e3)
  | [], _ => rfl
  | a :: l, h => by
    have ha := h a (by simp)
    have hb : ev l % 16 ≤ 4 := by
      cases l with
      | nil => simp [ev]
      | cons b l =>
        have := h b (by simp)
        simp only [ev]
        omega
    have ih := step3 l (fun b hb => h b (by simp [hb]))
    simp only [List.map_cons, List.length_cons, ev, rp]
    have hd : (a + 256 * ev l) / 16 + (a + 256 * ev l) = (a / 16 + a + 16 * (ev l % 16)) + 256 * (ev l / 16 + ev l) := by omega
    rw [hd, and_split _ _ _ _ (by omega) (by omega), ih]
    have : (a / 16 + a + 16 * (ev l % 16)) &&& 15 = e3 a := by unfold e3; rw [and15, and15]; omega
    rw [this]
/-- How many bits below m are set. -/
def pcb (x m : Nat) : Nat := (List.range m).countP (fun k => x.testBit k)
theorem pcb_split (x m : Nat) : pcb x (8 + m) = pcb (x % 256) 8 + pcb (x / 256) m := by
  unfold pcb
  rw [List.range_add, List.countP_append, List.countP_map]
  congr 1
  · apply List.countP_congr
    intro k hk
    have hk8 : k < 8 := List.mem_range.1 hk
    have := Nat.testBit_mod_two_pow x 8 k
    simp only [show (2 ^ 8 : Nat) = 256 from rfl] at this
    rw [this]
    simp [hk8]
  · apply List.countP_congr
    intro k hk
    have := Nat.testBit_div_two_pow (n := 8) x k
    simp only [show (2 ^ 8 : Nat) = 256 from rfl] at this
    rw [this]
    simp [Nat.add_comm]
theorem pcb_zero (x : Nat) : pcb x 0 = 0 := rfl
theorem dv1 (a r : Nat) (h : a < 256) : (a + 256 * r) / 256 = r := by omega
theorem dv2 (a b r : Nat) (h : a < 256) (h' : b < 256) : (a + 256 * (b + 256 * r)) / 65536 = r := by omega
theorem dv4 (a b c d r : Nat) (h : a < 256) (h' : b < 256) (h2 : c < 256) (h3 : d < 256) : (a + 256 * (b + 256 * (c + 256 * (d + 256 * r)))) / 4294967296 = r := by omega
theorem ad (a b r q : Nat) : (a + 256 * r) + (b + 256 * q) = (a + b) + 256 * (r + q) := by omega
theorem ad0 (a r q : Nat) : (a + 256 * r) + q = (a + q) + 256 * r := by omega
theorem bd (a r B C : Nat) (ha : a ≤ C) (hr : r ≤ B) : a + 256 * r ≤ C + 256 * B := by omega
theorem md (a r : Nat) : (a + 256 * r) % 128 = a % 128 := by omega
theorem sum_bytes (d0 d1 d2 d3 d4 d5 d6 d7 : Nat) (h0 : d0 ≤ 8) (h1 : d1 ≤ 8) (h2 : d2 ≤ 8) (h3 : d3 ≤ 8) (h4 : d4 ≤ 8) (h5 : d5 ≤ 8) (h6 : d6 ≤ 8) (h7 : d7 ≤ 8) :
    let y := ev [d0, d1, d2, d3, d4, d5, d6, d7]
    y < 651061555542690057 ∧ (let a := y + y / 256; a < 2000000000000000000 ∧ (let b := a + a / 65536; b < 4000000000000000000 ∧ (b + b / 4294967296 < 9000000000000000000 ∧ (b + b / 4294967296) % 128 = d0 + d1 + d2 + d3 + d4 + d5 + d6 + d7))) := by
  simp only [ev]
  have hy : d0 + 256 * (d1 + 256 * (d2 + 256 * (d3 + 256 * (d4 + 256 * (d5 + 256 * (d6 + 256 * (d7 + 256 * 0))))))) ≤ 8 + 256 * (8 + 256 * (8 + 256 * (8 + 256 * (8 + 256 * (8 + 256 * (8 + 256 * (8 + 256 * 0))))))) :=
    bd _ _ _ _ h0 (bd _ _ _ _ h1 (bd _ _ _ _ h2 (bd _ _ _ _ h3 (bd _ _ _ _ h4 (bd _ _ _ _ h5 (bd _ _ _ _ h6 (bd _ _ _ _ h7 (Nat.le_refl _))))))))
  have hy2 : d0 + 256 * (d1 + 256 * (d2 + 256 * (d3 + 256 * (d4 + 256 * (d5 + 256 * (d6 + 256 * (d7 + 256 * 0))))))) < 651061555542690057 := Nat.lt_of_le_of_lt hy (by decide)
  have ha : d0 + 256 * (d1 + 256 * (d2 + 256 * (d3 + 256 * (d4 + 256 * (d5 + 256 * (d6 + 256 * (d7 + 256 * 0))))))) + (d0 + 256 * (d1 + 256 * (d2 + 256 * (d3 + 256 * (d4 + 256 * (d5 + 256 * (d6 + 256 * (d7 + 256 * 0)))))))) / 256 = (d0 + d1) + 256 * ((d1 + d2) + 256 * ((d2 + d3) + 256 * ((d3 + d4) + 256 * ((d4 + d5) + 256 * ((d5 + d6) + 256 * ((d6 + d7) + 256 * d7)))))) := by
    rw [dv1 d0 _ (Nat.lt_of_le_of_lt h0 (by decide)), ad, ad, ad, ad, ad, ad, ad, Nat.mul_zero]
    rfl
  have hp : ∀ a b, a ≤ 8 → b ≤ 8 → a + b ≤ 16 := fun a b h k => by omega
  have hq : ∀ a b, a ≤ 8 → b ≤ 8 → a + b < 256 := fun a b h k => by omega
  have hr : ∀ a b c d, a ≤ 8 → b ≤ 8 → c ≤ 8 → d ≤ 8 → a + b + (c + d) < 256 := fun a b c d h k i j => by omega
  have hs : ∀ a b c d, a ≤ 8 → b ≤ 8 → c ≤ 8 → d ≤ 8 → a + b + (c + d) ≤ 32 := fun a b c d h k i j => by omega
  have hA : (d0 + d1) + 256 * ((d1 + d2) + 256 * ((d2 + d3) + 256 * ((d3 + d4) + 256 * ((d4 + d5) + 256 * ((d5 + d6) + 256 * ((d6 + d7) + 256 * d7)))))) ≤ 16 + 256 * (16 + 256 * (16 + 256 * (16 + 256 * (16 + 256 * (16 + 256 * (16 + 256 * 8)))))) :=
    bd _ _ _ _ (hp _ _ h0 h1) (bd _ _ _ _ (hp _ _ h1 h2) (bd _ _ _ _ (hp _ _ h2 h3) (bd _ _ _ _ (hp _ _ h3 h4) (bd _ _ _ _ (hp _ _ h4 h5) (bd _ _ _ _ (hp _ _ h5 h6) (bd _ _ _ _ (hp _ _ h6 h7) h7))))))
  rw [ha]
  have hb : (d0 + d1) + 256 * ((d1 + d2) + 256 * ((d2 + d3) + 256 * ((d3 + d4) + 256 * ((d4 + d5) + 256 * ((d5 + d6) + 256 * ((d6 + d7) + 256 * d7)))))) + ((d0 + d1) + 256 * ((d1 + d2) + 256 * ((d2 + d3) + 256 * ((d3 + d4) + 256 * ((d4 + d5) + 256 * ((d5 + d6) + 256 * ((d6 + d7) + 256 * d7))))))) / 65536 = (d0 + d1 + (d2 + d3)) + 256 * ((d1 + d2 + (d3 + d4)) + 256 * ((d2 + d3 + (d4 + d5)) + 256 * ((d3 + d4 + (d5 + d6)) + 256 * ((d4 + d5 + (d6 + d7)) + 256 * ((d5 + d6 + d7) + 256 * ((d6 + d7) + 256 * d7)))))) := by
    rw [dv2 _ _ _ (hq _ _ h0 h1) (hq _ _ h1 h2), ad, ad, ad, ad, ad, ad0]
  rw [hb]
  have hB : (d0 + d1 + (d2 + d3)) + 256 * ((d1 + d2 + (d3 + d4)) + 256 * ((d2 + d3 + (d4 + d5)) + 256 * ((d3 + d4 + (d5 + d6)) + 256 * ((d4 + d5 + (d6 + d7)) + 256 * ((d5 + d6 + d7) + 256 * ((d6 + d7) + 256 * d7)))))) ≤ 32 + 256 * (32 + 256 * (32 + 256 * (32 + 256 * (32 + 256 * (24 + 256 * (16 + 256 * 8)))))) :=
    bd _ _ _ _ (hs _ _ _ _ h0 h1 h2 h3) (bd _ _ _ _ (hs _ _ _ _ h1 h2 h3 h4) (bd _ _ _ _ (hs _ _ _ _ h2 h3 h4 h5) (bd _ _ _ _ (hs _ _ _ _ h3 h4 h5 h6) (bd _ _ _ _ (hs _ _ _ _ h4 h5 h6 h7) (bd _ _ _ _ (by clear ha hb hy hy2 hA; omega) (bd _ _ _ _ (hp _ _ h6 h7) h7))))))
  have hB2 : (d0 + d1 + (d2 + d3)) + 256 * ((d1 + d2 + (d3 + d4)) + 256 * ((d2 + d3 + (d4 + d5)) + 256 * ((d3 + d4 + (d5 + d6)) + 256 * ((d4 + d5 + (d6 + d7)) + 256 * ((d5 + d6 + d7) + 256 * ((d6 + d7) + 256 * d7)))))) < 4000000000000000000 := Nat.lt_of_le_of_lt hB (by decide)
  refine ⟨hy2, Nat.lt_of_le_of_lt hA (by decide), hB2, ?_, ?_⟩
  · clear ha hb hy hy2 hA hB
    generalize (d0 + d1 + (d2 + d3)) + 256 * ((d1 + d2 + (d3 + d4)) + 256 * ((d2 + d3 + (d4 + d5)) + 256 * ((d3 + d4 + (d5 + d6)) + 256 * ((d4 + d5 + (d6 + d7)) + 256 * ((d5 + d6 + d7) + 256 * ((d6 + d7) + 256 * d7)))))) = Y at hB2
    omega
  · rw [dv4 _ _ _ _ _ (hr _ _ _ _ h0 h1 h2 h3) (hr _ _ _ _ h1 h2 h3 h4) (hr _ _ _ _ h2 h3 h4 h5) (hr _ _ _ _ h3 h4 h5 h6), ad, md]
    clear ha hb hy hy2 hA hB hB2
    omega
theorem pcb_le (x m : Nat) : pcb x m ≤ m := by
  unfold pcb
  have := List.countP_le_length (p := fun k => x.testBit k) (l := List.range m)
  simpa using this
theorem pcb_bytes (x : Nat) (hx : x < 18446744073709551616) : ∃ l : List Nat, l.length = 8 ∧ (∀ a ∈ l, a < 256) ∧ ev l = x ∧ (l.map (fun a => pcb a 8)).sum = pcb x 64 := by
  refine ⟨[x % 256, x / 256 % 256, x / 256 / 256 % 256, x / 256 / 256 / 256 % 256, x / 256 / 256 / 256 / 256 % 256, x / 256 / 256 / 256 / 256 / 256 % 256, x / 256 / 256 / 256 / 256 / 256 / 256 % 256, x / 256 / 256 / 256 / 256 / 256 / 256 / 256], rfl, ?_, ?_, ?_⟩
  · intro a ha
    simp only [List.mem_cons, List.not_mem_nil, or_false] at ha
    omega
  · simp only [ev, Nat.mul_zero, Nat.add_zero, Nat.mod_add_div]
  · have e : pcb x 64 = pcb x (8 + (8 + (8 + (8 + (8 + (8 + (8 + (8 + 0)))))))) := rfl
    rw [e, pcb_split, pcb_split, pcb_split, pcb_split, pcb_split, pcb_split, pcb_split, pcb_split, pcb_zero]
    have hm : x / 256 / 256 / 256 / 256 / 256 / 256 / 256 % 256 = x / 256 / 256 / 256 / 256 / 256 / 256 / 256 := by omega
    rw [hm]
    simp
theorem ev_le (m : Nat) : ∀ l : List Nat, (∀ a ∈ l, a ≤ m) → ev l ≤ rp m l.length
  | [], _ => Nat.le_refl _
  | a :: l, h => bd _ _ _ _ (h a (by simp)) (ev_le m l (fun b hb => h b (by simp [hb])))
/-- What the ten steps of bits.OnesCount64 come to. -/
theorem ones_nat (x : Nat) (hx : x < 18446744073709551616) :
    ∃ y1 y2 y3 : Nat, (x / 2 &&& 6148914691236517205) + (x &&& 6148914691236517205) = y1 ∧ y1 < 18446744073709551616 ∧ (y1 / 4 &&& 3689348814741910323) + (y1 &&& 3689348814741910323) = y2 ∧ y2 < 9223372036854775808 ∧
      y2 / 16 + y2 < 18446744073709551616 ∧ (y2 / 16 + y2) &&& 1085102592571150095 = y3 ∧ y3 < 651061555542690057 ∧ y3 + y3 / 256 < 2000000000000000000 ∧ (y3 + y3 / 256) + (y3 + y3 / 256) / 65536 < 4000000000000000000 ∧
      ((y3 + y3 / 256) + (y3 + y3 / 256) / 65536) + ((y3 + y3 / 256) + (y3 + y3 / 256) / 65536) / 4294967296 < 9000000000000000000 ∧ (((y3 + y3 / 256) + (y3 + y3 / 256) / 65536) + ((y3 + y3 / 256) + (y3 + y3 / 256) / 65536) / 4294967296) % 128 = pcb x 64 := by
  obtain ⟨l, hl, hlt, rfl, hs⟩ := pcb_bytes x hx
  have s1 := step1 l hlt
  rw [hl, show rp 85 8 = 6148914691236517205 from rfl] at s1
  have hlt1 : ∀ a ∈ l.map e1, a < 256 := by
    intro a ha
    obtain ⟨b, hb, rfl⟩ := List.mem_map.1 ha
    exact e1_lt b (hlt b hb)
  have s2 := step2 (l.map e1) hlt1
  rw [List.length_map, hl, show rp 51 8 = 3689348814741910323 from rfl] at s2
  have hlt2 : ∀ a ∈ (l.map e1).map e2, a % 16 ≤ 4 ∧ a / 16 ≤ 4 := by
    intro a ha
    obtain ⟨b, hb, rfl⟩ := List.mem_map.1 ha
    obtain ⟨c, hc, rfl⟩ := List.mem_map.1 hb
    exact e2_of c (hlt c hc)
  have s3 := step3 ((l.map e1).map e2) hlt2
  rw [List.length_map, List.length_map, hl, show rp 15 8 = 1085102592571150095 from rfl] at s3
  have he : ((l.map e1).map e2).map e3 = l.map (fun a => pcb a 8) := by
    rw [List.map_map, List.map_map]
    apply List.map_congr_left
    intro a ha
    exact e_all a (hlt a ha)
  rw [he] at s3
  have hev : ∀ l : List Nat, l.length = 8 → (∀ a ∈ l, a < 256) → ev l < 18446744073709551616 := fun l hl h => Nat.lt_of_le_of_lt (ev_le 255 l (fun a ha => by have := h a ha; omega)) (by rw [hl]; decide)
  have hev2 : ∀ l : List Nat, l.length = 8 → (∀ a ∈ l, a % 16 ≤ 4 ∧ a / 16 ≤ 4) → ev l < 9223372036854775808 := fun l hl h => Nat.lt_of_le_of_lt (ev_le 68 l (fun a ha => by have := h a ha; omega)) (by rw [hl]; decide)
  have hy2 := hev2 ((l.map e1).map e2) (by simp [hl]) hlt2
  refine ⟨ev (l.map e1), ev ((l.map e1).map e2), ev (l.map fun a => pcb a 8), s1, hev _ (by simp [hl]) hlt1, s2, hy2, by omega, s3, ?_⟩
  rw [← hs]
  clear s1 s2 s3 he hy2 hlt1 hlt2 hs hx hev hev2
  match l, hl with
  | [a, b, c, d, e, f, g, i], _ =>
    simp only [List.map_cons, List.map_nil, List.sum_cons, List.sum_nil]
    have := sum_bytes (pcb a 8) (pcb b 8) (pcb c 8) (pcb d 8) (pcb e 8) (pcb f 8) (pcb g 8) (pcb i 8) (pcb_le _ _) (pcb_le _ _) (pcb_le _ _) (pcb_le _ _) (pcb_le _ _) (pcb_le _ _) (pcb_le _ _) (pcb_le _ _)
    obtain ⟨h1, h2, h3, h4, h5⟩ := this
    exact ⟨h1, h2, h3, h4, by rw [h5]; omega⟩
/-! ### The words that hold a list of bools -/
def bn : List Bool → Nat
  | [] => 0
  | b :: l => b.toNat + 2 * bn l
def bt (T : List Bool) (k : Nat) : Bool := T.getD k false
/-- Word i of a list of bools. -/
def wd (T : List Bool) (i : Nat) : Nat := bn ((T.drop (64 * i)).take 64)
theorem bn_lt : ∀ l : List Bool, bn l < 2 ^ l.length
  | [] => by simp [bn]
  | b :: l => by
    have := bn_lt l
    simp only [bn, List.length_cons, Nat.pow_succ]
    cases b <;> simp <;> omega
theorem bn_bit : ∀ (l : List Bool) (k : Nat), (bn l).testBit k = l.getD k false
  | [], k => by simp [bn]
  | b :: l, 0 => by
    simp only [bn, Nat.testBit_zero]
    cases b <;> simp <;> omega
  | b :: l, k + 1 => by
    rw [Nat.testBit_succ]
    have e : bn (b :: l) / 2 = bn l := by simp only [bn]; cases b <;> simp <;> omega
    rw [e, bn_bit l k]
    simp
theorem wd_lt (T : List Bool) (i : Nat) : wd T i < 18446744073709551616 := by
  unfold wd
  have h := bn_lt ((T.drop (64 * i)).take 64)
  have h2 : 2 ^ ((T.drop (64 * i)).take 64).length ≤ 2 ^ 64 := Nat.pow_le_pow_right (by decide) (by rw [List.length_take]; omega)
  have : (2 : Nat) ^ 64 = 18446744073709551616 := rfl
  omega
theorem wd_bit (T : List Bool) (i k : Nat) : (wd T i).testBit k = (decide (k < 64) && bt T (64 * i + k)) := by
  unfold wd bt
  rw [bn_bit]
  by_cases h : k < 64
  · simp [List.getElem?_take, h, List.getElem?_drop]
  · simp [List.getElem?_take, h]
theorem bt_off {T : List Bool} {k : Nat} (h : T.length ≤ k) : bt T k = false := by simp [bt, h]
theorem bt_set (T : List Bool) (k j : Nat) (b : Bool) (h : k < T.length) : bt (T.set k b) j = if j = k then b else bt T j := by
  unfold bt
  by_cases e : j = k
  · subst e; simp [h]
  · rw [if_neg e]; simp [List.getElem?_set, Ne.symm e]
/-- A word in which a bit is set. -/
theorem wd_put (T : List Bool) (k i : Nat) (h : k < T.length) : wd (T.set k true) i = if i = k / 64 then wd T i ||| 2 ^ (k % 64) else wd T i := by
  apply Nat.eq_of_testBit_eq
  intro j
  rw [wd_bit, bt_set T k _ true h]
  by_cases e : i = k / 64
  · rw [if_pos e, Nat.testBit_or, wd_bit, Nat.testBit_two_pow]
    by_cases hj : j < 64
    · by_cases he : 64 * i + j = k
      · rw [if_pos he]
        have : k % 64 = j := by omega
        simp [hj, this]
      · rw [if_neg he]
        have : ¬ k % 64 = j := by omega
        simp [hj, this]
    · have : ¬ k % 64 = j := by omega
      simp [hj, this]
  · rw [if_neg e, wd_bit]
    by_cases hj : j < 64
    · rw [if_neg (by omega)]
    · simp [hj]
/-- A word in which a bit is cleared. -/
theorem wd_off (T : List Bool) (k i : Nat) (h : k < T.length) : wd (T.set k false) i = if i = k / 64 then wd T i &&& (18446744073709551615 - 2 ^ (k % 64)) else wd T i := by
  apply Nat.eq_of_testBit_eq
  intro j
  rw [wd_bit, bt_set T k _ false h]
  by_cases e : i = k / 64
  · have hp : 2 ^ (k % 64) < 2 ^ 64 := Nat.pow_lt_pow_right (by decide) (Nat.mod_lt _ (by decide))
    have hc : 18446744073709551615 - 2 ^ (k % 64) = 2 ^ 64 - (2 ^ (k % 64) + 1) := by omega
    rw [if_pos e, Nat.testBit_and, wd_bit, hc, Nat.testBit_two_pow_sub_succ hp, Nat.testBit_two_pow]
    by_cases hj : j < 64
    · by_cases he : 64 * i + j = k
      · rw [if_pos he]
        have : k % 64 = j := by omega
        simp [hj, this]
      · rw [if_neg he]
        have : ¬ k % 64 = j := by omega
        simp [hj, this]
    · simp [hj]
  · rw [if_neg e, wd_bit]
    by_cases hj : j < 64
    · rw [if_neg (by omega)]
    · simp [hj]
theorem wd_at (T : List Bool) (k : Nat) : wd T (k / 64) / 2 ^ (k % 64) % 2 = (bt T k).toNat := by
  have := wd_bit T (k / 64) (k % 64)
  rw [show 64 * (k / 64) + k % 64 = k by omega, Nat.testBit_eq_decide_div_mod_eq] at this
  have hk : k % 64 < 64 := Nat.mod_lt _ (by decide)
  simp only [hk, decide_true, Bool.true_and] at this
  cases hb : bt T k
  · rw [hb] at this; simp at this; simp; omega
  · rw [hb] at this; simp at this; simp; omega
/-- The complement. -/
theorem not_bit (x k : Nat) (hx : x < 18446744073709551616) (hk : k < 64) : (18446744073709551615 - x).testBit k = !x.testBit k := by
  have hc : 18446744073709551615 - x = 2 ^ 64 - (x + 1) := by omega
  rw [hc, Nat.testBit_two_pow_sub_succ (by omega)]
  simp [hk]
theorem not_zero (T : List Bool) (i : Nat) (h : 18446744073709551615 - wd T i = 0) : ∀ k, 64 * i ≤ k → k < 64 * (i + 1) → bt T k = true := by
  intro k h1 h2
  have := not_bit (wd T i) (k - 64 * i) (wd_lt T i) (by omega)
  rw [h, wd_bit, show 64 * i + (k - 64 * i) = k by omega] at this
  simpa [show k - 64 * i < 64 by omega] using this
theorem not_ctz (T : List Bool) (i : Nat) (h : 18446744073709551615 - wd T i ≠ 0) : Lib.ctz 64 (18446744073709551615 - wd T i) < 64 ∧ bt T (64 * i + Lib.ctz 64 (18446744073709551615 - wd T i)) = false ∧ ∀ k, 64 * i ≤ k → k < 64 * i + Lib.ctz 64 (18446744073709551615 - wd T i) → bt T k = true := by
  have hl := wd_lt T i
  obtain ⟨h1, h2, h3, _⟩ := ctz_spec (18446744073709551615 - wd T i) h (by omega)
  generalize Lib.ctz 64 (18446744073709551615 - wd T i) = t at h1 h2 h3
  refine ⟨h1, ?_, fun k hk1 hk2 => ?_⟩
  · rw [not_bit _ _ hl h1, wd_bit] at h2
    simpa [h1] using h2
  · have := h3 (k - 64 * i) (by omega)
    rw [not_bit _ _ hl (by omega), wd_bit, show 64 * i + (k - 64 * i) = k by omega] at this
    simpa [show k - 64 * i < 64 by omega] using this
/-! ### The first that is free -/
def fr (T : List Bool) : Nat := T.idxOf false
theorem fr_is : ∀ (T : List Bool) (a : Nat), (∀ k, k < a → bt T k = true) → bt T a = false → fr T = min a T.length
  | [], a, _, _ => by simp [fr]
  | b :: T, 0, _, h => by
    have : b = false := by simpa [bt] using h
    subst this
    simp [fr, List.idxOf_cons]
  | b :: T, a + 1, hk, h => by
    have hb : b = true := by simpa [bt] using hk 0 (by omega)
    subst hb
    have ih := fr_is T a (fun k hka => by simpa [bt] using hk (k + 1) (by omega)) (by simpa [bt] using h)
    unfold fr at ih ⊢
    rw [List.idxOf_cons]
    simp only [List.length_cons]
    have e : (true == false) = false := rfl
    rw [e]
    simp only [cond_false]
    omega
/-! ### Those that are taken -/
def U (T : List Bool) (k : Nat) : List Int := ((List.range k).filter (bt T)).map (fun i : Nat => (i : Int))
theorem U_zero (T : List Bool) : U T 0 = [] := rfl
theorem U_succ (T : List Bool) (k : Nat) : U T (k + 1) = if bt T k = true then U T k ++ [(k : Int)] else U T k := by
  unfold U
  rw [List.range_succ, List.filter_append, List.map_append]
  by_cases h : bt T k = true
  · simp [h]
  · simp [h]
theorem U_over (T : List Bool) : ∀ (d k : Nat), (∀ j, k ≤ j → j < k + d → bt T j = false) → U T (k + d) = U T k
  | 0, k, _ => rfl
  | d + 1, k, h => by
    rw [show k + (d + 1) = (k + d) + 1 by omega, U_succ, if_neg (by rw [h (k + d) (by omega) (by omega)]; decide), U_over T d k (fun j h1 h2 => h j h1 (by omega))]
theorem U_all (T : List Bool) (k : Nat) (h : T.length ≤ k) : U T k = U T T.length := by
  have := U_over T (k - T.length) T.length (fun j h1 _ => bt_off h1)
  rwa [show T.length + (k - T.length) = k by omega] at this
theorem U_len (T : List Bool) (k : Nat) : (U T k).length ≤ k := by
  unfold U
  have := List.length_filter_le (bt T) (List.range k)
  simpa using this
theorem U_word (T : List Bool) (i : Nat) : (U T (64 * (i + 1))).length = (U T (64 * i)).length + pcb (wd T i) 64 := by
  unfold U pcb
  rw [show 64 * (i + 1) = 64 * i + 64 by omega, List.range_add, List.filter_append]
  simp only [List.map_append, List.length_append, List.length_map]
  congr 1
  rw [← List.countP_eq_length_filter, List.countP_map]
  apply List.countP_congr
  intro k hk
  have hk64 : k < 64 := List.mem_range.1 hk
  rw [wd_bit]
  simp [hk64]
theorem U_mono (T : List Bool) {j k : Nat} (h : j ≤ k) : (U T j).length ≤ (U T k).length := by
  obtain ⟨d, rfl⟩ := Nat.exists_eq_add_of_le h
  induction d with
  | zero => exact Nat.le_refl _
  | succ d ih =>
    refine Nat.le_trans (ih (by omega)) ?_
    rw [show j + (d + 1) = (j + d) + 1 by omega, U_succ]
    split
    · simp
    · exact Nat.le_refl _
end Go.Proofs.YtlfgkdgjekbkgaaDoor.H
