/- The law CallKnown by its contracts. -/
import Derived.Test.YtklnenaiolclaaaC9
import Derived.Test.YtklnenaiolclaaaC7
namespace Go.Proofs.Ytklnenaiolclaaa.H
open Go.RowKit Go.Proofs.YtklnenaiolclaaaW.PrintWords Go.Proofs.YtklnenaiolclaaaW.PrintLast Go.Proofs.YtklnenaiolclaaaW.PrintMore
set_option linter.unusedVariables false
set_option linter.unusedSimpArgs false
attribute [local go_sem high] eqB26 eqB24
set_option maxHeartbeats 8000000
set_option maxRecDepth 100000
def wrongs : List C7 := [⟨1, 1, 0, 0, 0, 0, 0⟩, ⟨8, 0, 0, 0, 0, 0, 1⟩, ⟨0, 0, 0, 0, 0, 0, 0⟩, ⟨11, 0, 0, 0, 0, 0, 0⟩, ⟨2, (-1), 0, 0, 0, 0, 0⟩, ⟨2, 2147483648, 0, 0, 0, 0, 0⟩, ⟨4, 0, 2147483648, 0, 0, 0, 0⟩, ⟨4, 0, 0, (-1), 0, 0, 0⟩, ⟨5, 0, 0, 0, 1, 0, 0⟩, ⟨7, 0, 1, 0, 0, 0, 0⟩, ⟨7, 0, 0, 0, 0, 1, 0⟩, ⟨8, 0, 1, 0, 0, 0, 0⟩, ⟨10, 0, 0, 1, 0, 0, 0⟩, ⟨255, 0, 0, 0, 0, 0, 0⟩, ⟨9, 0, 0, 0, 3, 0, 0⟩]
def kw : Array Value := #[.int .u8 1, .int .i64 1, .int .i64 0, .int .i64 0, .int .u8 0, .int .u64 0, .int .u64 0, .int .u8 8, .int .i64 0, .int .i64 0, .int .i64 0, .int .u8 0, .int .u64 0, .int .u64 1, .int .u8 0, .int .i64 0, .int .i64 0, .int .i64 0, .int .u8 0, .int .u64 0, .int .u64 0, .int .u8 11, .int .i64 0, .int .i64 0, .int .i64 0, .int .u8 0, .int .u64 0, .int .u64 0, .int .u8 2, .int .i64 (-1), .int .i64 0, .int .i64 0, .int .u8 0, .int .u64 0, .int .u64 0, .int .u8 2, .int .i64 2147483648, .int .i64 0, .int .i64 0, .int .u8 0, .int .u64 0, .int .u64 0, .int .u8 4, .int .i64 0, .int .i64 2147483648, .int .i64 0, .int .u8 0, .int .u64 0, .int .u64 0, .int .u8 4, .int .i64 0, .int .i64 0, .int .i64 (-1), .int .u8 0, .int .u64 0, .int .u64 0, .int .u8 5, .int .i64 0, .int .i64 0, .int .i64 0, .int .u8 1, .int .u64 0, .int .u64 0, .int .u8 7, .int .i64 0, .int .i64 1, .int .i64 0, .int .u8 0, .int .u64 0, .int .u64 0, .int .u8 7, .int .i64 0, .int .i64 0, .int .i64 0, .int .u8 0, .int .u64 1, .int .u64 0, .int .u8 8, .int .i64 0, .int .i64 1, .int .i64 0, .int .u8 0, .int .u64 0, .int .u64 0, .int .u8 10, .int .i64 0, .int .i64 0, .int .i64 1, .int .u8 0, .int .u64 0, .int .u64 0, .int .u8 255, .int .i64 0, .int .i64 0, .int .i64 0, .int .u8 0, .int .u64 0, .int .u64 0, .int .u8 9, .int .i64 0, .int .i64 0, .int .i64 0, .int .u8 3, .int .u64 0, .int .u64 0]
structure R6 where
  x0 : Int
  x1 : Int
  x2 : Int
  x3 : Int
  x4 : Int
  x5 : Int
def nones : List R6 := [⟨0, 0, 0, 0, 0, 0⟩, ⟨11, 0, 0, 0, 0, 0⟩, ⟨257, 0, 0, 0, 0, 0⟩, ⟨1, 1, 0, 0, 0, 0⟩, ⟨2, 2147483648, 0, 0, 0, 0⟩, ⟨4, 3, 9, 2, 256, 0⟩, ⟨4, 3, 2147483648, 2, 3, 0⟩, ⟨4, 3, 9, 2147483648, 3, 0⟩, ⟨5, 0, 0, 0, 1, 0⟩, ⟨9, 0, 0, 0, 0, 1⟩, ⟨8, 0, 1, 1, 1, 0⟩, ⟨18446744073709551615, 0, 0, 0, 0, 0⟩, ⟨4294967297, 0, 0, 0, 0, 0⟩]
def kn : Array Value := #[.int .u64 0, .int .u64 0, .int .u64 0, .int .u64 0, .int .u64 0, .int .u64 0, .int .u64 11, .int .u64 0, .int .u64 0, .int .u64 0, .int .u64 0, .int .u64 0, .int .u64 257, .int .u64 0, .int .u64 0, .int .u64 0, .int .u64 0, .int .u64 0, .int .u64 1, .int .u64 1, .int .u64 0, .int .u64 0, .int .u64 0, .int .u64 0, .int .u64 2, .int .u64 2147483648, .int .u64 0, .int .u64 0, .int .u64 0, .int .u64 0, .int .u64 4, .int .u64 3, .int .u64 9, .int .u64 2, .int .u64 256, .int .u64 0, .int .u64 4, .int .u64 3, .int .u64 2147483648, .int .u64 2, .int .u64 3, .int .u64 0, .int .u64 4, .int .u64 3, .int .u64 9, .int .u64 2147483648, .int .u64 3, .int .u64 0, .int .u64 5, .int .u64 0, .int .u64 0, .int .u64 0, .int .u64 1, .int .u64 0, .int .u64 9, .int .u64 0, .int .u64 0, .int .u64 0, .int .u64 0, .int .u64 1, .int .u64 8, .int .u64 0, .int .u64 1, .int .u64 1, .int .u64 1, .int .u64 0, .int .u64 18446744073709551615, .int .u64 0, .int .u64 0, .int .u64 0, .int .u64 0, .int .u64 0, .int .u64 4294967297, .int .u64 0, .int .u64 0, .int .u64 0, .int .u64 0, .int .u64 0]
theorem wrongs_at : ∀ i, i < 15 → ∃ c, wrongs[i]? = some c ∧ enc c = none ∧ (0 ≤ c.k ∧ 0 ≤ c.a ∧ 0 ≤ c.v) ∧ kw[i * 7]? = some (.int .u8 c.k) ∧ kw[i * 7 + 1]? = some (.int .i64 c.p) ∧ kw[i * 7 + 2]? = some (.int .i64 c.g) ∧ kw[i * 7 + 3]? = some (.int .i64 c.n) ∧ kw[i * 7 + 4]? = some (.int .u8 c.m) ∧ kw[i * 7 + 5]? = some (.int .u64 c.a) ∧ kw[i * 7 + 6]? = some (.int .u64 c.v) := by
  intro i hi
  have h : i = 0 ∨ i = 1 ∨ i = 2 ∨ i = 3 ∨ i = 4 ∨ i = 5 ∨ i = 6 ∨ i = 7 ∨ i = 8 ∨ i = 9 ∨ i = 10 ∨ i = 11 ∨ i = 12 ∨ i = 13 ∨ i = 14 := by omega
  rcases h with rfl | rfl | rfl | rfl | rfl | rfl | rfl | rfl | rfl | rfl | rfl | rfl | rfl | rfl | rfl
  · exact ⟨⟨1, 1, 0, 0, 0, 0, 0⟩, rfl, by kernel_rfl, by decide, rfl, rfl, rfl, rfl, rfl, rfl, rfl⟩
  · exact ⟨⟨8, 0, 0, 0, 0, 0, 1⟩, rfl, by kernel_rfl, by decide, rfl, rfl, rfl, rfl, rfl, rfl, rfl⟩
  · exact ⟨⟨0, 0, 0, 0, 0, 0, 0⟩, rfl, by kernel_rfl, by decide, rfl, rfl, rfl, rfl, rfl, rfl, rfl⟩
  · exact ⟨⟨11, 0, 0, 0, 0, 0, 0⟩, rfl, by kernel_rfl, by decide, rfl, rfl, rfl, rfl, rfl, rfl, rfl⟩
  · exact ⟨⟨2, (-1), 0, 0, 0, 0, 0⟩, rfl, by kernel_rfl, by decide, rfl, rfl, rfl, rfl, rfl, rfl, rfl⟩
  · exact ⟨⟨2, 2147483648, 0, 0, 0, 0, 0⟩, rfl, by kernel_rfl, by decide, rfl, rfl, rfl, rfl, rfl, rfl, rfl⟩
  · exact ⟨⟨4, 0, 2147483648, 0, 0, 0, 0⟩, rfl, by kernel_rfl, by decide, rfl, rfl, rfl, rfl, rfl, rfl, rfl⟩
  · exact ⟨⟨4, 0, 0, (-1), 0, 0, 0⟩, rfl, by kernel_rfl, by decide, rfl, rfl, rfl, rfl, rfl, rfl, rfl⟩
  · exact ⟨⟨5, 0, 0, 0, 1, 0, 0⟩, rfl, by kernel_rfl, by decide, rfl, rfl, rfl, rfl, rfl, rfl, rfl⟩
  · exact ⟨⟨7, 0, 1, 0, 0, 0, 0⟩, rfl, by kernel_rfl, by decide, rfl, rfl, rfl, rfl, rfl, rfl, rfl⟩
  · exact ⟨⟨7, 0, 0, 0, 0, 1, 0⟩, rfl, by kernel_rfl, by decide, rfl, rfl, rfl, rfl, rfl, rfl, rfl⟩
  · exact ⟨⟨8, 0, 1, 0, 0, 0, 0⟩, rfl, by kernel_rfl, by decide, rfl, rfl, rfl, rfl, rfl, rfl, rfl⟩
  · exact ⟨⟨10, 0, 0, 1, 0, 0, 0⟩, rfl, by kernel_rfl, by decide, rfl, rfl, rfl, rfl, rfl, rfl, rfl⟩
  · exact ⟨⟨255, 0, 0, 0, 0, 0, 0⟩, rfl, by kernel_rfl, by decide, rfl, rfl, rfl, rfl, rfl, rfl, rfl⟩
  · exact ⟨⟨9, 0, 0, 0, 3, 0, 0⟩, rfl, by kernel_rfl, by decide, rfl, rfl, rfl, rfl, rfl, rfl, rfl⟩
theorem nones_at : ∀ i, i < 13 → ∃ r : R6, (dec r.x0 r.x1 r.x2 r.x3 r.x4 r.x5 = none) ∧ (0 ≤ r.x0 ∧ 0 ≤ r.x1 ∧ 0 ≤ r.x2 ∧ 0 ≤ r.x3 ∧ 0 ≤ r.x4 ∧ 0 ≤ r.x5) ∧ kn[i * 6]? = some (.int .u64 r.x0) ∧ kn[i * 6 + 1]? = some (.int .u64 r.x1) ∧ kn[i * 6 + 2]? = some (.int .u64 r.x2) ∧ kn[i * 6 + 3]? = some (.int .u64 r.x3) ∧ kn[i * 6 + 4]? = some (.int .u64 r.x4) ∧ kn[i * 6 + 5]? = some (.int .u64 r.x5) := by
  intro i hi
  have h : i = 0 ∨ i = 1 ∨ i = 2 ∨ i = 3 ∨ i = 4 ∨ i = 5 ∨ i = 6 ∨ i = 7 ∨ i = 8 ∨ i = 9 ∨ i = 10 ∨ i = 11 ∨ i = 12 := by omega
  rcases h with rfl | rfl | rfl | rfl | rfl | rfl | rfl | rfl | rfl | rfl | rfl | rfl | rfl
  · exact ⟨⟨0, 0, 0, 0, 0, 0⟩, by kernel_rfl, by decide, rfl, rfl, rfl, rfl, rfl, rfl⟩
  · exact ⟨⟨11, 0, 0, 0, 0, 0⟩, by kernel_rfl, by decide, rfl, rfl, rfl, rfl, rfl, rfl⟩
  · exact ⟨⟨257, 0, 0, 0, 0, 0⟩, by kernel_rfl, by decide, rfl, rfl, rfl, rfl, rfl, rfl⟩
  · exact ⟨⟨1, 1, 0, 0, 0, 0⟩, by kernel_rfl, by decide, rfl, rfl, rfl, rfl, rfl, rfl⟩
  · exact ⟨⟨2, 2147483648, 0, 0, 0, 0⟩, by kernel_rfl, by decide, rfl, rfl, rfl, rfl, rfl, rfl⟩
  · exact ⟨⟨4, 3, 9, 2, 256, 0⟩, by kernel_rfl, by decide, rfl, rfl, rfl, rfl, rfl, rfl⟩
  · exact ⟨⟨4, 3, 2147483648, 2, 3, 0⟩, by kernel_rfl, by decide, rfl, rfl, rfl, rfl, rfl, rfl⟩
  · exact ⟨⟨4, 3, 9, 2147483648, 3, 0⟩, by kernel_rfl, by decide, rfl, rfl, rfl, rfl, rfl, rfl⟩
  · exact ⟨⟨5, 0, 0, 0, 1, 0⟩, by kernel_rfl, by decide, rfl, rfl, rfl, rfl, rfl, rfl⟩
  · exact ⟨⟨9, 0, 0, 0, 0, 1⟩, by kernel_rfl, by decide, rfl, rfl, rfl, rfl, rfl, rfl⟩
  · exact ⟨⟨8, 0, 1, 1, 1, 0⟩, by kernel_rfl, by decide, rfl, rfl, rfl, rfl, rfl, rfl⟩
  · exact ⟨⟨18446744073709551615, 0, 0, 0, 0, 0⟩, by kernel_rfl, by decide, rfl, rfl, rfl, rfl, rfl, rfl⟩
  · exact ⟨⟨4294967297, 0, 0, 0, 0, 0⟩, by kernel_rfl, by decide, rfl, rfl, rfl, rfl, rfl, rfl⟩
theorem encS (c : C7) (x0 x1 x2 x3 x4 x5 : Int) (w : World) (h : enc c = some (raw x0 x1 x2 x3 x4 x5)) (hk : 0 ≤ c.k) (ha : 0 ≤ c.a) (hv : 0 ≤ c.v) : Calls Try.prog 16 #[.agg #[.int .u8 c.k, .int .i64 c.p, .int .i64 c.g, .int .i64 c.n, .int .u8 c.m, .int .u64 c.a, .int .u64 c.v]] w fun e w' => e = .returned (.tuple #[.agg #[.int .u64 x0, .int .u64 x1, .int .u64 x2, .int .u64 x3, .int .u64 x4, .int .u64 x5], .int .i64 0]) ∧ Below w.heap.size w w' := by
  have := encode_any c w hk ha hv
  rw [h] at this
  exact this
theorem encN (c : C7) (w : World) (h : enc c = none) (hk : 0 ≤ c.k) (ha : 0 ≤ c.a) (hv : 0 ≤ c.v) : Calls Try.prog 16 #[.agg #[.int .u8 c.k, .int .i64 c.p, .int .i64 c.g, .int .i64 c.n, .int .u8 c.m, .int .u64 c.a, .int .u64 c.v]] w fun e w' => e = .returned (.tuple #[.agg #[.int .u64 0, .int .u64 0, .int .u64 0, .int .u64 0, .int .u64 0, .int .u64 0], .int .i64 250]) ∧ Below w.heap.size w w' := by
  have := encode_any c w hk ha hv
  rw [h] at this
  exact this
theorem chkN (c : C7) (w : World) (h : enc c = none) (hk : 0 ≤ c.k) (ha : 0 ≤ c.a) (hv : 0 ≤ c.v) : Calls Try.prog 18 #[.agg #[.int .u8 c.k, .int .i64 c.p, .int .i64 c.g, .int .i64 c.n, .int .u8 c.m, .int .u64 c.a, .int .u64 c.v]] w fun e w' => e = .returned (.int .i64 250) ∧ Below w.heap.size w w' := by
  have := check_any c w hk ha hv
  rw [h] at this
  exact this
theorem decN (x0 x1 x2 x3 x4 x5 : Int) (w : World) (h : dec x0 x1 x2 x3 x4 x5 = none) (h0 : 0 ≤ x0) (h1 : 0 ≤ x1) (h2 : 0 ≤ x2) (h3 : 0 ≤ x3) (h4 : 0 ≤ x4) (h5 : 0 ≤ x5) : Calls Try.prog 9 #[.agg #[.int .u64 x0, .int .u64 x1, .int .u64 x2, .int .u64 x3, .int .u64 x4, .int .u64 x5]] w fun e w' => e = .returned (.tuple #[.agg #[.int .u8 0, .int .i64 0, .int .i64 0, .int .i64 0, .int .u8 0, .int .u64 0, .int .u64 0], .int .i64 250]) ∧ Below w.heap.size w w' := by
  have := decode_any x0 x1 x2 x3 x4 x5 w h0 h1 h2 h3 h4 h5
  rw [h] at this
  exact this
theorem decS (c : C7) (x0 x1 x2 x3 x4 x5 : Int) (w : World) (h : dec x0 x1 x2 x3 x4 x5 = some c) (h0 : 0 ≤ x0) (h1 : 0 ≤ x1) (h2 : 0 ≤ x2) (h3 : 0 ≤ x3) (h4 : 0 ≤ x4) (h5 : 0 ≤ x5) : Calls Try.prog 9 #[.agg #[.int .u64 x0, .int .u64 x1, .int .u64 x2, .int .u64 x3, .int .u64 x4, .int .u64 x5]] w fun e w' => e = .returned (.tuple #[.agg #[.int .u8 c.k, .int .i64 c.p, .int .i64 c.g, .int .i64 c.n, .int .u8 c.m, .int .u64 c.a, .int .u64 c.v], .int .i64 0]) ∧ Below w.heap.size w w' := by
  have := decode_any x0 x1 x2 x3 x4 x5 w h0 h1 h2 h3 h4 h5
  rw [h] at this
  exact this
theorem e1 : enc ⟨1, 0, 0, 0, 0, 0, 0⟩ = some (raw 1 0 0 0 0 0) := by kernel_rfl
theorem e2 : enc ⟨9, 1, 0, 8, 0, 1099511627776, 18446744073709551615⟩ = some (raw 9 1 1099511627776 8 18446744073709551615 0) := by kernel_rfl
theorem e3 : enc ⟨7, 0, 0, 7, 0, 0, 0⟩ = some (raw 7 0 7 0 0 0) := by kernel_rfl
theorem d4 : dec 6 2147483647 2147483647 2147483647 255 0 = some ⟨6, 2147483647, 2147483647, 2147483647, 255, 0, 0⟩ := by kernel_rfl
theorem kof_Fork : kof [70, 111, 114, 107] = none := by decide
theorem kof_empty : kof [] = none := by decide
theorem kof_forks : kof [102, 111, 114, 107, 32] = none := by decide
theorem kof_name (k : Nat) : kof (nameOf (k : Int)).data.toList = if 1 ≤ k ∧ k ≤ 10 then some (k : Int) else none := by
  unfold nameOf
  by_cases h : 1 ≤ k ∧ k ≤ 10
  · rw [if_pos h, if_pos (by omega)]
    have := kof_wd h.1 h.2
    simpa using this
  · rw [if_neg h, if_neg (by omega)]
    exact kof_empty
theorem nameOf_size (k : Nat) : (nameOf (k : Int)).size ≤ maxLen := by
  unfold nameOf
  split
  · have h : (k : Int).toNat = 1 ∨ (k : Int).toNat = 2 ∨ (k : Int).toNat = 3 ∨ (k : Int).toNat = 4 ∨ (k : Int).toNat = 5 ∨ (k : Int).toNat = 6 ∨ (k : Int).toNat = 7 ∨ (k : Int).toNat = 8 ∨ (k : Int).toNat = 9 ∨ (k : Int).toNat = 10 := by omega
    rcases h with h | h | h | h | h | h | h | h | h | h <;> rw [h] <;> decide
  · decide
theorem kindS (s : ByteArray) (R : Int) (w : World) (h : kof s.data.toList = some R) (hs : s.size ≤ maxLen) : Calls Try.prog 12 #[.string s] w fun e w' => e = .returned (.tuple #[.int .u8 R, .bool true]) ∧ Below w.heap.size w w' := by
  have := kind_any s w hs
  rw [h] at this
  exact this
theorem kindN (s : ByteArray) (w : World) (h : kof s.data.toList = none) (hs : s.size ≤ maxLen) : Calls Try.prog 12 #[.string s] w fun e w' => e = .returned (.tuple #[.int .u8 0, .bool false]) ∧ Below w.heap.size w w' := by
  have := kind_any s w hs
  rw [h] at this
  exact this
theorem known_c (w : World) : Calls Try.prog 8 #[] w fun e w' => e = .returned (.bool true) ∧ Below w.heap.size w w' := by
  have HB := Aside0.mk (Below.refl w.heap.size w)
  go_enter Try.func8, Try.ntmps8
  go_wp2_with fail
  refine (encS ⟨1, 0, 0, 0, 0, 0, 0⟩ 1 0 0 0 0 0 _ e1 (by decide) (by decide) (by decide)).mono ?_
  rintro e w1 ⟨rfl, hb⟩
  have hba := below_alloc hb (.cells #[.int .u64 1, .int .u64 0, .int .u64 0, .int .u64 0, .int .u64 0, .int .u64 0] 24)
  have HB' := Aside0.mk (below_step HB.out hba)
  clear hb hba HB
  have HB := HB'
  clear HB'
  have H1 : Aside0 (Bl (w1.alloc (.cells #[.int .u64 1, .int .u64 0, .int .u64 0, .int .u64 0, .int .u64 0, .int .u64 0] 24)) w1.heap.size 24 (raw 1 0 0 0 0 0)) := ⟨heap_alloc_new w1 _⟩
  go_wp2_with fail
  refine (encS ⟨9, 1, 0, 8, 0, 1099511627776, 18446744073709551615⟩ 9 1 1099511627776 8 18446744073709551615 0 _ e2 (by decide) (by decide) (by decide)).mono ?_
  rintro e w2 ⟨rfl, hb⟩
  have hba := below_alloc hb (.cells #[.int .u64 9, .int .u64 1, .int .u64 1099511627776, .int .u64 8, .int .u64 18446744073709551615, .int .u64 0] 24)
  have HB' := Aside0.mk (below_step HB.out hba)
  have H1' := Aside0.mk (H1.out.later hba)
  clear hb hba HB H1
  have HB := HB'
  clear HB'
  have H1 := H1'
  clear H1'
  generalize w1.heap.size = g1 at H1 ⊢
  have H2 : Aside0 (Bl (w2.alloc (.cells #[.int .u64 9, .int .u64 1, .int .u64 1099511627776, .int .u64 8, .int .u64 18446744073709551615, .int .u64 0] 24)) w2.heap.size 24 (raw 9 1 1099511627776 8 18446744073709551615 0)) := ⟨heap_alloc_new w2 _⟩
  go_wp2_with fail
  refine (encS ⟨7, 0, 0, 7, 0, 0, 0⟩ 7 0 7 0 0 0 _ e3 (by decide) (by decide) (by decide)).mono ?_
  rintro e w3 ⟨rfl, hb⟩
  have hba := below_alloc hb (.cells #[.int .u64 7, .int .u64 0, .int .u64 7, .int .u64 0, .int .u64 0, .int .u64 0] 24)
  have HB' := Aside0.mk (below_step HB.out hba)
  have H1' := Aside0.mk (H1.out.later hba)
  have H2' := Aside0.mk (H2.out.later hba)
  clear hb hba HB H1 H2
  have HB := HB'
  clear HB'
  have H1 := H1'
  clear H1'
  have H2 := H2'
  clear H2'
  generalize w2.heap.size = g2 at H2 ⊢
  have H3 : Aside0 (Bl (w3.alloc (.cells #[.int .u64 7, .int .u64 0, .int .u64 7, .int .u64 0, .int .u64 0, .int .u64 0] 24)) w3.heap.size 24 (raw 7 0 7 0 0 0)) := ⟨heap_alloc_new w3 _⟩
  obtain ⟨a0, a1, a2, a3, a4, a5⟩ := H1.out.cells6
  obtain ⟨b0, b1, b2, b3, b4, b5⟩ := H2.out.cells6
  obtain ⟨c0, c1, c2, c3, c4, c5⟩ := H3.out.cells6
  have hq1 : eq6 1 1 0 0 0 0 0 0 0 0 0 0 = true := by decide
  have hq9 : eq6 9 9 1 1 1099511627776 1099511627776 8 8 18446744073709551615 18446744073709551615 0 0 = true := by decide
  have hq7 : eq6 7 7 0 0 7 7 0 0 0 0 0 0 = true := by decide
  obtain ⟨wt, hwt⟩ : ∃ wt, wt = (w3.alloc (.cells #[.int .u64 7, .int .u64 0, .int .u64 7, .int .u64 0, .int .u64 0, .int .u64 0] 24)).alloc (.cells kw 26) := ⟨_, rfl⟩
  have hgt : (w3.alloc (.cells #[.int .u64 7, .int .u64 0, .int .u64 7, .int .u64 0, .int .u64 0, .int .u64 0] 24)).heap.size = w3.heap.size + 1 := by simp only [World.alloc, Array.size_push]
  have HT : Aside0 (Bl wt (w3.heap.size + 1) 26 kw) := ⟨by rw [hwt, ← hgt]; exact heap_alloc_new _ _⟩
  have HBt : Aside0 (Below w.heap.size w wt) := ⟨by rw [hwt]; exact below_alloc HB.out _⟩
  unfold kw at hwt
  clear hgt
  go_wp2_with fail
  rw [← hwt]
  clear hwt H1 H2 H3 HB a0 a1 a2 a3 a4 a5 b0 b1 b2 b3 b4 b5 c0 c1 c2 c3 c4 c5 hq1 hq9 hq7
  generalize w3.heap.size + 1 = gt at HT ⊢
  go_loopw [9] (fun v9 wr => ∃ i : Nat, i ≤ 15 ∧ v9 = .int .i64 i ∧ Aside0 (Bl wr gt 26 kw) ∧ Aside0 (Below w.heap.size w wr)) (fun v9 _ => 15 - (intOf v9).toNat)
  case atStart => exact ⟨0, by omega, rfl, HT, HBt⟩
  case round =>
    obtain ⟨i, hi, rfl, hT, hB⟩ := hrel
    clear HT HBt
    by_cases hlt : i < 15
    · obtain ⟨c, _, henc, ⟨hk, ha, hv⟩, y0, y1, y2, y3, y4, y5, y6⟩ := wrongs_at i hlt
      have q0 := (blk_cell hT.out (i * 7)).trans y0
      have q1 := (blk_cell hT.out (i * 7 + 1)).trans y1
      have q2 := (blk_cell hT.out (i * 7 + 2)).trans y2
      have q3 := (blk_cell hT.out (i * 7 + 3)).trans y3
      have q4 := (blk_cell hT.out (i * 7 + 4)).trans y4
      have q5 := (blk_cell hT.out (i * 7 + 5)).trans y5
      have q6 := (blk_cell hT.out (i * 7 + 6)).trans y6
      clear y0 y1 y2 y3 y4 y5 y6
      go_wp2_with fail
      refine (encN c _ henc hk ha hv).mono ?_
      rintro e v1 ⟨rfl, hb⟩
      have hba := below_alloc hb (.cells #[.int .u64 0, .int .u64 0, .int .u64 0, .int .u64 0, .int .u64 0, .int .u64 0] 24)
      have HT1 := Aside0.mk (hT.out.later hba)
      have HB1 := Aside0.mk (below_step hB.out hba)
      have HZ1 : Aside0 (Bl (v1.alloc (.cells #[.int .u64 0, .int .u64 0, .int .u64 0, .int .u64 0, .int .u64 0, .int .u64 0] 24)) v1.heap.size 24 raw0) := ⟨heap_alloc_new v1 _⟩
      have q0' := pw_cell_below hba q0
      have q1' := pw_cell_below hba q1
      have q2' := pw_cell_below hba q2
      have q3' := pw_cell_below hba q3
      have q4' := pw_cell_below hba q4
      have q5' := pw_cell_below hba q5
      have q6' := pw_cell_below hba q6
      clear hb hba hT hB q0 q1 q2 q3 q4 q5 q6
      go_wp2_with fail
      refine (chkN c _ henc hk ha hv).mono ?_
      rintro e v2 ⟨rfl, hb⟩
      have HT2 := Aside0.mk (HT1.out.later hb)
      have HB2 := Aside0.mk (below_step HB1.out hb)
      have HZ2 := Aside0.mk (HZ1.out.later hb)
      clear hb HT1 HB1 HZ1 q0' q1' q2' q3' q4' q5' q6'
      obtain ⟨z0, z1, z2, z3, z4, z5⟩ := HZ2.out.cells6
      have hq : eq6 0 0 0 0 0 0 0 0 0 0 0 0 = true := by decide
      go_wp2_with fail
      clear HZ2 z0 z1 z2 z3 z4 z5 hq
      go_roundw
      case rel => exact ⟨i + 1, by omega, by go_num, HT2, HB2⟩
      case measure => simp [intOf]; omega
    · have hi15 : i = 15 := by omega
      subst hi15
      clear hT hi hlt
      obtain ⟨wt, hwt⟩ : ∃ wt, wt = wr.alloc (.cells kn 24) := ⟨_, rfl⟩
      have HT : Aside0 (Bl wt wr.heap.size 24 kn) := ⟨by rw [hwt]; exact heap_alloc_new _ _⟩
      have HBt : Aside0 (Below w.heap.size w wt) := ⟨by rw [hwt]; exact below_alloc hB.out _⟩
      unfold kn at hwt
      go_wp2_with fail
      rw [← hwt]
      clear hwt hB
      generalize wr.heap.size = gn at HT ⊢
      go_loopw [13] (fun v13 wr => ∃ i : Nat, i ≤ 13 ∧ v13 = .int .i64 i ∧ Aside0 (Bl wr gn 24 kn) ∧ Aside0 (Below w.heap.size w wr)) (fun v13 _ => 13 - (intOf v13).toNat)
      case atStart => exact ⟨0, by omega, rfl, HT, HBt⟩
      case round =>
        obtain ⟨i, hi, rfl, hT, hB⟩ := hrel
        clear HT HBt
        by_cases hlt : i < 13
        · obtain ⟨r, hdec, ⟨h0, h1, h2, h3, h4, h5⟩, y0, y1, y2, y3, y4, y5⟩ := nones_at i hlt
          have q0 := (blk_cell hT.out (i * 6)).trans y0
          have q1 := (blk_cell hT.out (i * 6 + 1)).trans y1
          have q2 := (blk_cell hT.out (i * 6 + 2)).trans y2
          have q3 := (blk_cell hT.out (i * 6 + 3)).trans y3
          have q4 := (blk_cell hT.out (i * 6 + 4)).trans y4
          have q5 := (blk_cell hT.out (i * 6 + 5)).trans y5
          clear y0 y1 y2 y3 y4 y5
          go_wp2_with fail
          refine (decN r.x0 r.x1 r.x2 r.x3 r.x4 r.x5 _ hdec h0 h1 h2 h3 h4 h5).mono ?_
          rintro e v1 ⟨rfl, hb⟩
          have hba := below_alloc hb (.cells #[.int .u8 0, .int .i64 0, .int .i64 0, .int .i64 0, .int .u8 0, .int .u64 0, .int .u64 0] 26)
          have HT1 := Aside0.mk (hT.out.later hba)
          have HB1 := Aside0.mk (below_step hB.out hba)
          have HZ1 : Aside0 (Bl (v1.alloc (.cells #[.int .u8 0, .int .i64 0, .int .i64 0, .int .i64 0, .int .u8 0, .int .u64 0, .int .u64 0] 26)) v1.heap.size 26 c0.cells) := ⟨heap_alloc_new v1 _⟩
          clear hb hba hT hB q0 q1 q2 q3 q4 q5
          obtain ⟨z0, z1, z2, z3, z4, z5, z6⟩ := HZ1.out.cells7
          simp only [c0] at z0 z1 z2 z3 z4 z5 z6
          have hq : eq7 0 0 0 0 0 0 0 0 0 0 0 0 0 0 = true := by decide
          go_wp2_with fail
          clear HZ1 z0 z1 z2 z3 z4 z5 z6 hq
          go_roundw
          case rel => exact ⟨i + 1, by omega, by go_num, HT1, HB1⟩
          case measure => simp [intOf]; omega
        · have hi13 : i = 13 := by omega
          subst hi13
          clear hT hi hlt
          go_wp2_with fail
          refine (decS ⟨6, 2147483647, 2147483647, 2147483647, 255, 0, 0⟩ 6 2147483647 2147483647 2147483647 255 0 _ d4 (by decide) (by decide) (by decide) (by decide) (by decide) (by decide)).mono ?_
          rintro e v1 ⟨rfl, hb⟩
          have hba := below_alloc hb (.cells #[.int .u8 6, .int .i64 2147483647, .int .i64 2147483647, .int .i64 2147483647, .int .u8 255, .int .u64 0, .int .u64 0] 26)
          have HB1 := Aside0.mk (below_step hB.out hba)
          have HZ1 : Aside0 (Bl (v1.alloc (.cells #[.int .u8 6, .int .i64 2147483647, .int .i64 2147483647, .int .i64 2147483647, .int .u8 255, .int .u64 0, .int .u64 0] 26)) v1.heap.size 26 (C7.cells ⟨6, 2147483647, 2147483647, 2147483647, 255, 0, 0⟩)) := ⟨heap_alloc_new v1 _⟩
          clear hb hba hB
          obtain ⟨z0, z1, z2, z3, z4, z5, z6⟩ := HZ1.out.cells7
          simp only at z0 z1 z2 z3 z4 z5 z6
          have hq : eq7 6 6 2147483647 2147483647 2147483647 2147483647 2147483647 2147483647 255 255 0 0 0 0 = true := by decide
          go_wp2_with fail
          clear HZ1 z0 z1 z2 z3 z4 z5 z6 hq
          generalize v1.alloc (.cells #[.int .u8 6, .int .i64 2147483647, .int .i64 2147483647, .int .i64 2147483647, .int .u8 255, .int .u64 0, .int .u64 0] 26) = wu at HB1 ⊢
          go_loopw [19] (fun v19 wr => ∃ k : Nat, k ≤ 256 ∧ v19 = .int .i64 k ∧ Aside0 (Below w.heap.size w wr)) (fun v19 _ => 256 - (intOf v19).toNat)
          case atStart => exact ⟨0, by omega, rfl, HB1⟩
          case round =>
            obtain ⟨k, hk, rfl, hB⟩ := hrel
            clear HB1
            by_cases hlt : k < 256
            · have hm : (k : Int) % 256 = (k : Int) := by omega
              go_wp2_with fail
              refine (name_any (k : Int) _).mono ?_
              rintro e v1 ⟨rfl, hb⟩
              have HB1 := Aside0.mk (below_step hB.out hb)
              clear hb hB
              have hkf := kof_name k
              have hsz : (nameOf (k : Int)).size ≤ maxLen := nameOf_size k
              have HS := Aside0.mk hsz
              clear hsz
              by_cases h10 : 1 ≤ k ∧ k ≤ 10
              · rw [if_pos h10] at hkf
                have HK := Aside0.mk hkf
                clear hkf
                obtain ⟨h1, h10⟩ := h10
                generalize nameOf (k : Int) = nm at HK HS ⊢
                go_wp2_with fail
                refine (kindS nm (k : Int) _ HK.out HS.out).mono ?_
                rintro e v2 ⟨rfl, hb⟩
                have HB2 := Aside0.mk (below_step HB1.out hb)
                clear hb HB1 HK HS
                go_wp2_with fail
                go_roundw
                case rel => exact ⟨k + 1, by omega, by go_num, HB2⟩
                case measure => simp [intOf]; omega
              · rw [if_neg h10] at hkf
                have HK := Aside0.mk hkf
                clear hkf
                generalize nameOf (k : Int) = nm at HK HS ⊢
                go_wp2_with fail
                refine (kindN nm _ HK.out HS.out).mono ?_
                rintro e v2 ⟨rfl, hb⟩
                have HB2 := Aside0.mk (below_step HB1.out hb)
                clear hb HB1 HK HS
                by_cases h1 : 1 ≤ k
                · have h11 : ¬ k ≤ 10 := fun h => h10 ⟨h1, h⟩
                  clear h10
                  go_wp2_with fail
                  go_roundw
                  case rel => exact ⟨k + 1, by omega, by go_num, HB2⟩
                  case measure => simp [intOf]; omega
                · clear h10
                  go_wp2_with fail
                  go_roundw
                  case rel => exact ⟨k + 1, by omega, by go_num, HB2⟩
                  case measure => simp [intOf]; omega
            · have hk256 : k = 256 := by omega
              subst hk256
              clear hk hlt
              go_wp2_with fail
              refine (kindN ⟨#[70, 111, 114, 107]⟩ _ kof_Fork (by decide)).mono ?_
              rintro e v1 ⟨rfl, hb⟩
              have HB1 := Aside0.mk (below_step hB.out hb)
              clear hb hB
              go_wp2_with fail
              refine (kindN ⟨#[]⟩ _ kof_empty (by decide)).mono ?_
              rintro e v2 ⟨rfl, hb⟩
              have HB2 := Aside0.mk (below_step HB1.out hb)
              clear hb HB1
              go_wp2_with fail
              refine (kindN ⟨#[102, 111, 114, 107, 32]⟩ _ kof_forks (by decide)).mono ?_
              rintro e v3 ⟨rfl, hb⟩
              have HB3 := Aside0.mk (below_step HB2.out hb)
              clear hb HB2
              go_wp2_with fail
              refine (works_any _).mono ?_
              rintro e v4 ⟨rfl, hb⟩
              have HB4 := Aside0.mk (below_step HB3.out hb)
              clear hb HB3
              go_wp2_with fail
              go_ret
              exact ⟨rfl, HB4.out⟩
end Go.Proofs.Ytklnenaiolclaaa.H
