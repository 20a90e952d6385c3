/- EntryNames: all words of the lowest ten bits, each with five others joined; the ends of the numbers (a closed statement). -/
import Derived.Test.YtfhiboibfhjmpaaHx5
import Derived.Test.YtfhiboibfhjmpaaPureEntryReads
import Derived.Test.YtfhiboibfhjmpaaPureEntryMakes
namespace Go.Proofs.Ytfhiboibfhjmpaa.Pure
open Go.RowKit Go.Proofs.Ytfhiboibfhjmpaa.H Go.Proofs.YtfhiboibfhjmpaaW.PrintWords Go.Proofs.YtfhiboibfhjmpaaW.PrintLast

theorem reads_or (x m : Int) (h0 : 0 ≤ x) (h1 : x < 1024) (h2 : 0 ≤ m) (h3 : m < 18446744073709551616) : cofferdamlaw07_EntryReads.f (Go.bits .or .u64 x m) = some true := by
  refine EntryReads _ ?_
  rw [u64_or x m h0 (by omega) h2 h3]
  have : x.toNat ||| m.toNat < 2 ^ 64 := Nat.or_lt_two_pow (by omega) (by omega)
  exact wf_u64_mk (by omega) (by omega)
theorem makes_4 (a0 a1 a2 a3 a4 a5 : Bool) (a6 : Int) (k : Nat) (hk : 4 ≤ k) : cofferdamlaw07_EntryMakes.f k a0 a1 a2 a3 a4 a5 a6 = some true := by
  obtain ⟨k, rfl⟩ : ∃ m, k = m + 4 := ⟨k - 4, by omega⟩
  have e1 : wrap64 1 = 1 := by unfold wrap64; decide
  have e2 : wrap64 2 = 2 := by unfold wrap64; decide
  simp [cofferdamlaw07_EntryMakes.f, cofferdamlaw07_EntryMakes.j0, cofferdamlaw07_EntryMakes.l0, entry_Make.f, cofferdamref07_Make.f, entry_Check.f, cofferdamref07_Check.f, entry_Allows.f, cofferdamref07_Allows.f, awake_true, e1, e2]
theorem names_l1 (d : Nat) : ∀ (l : List Int) (k : Nat) (i : Int), l.length ≤ 100 → 0 ≤ i → i ≤ l.length → (l.length : Int) - i = d → d + 5 ≤ k → cofferdamlaw07_EntryNames.l1 k l i = some true := by
  induction d with
  | zero =>
    intro l k i hl h0 h1 hd hk
    obtain ⟨k, rfl⟩ : ∃ m, k = m + 1 := ⟨k - 1, by omega⟩
    simp only [cofferdamlaw07_EntryNames.l1]
    rw [if_neg (by omega), awake_true]
    rfl
  | succ d ih =>
    intro l k i hl h0 h1 hd hk
    obtain ⟨k, rfl⟩ : ∃ m, k = m + 1 := ⟨k - 1, by omega⟩
    have hw : wrap64 (i + 1) = i + 1 := by unfold wrap64; omega
    simp only [cofferdamlaw07_EntryNames.l1]
    rw [if_pos (by omega), if_pos h0, makes_4 _ _ _ _ _ _ _ k (by omega), makes_4 _ _ _ _ _ _ _ k (by omega), makes_4 _ _ _ _ _ _ _ k (by omega), makes_4 _ _ _ _ _ _ _ k (by omega), hw]
    simp only [Option.bind_some, if_true]
    exact ih l k (i + 1) hl (by omega) (by omega) (by omega) (by omega)
theorem names_l0 (d : Nat) : ∀ (k : Nat) (i : Int), 0 ≤ i → i ≤ 1024 → 1024 - i = d → d + 20 ≤ k → cofferdamlaw07_EntryNames.l0 k i = some true := by
  induction d with
  | zero =>
    intro k i h0 h1 hd hk
    obtain ⟨k, rfl⟩ : ∃ m, k = m + 1 := ⟨k - 1, by omega⟩
    simp only [cofferdamlaw07_EntryNames.l0]
    rw [if_neg (by omega)]
    exact names_l1 8 _ k 0 (by decide) (by decide) (by decide) (by decide) (by omega)
  | succ d ih =>
    intro k i h0 h1 hd hk
    obtain ⟨k, rfl⟩ : ∃ m, k = m + 1 := ⟨k - 1, by omega⟩
    have hw : IntKind.u64.wrap (i + 1) = i + 1 := by rw [IntKind.wrap_u64]; omega
    have hr := EntryReads i (wf_u64_mk h0 (by omega))
    simp only [cofferdamlaw07_EntryNames.l0]
    rw [if_pos (by omega), hr, reads_or i _ h0 (by omega) (by decide) (by decide), reads_or i _ h0 (by omega) (by decide) (by decide), reads_or i _ h0 (by omega) (by decide) (by decide), reads_or i _ h0 (by omega) (by decide) (by decide), reads_or i _ h0 (by omega) (by decide) (by decide), hw]
    simp only [Option.bind_some, if_true]
    exact ih k (i + 1) (by omega) (by omega) (by omega) (by omega)
theorem EntryNames : cofferdamlaw07_EntryNames.Pure :=
  ⟨1044, names_l0 1024 1044 0 (by decide) (by decide) (by decide) (by decide)⟩

end Go.Proofs.Ytfhiboibfhjmpaa.Pure
