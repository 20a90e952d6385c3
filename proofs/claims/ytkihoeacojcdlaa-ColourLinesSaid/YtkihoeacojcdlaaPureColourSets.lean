/- ColourSets: of all addresses, sets and numbers of colours, Set and Owner answer as the reference does. -/
import Derived.Test.YtkihoeacojcdlaaHx2
import Derived.Test.YtkihoeacojcdlaaQ1
namespace Go.Proofs.Ytkihoeacojcdlaa.Pure
open Go.RowKit Go.Proofs.Ytkihoeacojcdlaa.H Go.Proofs.YtkihoeacojcdlaaW.PrintWords Go.Proofs.YtkihoeacojcdlaaW.PrintLast
set_option linter.unusedVariables false

theorem wf_i64 {x : Int} (h : (Lit.int .i64 x).wf = true) : -9223372036854775808 ≤ x ∧ x ≤ 9223372036854775807 := by
  simp [Lit.wf, IntKind.min, IntKind.max, IntKind.signed, IntKind.bits] at h
  omega
theorem wf_u64 {x : Int} (h : (Lit.int .u64 x).wf = true) : 0 ≤ x ∧ x ≤ 18446744073709551615 := by
  simp [Lit.wf, IntKind.min, IntKind.max, IntKind.signed, IntKind.bits] at h
  omega
theorem owner_same (s n : Int) : cofferdamref08_Owner.f s n = colour_Owner.f s n := by
  unfold cofferdamref08_Owner.f colour_Owner.f
  rw [Int.mul_comm 16 n]
  rfl
theorem set_some (a n : Int) (h0 : 0 ≤ a) : ∃ r, colour_Set.f a n = some r := by
  rw [set_eq a n h0]
  split
  · exact ⟨_, rfl⟩
  · split <;> exact ⟨_, rfl⟩
theorem owner_some (s n : Int) (h0 : -9223372036854775808 ≤ s) (h1 : s ≤ 9223372036854775807) : ∃ r, colour_Owner.f s n = some r := by
  rw [owner_eq s n h0 h1]
  split <;> exact ⟨_, rfl⟩
theorem ColourSets : cofferdamlaw08_ColourSets.Pure := by
  intro a0 a1 a2 h0 h1 h2
  refine ⟨7, ?_⟩
  have b0 := wf_u64 h0
  have b1 := wf_i64 h1
  obtain ⟨r, hr⟩ := set_some a0 a2 b0.1
  obtain ⟨s, hs⟩ := owner_some a1 a2 b1.1 b1.2
  have e1 : cofferdamref08_Set.f a0 a2 = some r := hr
  have e2 : cofferdamref08_Owner.f a1 a2 = some s := by rw [owner_same]; exact hs
  unfold cofferdamlaw08_ColourSets.f
  rw [hr, e1, hs, e2, works_true 7 (by decide)]
  simp

end Go.Proofs.Ytkihoeacojcdlaa.Pure
