/- CyclesPlays in the row's own words. -/
import Derived.Test.YtnihobcmaabmfaaC4
import Derived.Test.YtnihobcmaabmfaaR
namespace Go.Proofs.Ytnihobcmaabmfaa.H
open Go.RowKit Go.Proofs.YtnihobcmaabmfaaW.PrintWords Go.Proofs.YtnihobcmaabmfaaW.PrintLast Go.Proofs.YtnihobcmaabmfaaW.PrintMore
theorem u64_lo {n : Int} (h : (Lit.int .u64 n).wf = true) : 0 ≤ n ∧ n ≤ 18446744073709551615 := by
  simp [Lit.wf, IntKind.min, IntKind.max, IntKind.signed, IntKind.bits] at h
  omega
theorem i64_in {n : Int} (h : (Lit.int .i64 n).wf = true) : -9223372036854775808 ≤ n ∧ n ≤ 9223372036854775807 := by
  simp [Lit.wf, IntKind.min, IntKind.max, IntKind.signed, IntKind.bits] at h
  omega
theorem plays (s p n : Int) (A : Option Addr) (len cap : Nat) (w : World) (h0 : (Lit.int .u64 s).wf = true) (h1 : (Lit.int .u64 p).wf = true) (h2 : (Lit.int .u64 n).wf = true)
    (hS : len ≤ cap ∧ cap ≤ maxLen ∧ ∀ i, i < len → ∃ (ad : Addr) (x0 : Int) (x1 : Int), A = some ad ∧ w.cell? (ad.add (i * 2 + 0)) = some (.int .i64 x0) ∧ (Lit.int .i64 x0).wf = true ∧ w.cell? (ad.add (i * 2 + 1)) = some (.int .u64 x1) ∧ (Lit.int .u64 x1).wf = true) :
    Calls Try.prog 3 #[.agg #[.int .u64 s, .int .u64 p, .int .u64 n], .slice A len cap] w fun e w' => e = .returned (.bool true) ∧ Below w.heap.size w w' := by
  obtain ⟨l1, l2, h⟩ := hS
  have hm : maxLen = 9223372036854775807 := rfl
  have hx : ∀ i : Nat, ∃ K M : Int, i < len → ∃ ad, A = some ad ∧ w.cell? (ad.add (i * 2)) = some (.int .i64 K) ∧ w.cell? ⟨(ad.add (i * 2)).block, (ad.add (i * 2)).off + 1, none⟩ = some (.int .u64 M) ∧ (-9223372036854775808 ≤ K ∧ K ≤ 9223372036854775807) ∧ 0 ≤ M := by
    intro i
    by_cases hi : i < len
    · obtain ⟨ad, x0, x1, rfl, c0, w0, c1, w1⟩ := h i hi
      rw [add_field ad (i * 2) 1 (by decide)] at c1
      exact ⟨x0, x1, fun _ => ⟨ad, rfl, c0, c1, i64_in w0, (u64_lo w1).1⟩⟩
    · exact ⟨0, 0, fun hh => absurd hh hi⟩
  exact plays_any s p n A len cap (fun i => (hx i).choose) (fun i => (hx i).choose_spec.choose) w (u64_lo h0).1 (u64_lo h1).1 (u64_lo h2).1 ⟨by omega, fun i hi => (hx i).choose_spec.choose_spec hi⟩
end Go.Proofs.Ytnihobcmaabmfaa.H
