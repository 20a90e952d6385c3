/- EntryReads: of every word, entry.Read and the reference's Read answer the same. -/
import Derived.Test.YtfhiboibfhjmpaaHx3
import Derived.Test.YtfhiboibfhjmpaaQ1
namespace Go.Proofs.Ytfhiboibfhjmpaa.Pure
open Go.RowKit Go.Proofs.Ytfhiboibfhjmpaa.H Go.Proofs.YtfhiboibfhjmpaaW.PrintWords Go.Proofs.YtfhiboibfhjmpaaW.PrintLast

theorem wf_u64 {x : Int} (h : (Lit.int .u64 x).wf = true) : 0 ≤ x ∧ x < 18446744073709551616 := by
  simp [Lit.wf, IntKind.min, IntKind.max, IntKind.signed, IntKind.bits] at h
  omega
theorem wf_u64_mk {x : Int} (h0 : 0 ≤ x) (h1 : x < 18446744073709551616) : (Lit.int .u64 x).wf = true := by
  simp [Lit.wf, IntKind.min, IntKind.max, IntKind.signed, IntKind.bits]
  omega
theorem EntryReads : cofferdamlaw07_EntryReads.Pure := by
  intro a0 h
  have hr := wf_u64 h
  unfold cofferdamlaw07_EntryReads.f entry_Read.f cofferdamref07_Read.f
  rw [if_pos hr]
  simp [awake_true]

end Go.Proofs.Ytfhiboibfhjmpaa.Pure
