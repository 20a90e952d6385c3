/- EntryBack: an entry that may be comes back out of its word; a word that is read is made again; who may store may load. -/
import Derived.Test.YtfhiboibfhjmpaaHx4
import Derived.Test.YtfhiboibfhjmpaaPureEntryReads
namespace Go.Proofs.Ytfhiboibfhjmpaa.Pure
open Go.RowKit Go.Proofs.Ytfhiboibfhjmpaa.H Go.Proofs.YtfhiboibfhjmpaaW.PrintWords Go.Proofs.YtfhiboibfhjmpaaW.PrintLast

theorem back_j0 (x : Int) (h0 : 0 ≤ x) (h1 : x < 18446744073709551616) (k : Nat) : cofferdamlaw07_EntryBack.j0 (k + 1) x = some true := by
  simp only [cofferdamlaw07_EntryBack.j0, entry_Read.f]
  rw [if_pos ⟨h0, h1⟩]
  simp only [Option.bind_some, entry_Make.f]
  by_cases hz : rdE x = 0
  · obtain ⟨p, q⟩ := back_word h0 h1 hz
    rw [if_pos hz, if_pos q, p]
    simp
  · obtain ⟨r, s, t⟩ := rd_bad hz
    rw [if_neg hz, if_pos r]
    simp [s, t]
theorem alw_le {a0 a1 a2 a3 a4 a5 : Bool} {a6 : Int} (hz : Chk a0 a1 a2 a3 a4 a5 a6 = 0) (h : Alw a0 a1 a2 a3 a4 a5 a6 true = 0) : Alw a0 a1 a2 a3 a4 a5 a6 false = 0 := by
  unfold Alw at *
  rw [if_pos hz] at *
  unfold Chk at hz
  cases a0 <;> cases a1 <;> cases a2 <;> cases a3 <;> simp_all
theorem EntryBack : ∀ (a0_0 : Bool) (a0_1 : Bool) (a0_2 : Bool) (a0_3 : Bool) (a0_4 : Bool) (a0_5 : Bool) (a0_6 : Int) (a1 : Int), (Lit.int .i64 a0_6).wf = true → (Lit.int .u64 a1).wf = true → ∃ k, cofferdamlaw07_EntryBack.f k a0_0 a0_1 a0_2 a0_3 a0_4 a0_5 a0_6 a1 = some true := by
  intro a0 a1 a2 a3 a4 a5 a6 x _ hx
  obtain ⟨x0, x1⟩ := wf_u64 hx
  refine ⟨1, ?_⟩
  have hj := back_j0 x x0 x1 0
  unfold cofferdamlaw07_EntryBack.f
  rw [awake_true]
  simp only [Option.bind_some, if_true, entry_Make.f, entry_Check.f, entry_Allows.f]
  rw [if_neg (by simp)]
  by_cases hz : Chk a0 a1 a2 a3 a4 a5 a6 = 0
  · obtain ⟨m0, m1⟩ := mk_range a0 a1 a2 a3 a4 a5 a6
    obtain ⟨b, b0, b1, b2, b3, b4, b5, b6⟩ := back_entry hz
    have hzz := mk_zero hz
    rw [if_pos hz]
    simp only [entry_Read.f]
    rw [if_pos ⟨m0, m1⟩]
    simp only [Option.bind_some]
    rw [if_pos b, if_pos hz, if_pos hz, b0, b1, b2, b3, b4, b5, b6, if_neg (by simp)]
    have hn : ¬ ((Mk a0 a1 a2 a3 a4 a5 a6 == 0) != (!a0 && (!a1 && (!a2 && (!a3 && (!a4 && (!a5 && (a6 == 0)))))))) = true := by rw [hzz]; simp
    by_cases hs : Alw a0 a1 a2 a3 a4 a5 a6 true = 0
    · rw [if_pos hs, if_pos (alw_le hz hs), if_neg hn]; exact hj
    · rw [if_neg hs, if_neg hn]; exact hj
  · rw [if_neg hz]; exact hj

end Go.Proofs.Ytfhiboibfhjmpaa.Pure
