/- Words of CostScales' walk. -/
import Derived.Test.YtpodcbaechlejaaQ5
import Derived.Test.YtpodcbaechlejaaR
namespace Go.Proofs.Ytpodcbaechlejaa.H
open Go.RowKit Go.Proofs.YtpodcbaechlejaaW.PrintWords Go.Proofs.YtpodcbaechlejaaW.PrintLast Go.Proofs.YtpodcbaechlejaaW.PrintMore
set_option linter.unusedVariables false
set_option linter.unusedSimpArgs false
open Go.Proofs.Ytpodcbaechlejaa.Pure
set_option maxHeartbeats 60000000
set_option maxRecDepth 100000
theorem u64_lo {n : Int} (h : (Lit.int .u64 n).wf = true) : 0 ≤ n ∧ n ≤ 18446744073709551615 := by
  simp [Lit.wf, IntKind.min, IntKind.max, IntKind.signed, IntKind.bits] at h
  omega
theorem six (w : World) (a b c d e f : Value) (t : TypeId) : (∀ o, (w.alloc (.cells #[a, b, c, d, e, f] t)).cell? ⟨w.heap.size, o, none⟩ = (#[a, b, c, d, e, f] : Array Value)[o]?) := fun o => blk_cell (heap_alloc_new w _) o
def Six (w : World) (g : Nat) (a b c d e f : Int) : Prop := w.heap[g]? = some (.cells #[.int .u64 a, .int .u64 b, .int .u64 c, .int .u64 d, .int .u64 e, .int .u64 f] 24 (0, 0))
def Four (w : World) (g : Nat) (a b c d : Int) : Prop := w.heap[g]? = some (.cells #[.int .i64 a, .int .i64 b, .int .i64 c, .int .i64 d] 35 (0, 0))
theorem Six.later {w w' : World} {g : Nat} {a b c d e f : Int} (h : Six w g a b c d e f) (hb : Below w.heap.size w w') : Six w' g a b c d e f := blk_grown h (grown_of_below hb none) (by simp)
theorem Four.later {w w' : World} {g : Nat} {a b c d : Int} (h : Four w g a b c d) (hb : Below w.heap.size w w') : Four w' g a b c d := blk_grown h (grown_of_below hb none) (by simp)
theorem Six.cells {w : World} {g : Nat} {a b c d e f : Int} (h : Six w g a b c d e f) : w.cell? ⟨g, 0, none⟩ = some (.int .u64 a) ∧ w.cell? ⟨g, 1, none⟩ = some (.int .u64 b) ∧ w.cell? ⟨g, 2, none⟩ = some (.int .u64 c) ∧ w.cell? ⟨g, 3, none⟩ = some (.int .u64 d) ∧ w.cell? ⟨g, 4, none⟩ = some (.int .u64 e) ∧ w.cell? ⟨g, 5, none⟩ = some (.int .u64 f) :=
  ⟨blk_cell h 0, blk_cell h 1, blk_cell h 2, blk_cell h 3, blk_cell h 4, blk_cell h 5⟩
theorem Four.cells {w : World} {g : Nat} {a b c d : Int} (h : Four w g a b c d) : w.cell? ⟨g, 0, none⟩ = some (.int .i64 a) ∧ w.cell? ⟨g, 1, none⟩ = some (.int .i64 b) ∧ w.cell? ⟨g, 2, none⟩ = some (.int .i64 c) ∧ w.cell? ⟨g, 3, none⟩ = some (.int .i64 d) :=
  ⟨blk_cell h 0, blk_cell h 1, blk_cell h 2, blk_cell h 3⟩
theorem switch_eq {a b m f st d : Int} (h : okc a b m f st d) : cost_Switch.f 20 a b m f st d 7 5 = some (12 * st, 0) := by
  have hs := h.2.2.2.2.2.1
  have hw : IntKind.u64.wrap (IntKind.u64.wrap (wrap64 (7 + 5)) * st) = 12 * st := by
    have e : IntKind.u64.wrap (wrap64 (7 + 5)) = 12 := by rw [show wrap64 (7 + 5) = 12 by unfold wrap64; omega, IntKind.wrap_u64]; omega
    rw [e, IntKind.wrap_u64]; omega
  unfold cost_Switch.f
  rw [check_eq 20 (by decide), if_pos h]
  simp only [Option.bind_some, if_true, cost_within.f]
  rw [if_pos (by decide), if_pos (by decide)]
  simp only [Option.bind_some]
  rw [if_pos (by decide), if_pos (by decide), hw]
theorem touch_eq {a b m f st d : Int} (h : okc a b m f st d) : cost_Touch.f 20 a b m f st d false true = some (b, 0) := by
  unfold cost_Touch.f
  rw [check_eq 20 (by decide), if_pos h]
  rfl
end Go.Proofs.Ytpodcbaechlejaa.H
