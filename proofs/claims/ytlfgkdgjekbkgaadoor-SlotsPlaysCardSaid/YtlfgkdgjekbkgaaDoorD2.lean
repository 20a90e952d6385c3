/- The law SlotsPlays, as its row asks. -/
import Derived.Test.YtlfgkdgjekbkgaaDoorD1
namespace Go.Proofs.YtlfgkdgjekbkgaaDoor.H
open Go.RowKit Go.Proofs.YtlfgkdgjekbkgaaDoorW.PrintWords Go.Proofs.YtlfgkdgjekbkgaaDoorW.PrintLast Go.Proofs.YtlfgkdgjekbkgaaDoorW.PrintMore
set_option linter.unusedVariables false
set_option linter.unusedSimpArgs false
theorem plays_any (a0 a1 : Int) (A : Option Addr) (len cap : Nat) (w : World) (hTb : Tb w) (h0 : (Lit.int .i64 a0).wf = true) (h1 : (Lit.int .i64 a1).wf = true)
    (hS : len ≤ cap ∧ cap ≤ maxLen ∧ ∀ i, i < len → ∃ (ad : Addr) (x0 : Bool) (x1 : Int), A = some ad ∧ w.cell? (ad.add (i * 2 + 0)) = some (.bool x0) ∧ w.cell? (ad.add (i * 2 + 1)) = some (.int .i64 x1) ∧ (Lit.int .i64 x1).wf = true) :
    Calls Tryd.prog 3 #[.int .i64 a0, .int .i64 a1, .slice A len cap] w fun e w' => e = .returned (.bool true) ∧ Below w.heap.size w w' :=
  plays_c a0 a1 A len cap w hTb (fun i hi => by
    obtain ⟨ad, x0, x1, e, q0, q1, _⟩ := hS.2.2 i hi
    exact ⟨ad, x0, x1, e, q0, q1⟩)
end Go.Proofs.YtlfgkdgjekbkgaaDoor.H
