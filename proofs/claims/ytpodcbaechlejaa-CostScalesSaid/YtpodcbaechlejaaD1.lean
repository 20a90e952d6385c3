/- The law CostScales by its contracts. -/
import Derived.Test.YtpodcbaechlejaaE1
import Derived.Test.YtpodcbaechlejaaE2
import Derived.Test.YtpodcbaechlejaaE3
import Derived.Test.YtpodcbaechlejaaE4
import Derived.Test.YtpodcbaechlejaaE5
namespace Go.Proofs.Ytpodcbaechlejaa.H
open Go.RowKit Go.Proofs.YtpodcbaechlejaaW.PrintWords Go.Proofs.YtpodcbaechlejaaW.PrintLast Go.Proofs.YtpodcbaechlejaaW.PrintMore
set_option linter.unusedVariables false
set_option linter.unusedSimpArgs false
open Go.Proofs.Ytpodcbaechlejaa.Pure
set_option maxHeartbeats 60000000
set_option maxRecDepth 100000
theorem scales_any (D0 D1 D2 D3 D4 D5 : Int) (E0 E1 E2 E3 : Int) (t : Int) (w : World) (hD0 : (Lit.int .u64 D0).wf = true) (hD1 : (Lit.int .u64 D1).wf = true) (hD2 : (Lit.int .u64 D2).wf = true) (hD3 : (Lit.int .u64 D3).wf = true) (hD4 : (Lit.int .u64 D4).wf = true) (hD5 : (Lit.int .u64 D5).wf = true) (hE0 : (Lit.int .i64 E0).wf = true) (hE1 : (Lit.int .i64 E1).wf = true) (hE2 : (Lit.int .i64 E2).wf = true) (hE3 : (Lit.int .i64 E3).wf = true) (ht : (Lit.int .u64 t).wf = true) :
    Calls Try.prog 4 #[.agg #[.int .u64 D0, .int .u64 D1, .int .u64 D2, .int .u64 D3, .int .u64 D4, .int .u64 D5], .agg #[.int .i64 E0, .int .i64 E1, .int .i64 E2, .int .i64 E3], .int .u64 t] w fun e w' => e = .returned (.bool true) ∧ Below w.heap.size w w' := by
  by_cases hok : okc D0 D1 D2 D3 D4 D5
  · by_cases hm : okc ((1 + t % 8) * D0) ((1 + t % 8) * D1) ((1 + t % 8) * D2) ((1 + t % 8) * D3) ((1 + t % 8) * D4) ((1 + t % 8) * D5)
    · by_cases h74 : wk2 E0 D2 D3 D4 D5 E1 E2 E3 7 = wk2 E0 D2 D3 D4 D5 E1 E2 E3 4
      · exact scales_p3 D0 D1 D2 D3 D4 D5 E0 E1 E2 E3 t w hD0 hD1 hD2 hD3 hD4 hD5 hE0 hE1 hE2 hE3 ht hok hm h74
      · exact scales_p4 D0 D1 D2 D3 D4 D5 E0 E1 E2 E3 t w hD0 hD1 hD2 hD3 hD4 hD5 hE0 hE1 hE2 hE3 ht hok hm h74
    · by_cases h74 : wk2 E0 D2 D3 D4 D5 E1 E2 E3 7 = wk2 E0 D2 D3 D4 D5 E1 E2 E3 4
      · exact scales_p1 D0 D1 D2 D3 D4 D5 E0 E1 E2 E3 t w hD0 hD1 hD2 hD3 hD4 hD5 hE0 hE1 hE2 hE3 ht hok hm h74
      · exact scales_p2 D0 D1 D2 D3 D4 D5 E0 E1 E2 E3 t w hD0 hD1 hD2 hD3 hD4 hD5 hE0 hE1 hE2 hE3 ht hok hm h74
  · exact scales_no D0 D1 D2 D3 D4 D5 E0 E1 E2 E3 t w hD0 hD1 hD2 hD3 hD4 hD5 hE0 hE1 hE2 hE3 ht hok
end Go.Proofs.Ytpodcbaechlejaa.H
