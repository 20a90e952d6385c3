/- The law CostKnown by its contracts. -/
import Derived.Test.YtpodcbaechlejaaHx2
import Derived.Test.YtpodcbaechlejaaHx5
namespace Go.Proofs.Ytpodcbaechlejaa.H
open Go.RowKit Go.Proofs.YtpodcbaechlejaaW.PrintWords Go.Proofs.YtpodcbaechlejaaW.PrintLast Go.Proofs.YtpodcbaechlejaaW.PrintMore
set_option linter.unusedVariables false
set_option linter.unusedSimpArgs false
set_option maxHeartbeats 8000000
set_option maxRecDepth 100000
def wants : List Int := [40, 380, 480, 2080, 2300, 2728, 1468, 2728, 804, 1708, 40, 40]
def kwa : Array Value := #[.int .u64 40, .int .u64 380, .int .u64 480, .int .u64 2080, .int .u64 2300, .int .u64 2728, .int .u64 1468, .int .u64 2728, .int .u64 804, .int .u64 1708, .int .u64 40, .int .u64 40]
def ksh : Array Value := #[.int .i64 3, .int .i64 8, .int .i64 10, .int .i64 5, .int .i64 0, .int .i64 8, .int .i64 10, .int .i64 5, .int .i64 16, .int .i64 8, .int .i64 10, .int .i64 5, .int .i64 1, .int .i64 1, .int .i64 10, .int .i64 5, .int .i64 1, .int .i64 4097, .int .i64 10, .int .i64 5, .int .i64 1, .int .i64 2, .int .i64 0, .int .i64 5, .int .i64 1, .int .i64 2, .int .i64 5121, .int .i64 5, .int .i64 1, .int .i64 2, .int .i64 1, .int .i64 0, .int .i64 1, .int .i64 2, .int .i64 1, .int .i64 4097]
theorem worst_at : ∀ i : Nat, i < 12 → cost_Worst.f 20 1 4 20 10 2 100 2 8 10 5 (i : Int) = some (rd wants (i : Int), 0) ∧ kwa[i]? = some (.int .u64 (rd wants (i : Int))) := by
  intro i hi
  have h : i = 0 ∨ i = 1 ∨ i = 2 ∨ i = 3 ∨ i = 4 ∨ i = 5 ∨ i = 6 ∨ i = 7 ∨ i = 8 ∨ i = 9 ∨ i = 10 ∨ i = 11 := by omega
  rcases h with rfl | rfl | rfl | rfl | rfl | rfl | rfl | rfl | rfl | rfl | rfl | rfl <;> exact ⟨by kernel_rfl, rfl⟩
/-- Costs that may not be. -/
def Wrong (x0 x1 x2 x3 x4 x5 : Int) : Prop := cost_Check.f 40 x0 x1 x2 x3 x4 x5 = some 100 ∧ cost_Touch.f 40 x0 x1 x2 x3 x4 x5 false false = some (0, 100) ∧ cost_Worst.f 40 x0 x1 x2 x3 x4 x5 0 0 0 0 1 = some (0, 100) ∧ cost_Most.f 40 x0 x1 x2 x3 x4 x5 0 0 0 0 = some (0, 100) ∧ cost_Switch.f 40 x0 x1 x2 x3 x4 x5 (-1) 0 = some (0, 100)
structure C6 where
  x0 : Int
  x1 : Int
  x2 : Int
  x3 : Int
  x4 : Int
  x5 : Int
def C6.cells (c : C6) : List Value := [.int .u64 c.x0, .int .u64 c.x1, .int .u64 c.x2, .int .u64 c.x3, .int .u64 c.x4, .int .u64 c.x5]
def wr6 : List C6 := [⟨0, 4, 20, 10, 2, 100⟩, ⟨1, 0, 20, 10, 2, 100⟩, ⟨1, 4, 3, 10, 2, 100⟩, ⟨5, 4, 20, 10, 2, 100⟩, ⟨1, 4, 65537, 10, 2, 100⟩, ⟨1, 4, 20, 0, 2, 100⟩, ⟨1, 4, 20, 10, 0, 100⟩, ⟨1, 4, 20, 10, 2, 0⟩, ⟨1, 4, 20, 10, 2, 65537⟩, ⟨1, 4, 20, 10, 18446744073709551615, 100⟩]
def flat (n : Nat) : List Value := ((wr6.take n).map C6.cells).flatten
theorem wrong_at : ∀ i : Nat, i < 10 → ∃ c : C6, wr6[i]? = some c ∧ Wrong c.x0 c.x1 c.x2 c.x3 c.x4 c.x5 ∧ flat (i + 1) = flat i ++ c.cells ∧ (∀ j, j < 6 → (flat 10)[i * 6 + j]? = c.cells[j]?) := by
  intro i hi
  have h : i = 0 ∨ i = 1 ∨ i = 2 ∨ i = 3 ∨ i = 4 ∨ i = 5 ∨ i = 6 ∨ i = 7 ∨ i = 8 ∨ i = 9 := by omega
  rcases h with rfl | rfl | rfl | rfl | rfl | rfl | rfl | rfl | rfl | rfl
  · exact ⟨⟨0, 4, 20, 10, 2, 100⟩, rfl, ⟨by kernel_rfl, by kernel_rfl, by kernel_rfl, by kernel_rfl, by kernel_rfl⟩, rfl, fun j hj => by
      have h : j = 0 ∨ j = 1 ∨ j = 2 ∨ j = 3 ∨ j = 4 ∨ j = 5 := by omega
      rcases h with rfl | rfl | rfl | rfl | rfl | rfl <;> rfl⟩
  · exact ⟨⟨1, 0, 20, 10, 2, 100⟩, rfl, ⟨by kernel_rfl, by kernel_rfl, by kernel_rfl, by kernel_rfl, by kernel_rfl⟩, rfl, fun j hj => by
      have h : j = 0 ∨ j = 1 ∨ j = 2 ∨ j = 3 ∨ j = 4 ∨ j = 5 := by omega
      rcases h with rfl | rfl | rfl | rfl | rfl | rfl <;> rfl⟩
  · exact ⟨⟨1, 4, 3, 10, 2, 100⟩, rfl, ⟨by kernel_rfl, by kernel_rfl, by kernel_rfl, by kernel_rfl, by kernel_rfl⟩, rfl, fun j hj => by
      have h : j = 0 ∨ j = 1 ∨ j = 2 ∨ j = 3 ∨ j = 4 ∨ j = 5 := by omega
      rcases h with rfl | rfl | rfl | rfl | rfl | rfl <;> rfl⟩
  · exact ⟨⟨5, 4, 20, 10, 2, 100⟩, rfl, ⟨by kernel_rfl, by kernel_rfl, by kernel_rfl, by kernel_rfl, by kernel_rfl⟩, rfl, fun j hj => by
      have h : j = 0 ∨ j = 1 ∨ j = 2 ∨ j = 3 ∨ j = 4 ∨ j = 5 := by omega
      rcases h with rfl | rfl | rfl | rfl | rfl | rfl <;> rfl⟩
  · exact ⟨⟨1, 4, 65537, 10, 2, 100⟩, rfl, ⟨by kernel_rfl, by kernel_rfl, by kernel_rfl, by kernel_rfl, by kernel_rfl⟩, rfl, fun j hj => by
      have h : j = 0 ∨ j = 1 ∨ j = 2 ∨ j = 3 ∨ j = 4 ∨ j = 5 := by omega
      rcases h with rfl | rfl | rfl | rfl | rfl | rfl <;> rfl⟩
  · exact ⟨⟨1, 4, 20, 0, 2, 100⟩, rfl, ⟨by kernel_rfl, by kernel_rfl, by kernel_rfl, by kernel_rfl, by kernel_rfl⟩, rfl, fun j hj => by
      have h : j = 0 ∨ j = 1 ∨ j = 2 ∨ j = 3 ∨ j = 4 ∨ j = 5 := by omega
      rcases h with rfl | rfl | rfl | rfl | rfl | rfl <;> rfl⟩
  · exact ⟨⟨1, 4, 20, 10, 0, 100⟩, rfl, ⟨by kernel_rfl, by kernel_rfl, by kernel_rfl, by kernel_rfl, by kernel_rfl⟩, rfl, fun j hj => by
      have h : j = 0 ∨ j = 1 ∨ j = 2 ∨ j = 3 ∨ j = 4 ∨ j = 5 := by omega
      rcases h with rfl | rfl | rfl | rfl | rfl | rfl <;> rfl⟩
  · exact ⟨⟨1, 4, 20, 10, 2, 0⟩, rfl, ⟨by kernel_rfl, by kernel_rfl, by kernel_rfl, by kernel_rfl, by kernel_rfl⟩, rfl, fun j hj => by
      have h : j = 0 ∨ j = 1 ∨ j = 2 ∨ j = 3 ∨ j = 4 ∨ j = 5 := by omega
      rcases h with rfl | rfl | rfl | rfl | rfl | rfl <;> rfl⟩
  · exact ⟨⟨1, 4, 20, 10, 2, 65537⟩, rfl, ⟨by kernel_rfl, by kernel_rfl, by kernel_rfl, by kernel_rfl, by kernel_rfl⟩, rfl, fun j hj => by
      have h : j = 0 ∨ j = 1 ∨ j = 2 ∨ j = 3 ∨ j = 4 ∨ j = 5 := by omega
      rcases h with rfl | rfl | rfl | rfl | rfl | rfl <;> rfl⟩
  · exact ⟨⟨1, 4, 20, 10, 18446744073709551615, 100⟩, rfl, ⟨by kernel_rfl, by kernel_rfl, by kernel_rfl, by kernel_rfl, by kernel_rfl⟩, rfl, fun j hj => by
      have h : j = 0 ∨ j = 1 ∨ j = 2 ∨ j = 3 ∨ j = 4 ∨ j = 5 := by omega
      rcases h with rfl | rfl | rfl | rfl | rfl | rfl <;> rfl⟩
theorem shape_at : ∀ i : Nat, i < 9 → ∃ y0 y1 y2 y3 : Int, ksh[i * 4]? = some (.int .i64 y0) ∧ ksh[i * 4 + 1]? = some (.int .i64 y1) ∧ ksh[i * 4 + 2]? = some (.int .i64 y2) ∧ ksh[i * 4 + 3]? = some (.int .i64 y3) ∧ cost_Worst.f 40 1 4 20 10 2 100 y0 y1 y2 y3 0 = some (0, 2) ∧ cost_Most.f 40 1 4 20 10 2 100 y0 y1 y2 y3 = some (0, 2) := by
  intro i hi
  have h : i = 0 ∨ i = 1 ∨ i = 2 ∨ i = 3 ∨ i = 4 ∨ i = 5 ∨ i = 6 ∨ i = 7 ∨ i = 8 := by omega
  rcases h with rfl | rfl | rfl | rfl | rfl | rfl | rfl | rfl | rfl
  · exact ⟨3, 8, 10, 5, rfl, rfl, rfl, rfl, by kernel_rfl, by kernel_rfl⟩
  · exact ⟨0, 8, 10, 5, rfl, rfl, rfl, rfl, by kernel_rfl, by kernel_rfl⟩
  · exact ⟨16, 8, 10, 5, rfl, rfl, rfl, rfl, by kernel_rfl, by kernel_rfl⟩
  · exact ⟨1, 1, 10, 5, rfl, rfl, rfl, rfl, by kernel_rfl, by kernel_rfl⟩
  · exact ⟨1, 4097, 10, 5, rfl, rfl, rfl, rfl, by kernel_rfl, by kernel_rfl⟩
  · exact ⟨1, 2, 0, 5, rfl, rfl, rfl, rfl, by kernel_rfl, by kernel_rfl⟩
  · exact ⟨1, 2, 5121, 5, rfl, rfl, rfl, rfl, by kernel_rfl, by kernel_rfl⟩
  · exact ⟨1, 2, 1, 0, rfl, rfl, rfl, rfl, by kernel_rfl, by kernel_rfl⟩
  · exact ⟨1, 2, 1, 4097, rfl, rfl, rfl, rfl, by kernel_rfl, by kernel_rfl⟩
theorem most_v : cost_Most.f 40 1 4 20 10 2 100 2 8 10 5 = some (2728, 0) := by kernel_rfl
theorem big_w : cost_Worst.f 40 65536 65536 65536 65536 65536 65536 8 4096 5120 4096 3 = some (5302190080, 0) := by kernel_rfl
theorem sw1 : cost_Switch.f 40 1 4 20 10 2 100 (-1) 0 = some (0, 2) := by kernel_rfl
theorem sw2 : cost_Switch.f 40 1 4 20 10 2 100 65537 0 = some (0, 2) := by kernel_rfl
theorem sw3 : cost_Switch.f 40 1 4 20 10 2 100 0 65 = some (0, 2) := by kernel_rfl
theorem sw4 : cost_Switch.f 40 1 4 20 10 2 100 0 (-1) = some (0, 2) := by kernel_rfl
theorem sw5 : cost_Switch.f 40 65536 65536 65536 65536 65536 65536 65536 64 = some (4299161600, 0) := by kernel_rfl
theorem works_v : cofferdamlaw10_works.f 60 = some true := by kernel_rfl
theorem ck1 : cost_Check.f 40 1 4 20 10 2 100 = some 0 := by kernel_rfl
theorem ck2 : cost_Check.f 40 65536 65536 65536 65536 65536 65536 = some 0 := by kernel_rfl
end Go.Proofs.Ytpodcbaechlejaa.H
