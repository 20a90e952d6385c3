/- CyclesPlays: the row of the law: whatever the input, the law's function returns true, and the input reads as it did. -/
import Derived.Test.YtnihobcmaabmfaaRows
import Derived.Test.YtnihobcmaabmfaaR
import Derived.Test.YtnihobcmaabmfaaC5
import Derived.Test.YtnihobcmaabmfaaWSized
import Derived.WalkKit
import Derived.ProofKit
import Derived.OpenShut
import Derived.ShutString
import Derived.ChangeOld
import Derived.Below
import Derived.SizedLaws
import Derived.ChangeArms
import Derived.Lib.SmallJoins
namespace Go.Proofs.Ytnihobcmaabmfaa.cyclesPlays
open Go.Joins Go.ChangeShapes Go.WideShapes Go.ChangeAt Go.RowKit Go.Deep
open Go.ChangeMaps (open_string shut_string)
set_option linter.unusedVariables false
theorem own : ownKnob Try.prog.godebug = none := by kernel_rfl
theorem laidOut : laidOutB Try.prog = true := by kernel_rfl
set_option maxRecDepth 100000 in
theorem lifted (os : Os) (started : os.Started) (H : Type) (enc : TypeId × Value → H) :
    ReturnsInHanded {} Try.checked os 3 .any (Rows.cyclesPlaysSpec.pre6 enc Try.prog Try.f3 Rows.cyclesPlaysRow.domain false) (Rows.cyclesPlaysSpec.post enc Try.prog Try.f3 false true false false) := by
  refine returnsInHanded_of_change_sized (C := Try.checked) own started (by kernel_rfl) Try.func3
    (ChangeSpec.witness6 (enc := enc) (C := Try.checked) false ⟨#[], #[.agg #[.int .u64 0, .int .u64 0, .int .u64 0], .slice none 0 0], []⟩ 8 (by kernel_rfl) (by kernel_rfl) (by kernel_rfl) (by kernel_rfl)) ?_
  intro W base args ds gs before hval0 hW hcnd hsz0 _
  have hsz : (DataW.weightsEach Try.prog (Try.f3.params.toList ++ Rows.cyclesPlaysSpec.plain.varTypes Try.prog) (ds ++ gs)).all (· ≤ reachBytes) = true := hsz0
  have hval : ∀ (j : Nat) t v, Try.f3.params[j]? = some t → args[j]? = some v → Value.okWide Try.prog W .any base t v := hval0
  have hW' := hW
  obtain ⟨p, q, hA0, hV, rfl, hfz, hnd⟩ := hW
  have hA : DataW.TrodAll enc Try.prog W 0 (fun _ => true) true Try.f3.params.toList args.toList ds p := hA0
  rw [Try.params3] at hA hval hsz
  obtain ⟨v0, vs0, d0, ds0, p0, q0, hargs, rfl, rfl, h0, r0⟩ := trodAll_cons hA
  obtain ⟨v1, vs1, d1, ds1, p1, q1, rfl, rfl, rfl, h1, r1⟩ := trodAll_cons r0
  obtain ⟨rfl, rfl, rfl⟩ := trodAll_nil r1
  obtain rfl : args = #[v0, v1] := by cases args; simp_all
  obtain ⟨rfl, rfl⟩ := trodVars_none hV
  have k0 := h0
  have lt0 : ∀ x ∈ p0, x.block < W.heap.size := by obtain ⟨m, hm⟩ := k0; exact DataW.trod_lt m _ _ _ hm
  obtain ⟨xs0, hl0, hv0, hw0⟩ := Rw.open_ar Try.underlying23 Try.underlying22 (by kernel_rfl) (by kernel_rfl) (hval 0 23 v0 rfl rfl) h0
  obtain ⟨a0_0, a0_1, a0_2, rfl⟩ : ∃ a0_0 a0_1 a0_2 : Int, xs0 = [a0_0, a0_1, a0_2] := by
    match xs0, hl0 with
    | [a0_0, a0_1, a0_2], _ => exact ⟨a0_0, a0_1, a0_2, rfl⟩
  replace hv0 : v0 = .agg #[.int .u64 a0_0, .int .u64 a0_1, .int .u64 a0_2] := hv0
  subst hv0
  have k1 := h1
  have lt1 : ∀ x ∈ p1, x.block < W.heap.size := by obtain ⟨m, hm⟩ := k1; exact DataW.trod_lt m _ _ _ hm
  obtain ⟨a1, n1, c1, rfl⟩ := okWide_slice Try.underlying24 (hval 1 24 v1 rfl rfl)
  have w1 : n1 ≤ c1 ∧ c1 ≤ maxLen ∧ ∀ i, i < n1 → ∃ (ad : Addr) (x0 : Int) (x1 : Int), a1 = some ad ∧ W.cell? (ad.add (i * 2 + 0)) = some (.int .i64 x0) ∧ (Lit.int .i64 x0).wf = true ∧ W.cell? (ad.add (i * 2 + 1)) = some (.int .u64 x1) ∧ (Lit.int .u64 x1).wf = true := by
    obtain ⟨fuel, hf⟩ := h1
    rcases Rw.open_slice_fields Try.underlying24 Try.underlying38 (by kernel_rfl) (by kernel_rfl) hf with hcs | ⟨x, l, c, hcs, hlc, hcm, hall⟩
    · simp [Value.cells] at hcs
      obtain ⟨rfl, rfl, rfl⟩ := hcs
      exact ⟨Nat.le_refl _, Nat.zero_le _, fun i hi => absurd hi (Nat.not_lt_zero _)⟩
    · simp [Value.cells] at hcs
      obtain ⟨rfl, rfl, rfl⟩ := hcs
      refine ⟨hlc, hcm, fun i hi => ?_⟩
      obtain ⟨m0, u0, y0, hc0, ht0⟩ := hall i hi 0 _ rfl
      obtain ⟨x0, rfl, hw0⟩ := Rw.field_int Try.underlying3 ht0
      obtain ⟨m1, u1, y1, hc1, ht1⟩ := hall i hi 1 _ rfl
      obtain ⟨x1, rfl, hw1⟩ := Rw.field_int Try.underlying22 ht1
      exact ⟨x, x0, x1, rfl, hc0, hw0, hc1, hw1⟩
  clear hA0 hval0 hsz0 hsz
  refine (Go.Proofs.Ytnihobcmaabmfaa.H.plays a0_0 a0_1 a0_2 a1 n1 c1 W (hw0 a0_0 (by simp)) (hw0 a0_1 (by simp)) (hw0 a0_2 (by simp)) w1).mono fun e W' ⟨he, bel⟩ => ?_
  subst he
  exact ⟨_, rfl, _, _, _, [], _, [], hW', trodAll_mk1 (shut_bool Try.underlying4 _), (trodAll_cons_mk (Below.trod laidOut (by kernel_rfl) (of_decide_eq_true (by kernel_rfl)) k0 bel lt0) (trodAll_cons_mk (Below.trod laidOut (by kernel_rfl) (of_decide_eq_true (by kernel_rfl)) k1 bel lt1) trodAll_mk0)), rfl, bel.frame _, fun h => by cases h⟩
theorem over : Rows.cyclesPlaysRow.holds Try.pinned (OpenSpec.ofChange Rows.cyclesPlaysSpec) :=
  OpenClaim.holds_of_wide 3 Try.f3 rfl rfl rfl rfl rfl rfl rfl ⟨rfl, rfl, rfl, rfl, rfl⟩ rfl rfl rfl rfl rfl (by kernel_rfl) Try.func3 (by kernel_rfl)
    (of_decide_eq_true (by kernel_rfl)) (by unfold Func.isWrapper; first | (rw [if_pos (by decide +kernel)]; kernel_rfl) | (rw [if_neg (by decide +kernel)]; exact ⟨rfl, rfl⟩))
    (fun os started H enc _ => lifted os started H enc)
theorem proved : Rows.CyclesPlaysSaid := over
#print axioms proved
end Go.Proofs.Ytnihobcmaabmfaa.cyclesPlays
namespace Go.Proofs.Ytnihobcmaabmfaa
/-- The row, under a short name, for the claim. -/
theorem cyclesPlays_holds : Rows.CyclesPlaysSaid := cyclesPlays.proved
end Go.Proofs.Ytnihobcmaabmfaa
