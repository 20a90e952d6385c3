/- CyclesFixed: the row of the law: whatever the input, the law's function returns true, and the input reads as it did. -/
import Derived.Test.YtnihobcmaabmfaaRows
import Derived.Test.YtnihobcmaabmfaaR
import Derived.Test.YtnihobcmaabmfaaC7
import Derived.Test.YtnihobcmaabmfaaWSized
import Derived.WalkKit
import Derived.ProofKit
import Derived.OpenShut
import Derived.ShutString
import Derived.ChangeOld
import Derived.Below
import Derived.SizedLaws
import Derived.ChangeArms
import Derived.Lib.SmallJoins
namespace Go.Proofs.Ytnihobcmaabmfaa.cyclesFixed
open Go.Joins Go.ChangeShapes Go.WideShapes Go.ChangeAt Go.RowKit Go.Deep
open Go.ChangeMaps (open_string shut_string)
set_option linter.unusedVariables false
theorem own : ownKnob Try.prog.godebug = none := by kernel_rfl
theorem laidOut : laidOutB Try.prog = true := by kernel_rfl
set_option maxRecDepth 100000 in
theorem lifted (os : Os) (started : os.Started) (H : Type) (enc : TypeId × Value → H) :
    ReturnsInHanded {} Try.checked os 4 .any (Rows.cyclesFixedSpec.pre6 enc Try.prog Try.f4 Rows.cyclesFixedRow.domain false) (Rows.cyclesFixedSpec.post enc Try.prog Try.f4 false true false false) := by
  refine returnsInHanded_of_change_sized (C := Try.checked) own started (by kernel_rfl) Try.func4
    (ChangeSpec.witness6 (enc := enc) (C := Try.checked) false ⟨#[], #[.agg #[.int .u64 0, .int .u64 0, .int .u64 0], .slice none 0 0, .slice none 0 0], []⟩ 8 (by kernel_rfl) (by kernel_rfl) (by kernel_rfl) (by kernel_rfl)) ?_
  intro W base args ds gs before hval0 hW hcnd hsz0 _
  have hsz : (DataW.weightsEach Try.prog (Try.f4.params.toList ++ Rows.cyclesFixedSpec.plain.varTypes Try.prog) (ds ++ gs)).all (· ≤ reachBytes) = true := hsz0
  have hval : ∀ (j : Nat) t v, Try.f4.params[j]? = some t → args[j]? = some v → Value.okWide Try.prog W .any base t v := hval0
  have hW' := hW
  obtain ⟨p, q, hA0, hV, rfl, hfz, hnd⟩ := hW
  have hA : DataW.TrodAll enc Try.prog W 0 (fun _ => true) true Try.f4.params.toList args.toList ds p := hA0
  rw [Try.params4] at hA hval hsz
  obtain ⟨v0, vs0, d0, ds0, p0, q0, hargs, rfl, rfl, h0, r0⟩ := trodAll_cons hA
  obtain ⟨v1, vs1, d1, ds1, p1, q1, rfl, rfl, rfl, h1, r1⟩ := trodAll_cons r0
  obtain ⟨v2, vs2, d2, ds2, p2, q2, rfl, rfl, rfl, h2, r2⟩ := trodAll_cons r1
  obtain ⟨rfl, rfl, rfl⟩ := trodAll_nil r2
  obtain rfl : args = #[v0, v1, v2] := by cases args; simp_all
  obtain ⟨rfl, rfl⟩ := trodVars_none hV
  have k0 := h0
  have lt0 : ∀ x ∈ p0, x.block < W.heap.size := by obtain ⟨m, hm⟩ := k0; exact DataW.trod_lt m _ _ _ hm
  obtain ⟨xs0, hl0, hv0, hw0⟩ := Rw.open_ar Try.underlying23 Try.underlying22 (by kernel_rfl) (by kernel_rfl) (hval 0 23 v0 rfl rfl) h0
  obtain ⟨a0_0, a0_1, a0_2, rfl⟩ : ∃ a0_0 a0_1 a0_2 : Int, xs0 = [a0_0, a0_1, a0_2] := by
    match xs0, hl0 with
    | [a0_0, a0_1, a0_2], _ => exact ⟨a0_0, a0_1, a0_2, rfl⟩
  replace hv0 : v0 = .agg #[.int .u64 a0_0, .int .u64 a0_1, .int .u64 a0_2] := hv0
  subst hv0
  have k1 := h1
  have lt1 : ∀ x ∈ p1, x.block < W.heap.size := by obtain ⟨m, hm⟩ := k1; exact DataW.trod_lt m _ _ _ hm
  obtain ⟨a1, n1, c1, rfl⟩ := okWide_slice Try.underlying42 (hval 1 42 v1 rfl rfl)
  obtain ⟨z1, w1⟩ : ∃ zs, Rw.IsRow .u64 W a1 n1 c1 zs := by
    obtain ⟨fuel, hf⟩ := h1
    obtain ⟨a_, l_, c_, z_, he_, hr_⟩ := Rw.field_ints Try.underlying42 Try.underlying22 (by kernel_rfl) (by simpa [Value.cells] using hf)
    injection he_ with e1 e2 e3
    subst e1 e2 e3
    exact ⟨z_, hr_⟩
  have y1 : n1 * 8 ≤ 140737488351232 := Go.Proofs.YtnihobcmaabmfaaW.PrintWords.sized_ints hsz (j := 1) (t := 42) rfl rfl Try.underlying42 Try.underlying22 (by kernel_rfl) (by kernel_rfl) h1
  have k2 := h2
  have lt2 : ∀ x ∈ p2, x.block < W.heap.size := by obtain ⟨m, hm⟩ := k2; exact DataW.trod_lt m _ _ _ hm
  obtain ⟨a2, n2, c2, rfl⟩ := okWide_slice Try.underlying42 (hval 2 42 v2 rfl rfl)
  obtain ⟨z2, w2⟩ : ∃ zs, Rw.IsRow .u64 W a2 n2 c2 zs := by
    obtain ⟨fuel, hf⟩ := h2
    obtain ⟨a_, l_, c_, z_, he_, hr_⟩ := Rw.field_ints Try.underlying42 Try.underlying22 (by kernel_rfl) (by simpa [Value.cells] using hf)
    injection he_ with e1 e2 e3
    subst e1 e2 e3
    exact ⟨z_, hr_⟩
  have y2 : n2 * 8 ≤ 140737488351232 := Go.Proofs.YtnihobcmaabmfaaW.PrintWords.sized_ints hsz (j := 2) (t := 42) rfl rfl Try.underlying42 Try.underlying22 (by kernel_rfl) (by kernel_rfl) h2
  clear hA0 hval0 hsz0 hsz
  refine (Go.Proofs.Ytnihobcmaabmfaa.H.fixed_any a0_0 a0_1 a0_2 a1 n1 c1 z1 a2 n2 c2 z2 W (hw0 a0_0 (by simp)) (hw0 a0_1 (by simp)) (hw0 a0_2 (by simp)) w1 y1 w2 y2).mono fun e W' ⟨he, bel⟩ => ?_
  subst he
  exact ⟨_, rfl, _, _, _, [], _, [], hW', trodAll_mk1 (shut_bool Try.underlying4 _), (trodAll_cons_mk (Below.trod laidOut (by kernel_rfl) (of_decide_eq_true (by kernel_rfl)) k0 bel lt0) (trodAll_cons_mk (Below.trod laidOut (by kernel_rfl) (of_decide_eq_true (by kernel_rfl)) k1 bel lt1) (trodAll_cons_mk (Below.trod laidOut (by kernel_rfl) (of_decide_eq_true (by kernel_rfl)) k2 bel lt2) trodAll_mk0))), rfl, bel.frame _, fun h => by cases h⟩
theorem over : Rows.cyclesFixedRow.holds Try.pinned (OpenSpec.ofChange Rows.cyclesFixedSpec) :=
  OpenClaim.holds_of_wide 4 Try.f4 rfl rfl rfl rfl rfl rfl rfl ⟨rfl, rfl, rfl, rfl, rfl⟩ rfl rfl rfl rfl rfl (by kernel_rfl) Try.func4 (by kernel_rfl)
    (of_decide_eq_true (by kernel_rfl)) (by unfold Func.isWrapper; first | (rw [if_pos (by decide +kernel)]; kernel_rfl) | (rw [if_neg (by decide +kernel)]; exact ⟨rfl, rfl⟩))
    (fun os started H enc _ => lifted os started H enc)
theorem proved : Rows.CyclesFixedSaid := over
#print axioms proved
end Go.Proofs.Ytnihobcmaabmfaa.cyclesFixed
namespace Go.Proofs.Ytnihobcmaabmfaa
/-- The row, under a short name, for the claim. -/
theorem cyclesFixed_holds : Rows.CyclesFixedSaid := cyclesFixed.proved
end Go.Proofs.Ytnihobcmaabmfaa
