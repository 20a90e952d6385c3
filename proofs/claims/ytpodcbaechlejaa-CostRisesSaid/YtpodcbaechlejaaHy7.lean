-- Written by hprint.py, a program of this session's, over the kit's printer.
import Derived.Test.YtpodcbaechlejaaHx0
import Derived.Test.YtpodcbaechlejaaHx2
import Derived.Test.YtpodcbaechlejaaHz
import Derived.Test.YtpodcbaechlejaaB
namespace Go.Proofs.Ytpodcbaechlejaa.H
open Go.RowKit Go.Proofs.YtpodcbaechlejaaW.PrintWords Go.Proofs.YtpodcbaechlejaaW.PrintLast Go.Proofs.YtpodcbaechlejaaW.PrintMore
attribute [local go_sem] max2_int min2_int max_two min_two max_three min_three max_four min_four   -- for this text's walks alone
set_option linter.unusedVariables false
set_option linter.unusedSimpArgs false

/-! ### cofferdamlaw10_CostRises: function 6 -/
def Lw.l0 : Nat → Int → Bool → Int → Int → Int → Int → Int → Int → Int → Int → Int → Int → Int → Int → Int → Int → Int → Int → Int → Int → Int → Int → Int → Option (Bool)
  | 0, _, _, _, _, _, _, _, _, _, _, _, _, _, _, _, _, _, _, _, _, _, _, _ => none
  | k + 1, x7, x11, x12, x255000, x255001, x255002, x255003, x255004, x255005, x256000, x256001, x256002, x256003, x265000, x265001, x265002, x265003, x265004, x265005, x266000, x266001, x266002, x266003 => if x12 < 20 then ((cost_Worst.f k x255000 x255001 x255002 x255003 x255004 x255005 x256000 x256001 x256002 x256003 ((x12) % 256)).bind fun bt269 => ((cost_Worst.f k x265000 x265001 x265002 x265003 x265004 x265005 x266000 x266001 x266002 x266003 ((x12) % 256)).bind fun bt271 => (if bt269.2 = 0 then (if bt271.2 = 0 then (if bt269.1 > bt271.1 then (some false) else (if bt269.1 > x7 then (some false) else (if bt269.1 < (IntKind.u64.wrap ((IntKind.u64.wrap (x256000)) * x255002)) then (some false) else (if bt271.1 ≥ 1099511627776 then (some false) else (if x11 = true then (Lw.l0 k x7 true (wrap64 (x12 + 1)) x255000 x255001 x255002 x255003 x255004 x255005 x256000 x256001 x256002 x256003 x265000 x265001 x265002 x265003 x265004 x265005 x266000 x266001 x266002 x266003) else (Lw.l0 k x7 (bt269.1 == x7) (wrap64 (x12 + 1)) x255000 x255001 x255002 x255003 x255004 x255005 x256000 x256001 x256002 x256003 x265000 x265001 x265002 x265003 x265004 x265005 x266000 x266001 x266002 x266003)))))) else (some false)) else (some false)))) else (some x11)
def Lw.f (k : Nat) (D0 : Int) (D1 : Int) (D2 : Int) (D3 : Int) (D4 : Int) (D5 : Int) (E0 : Int) (E1 : Int) (E2 : Int) (E3 : Int) (G0 : Int) (G1 : Int) (G2 : Int) (G3 : Int) (G4 : Int) (G5 : Int) (G6 : Int) : Option (Bool) := (cofferdamlaw10_works.f k).bind fun t257 => (if t257 = true then ((cost_Most.f k D0 D1 D2 D3 D4 D5 E0 E1 E2 E3).bind fun bt258 => (if bt258.2 = 0 then ((cofferdamlaw10_up.f D2 G0 65536).bind fun t260 => ((cofferdamlaw10_up.f D3 G1 65536).bind fun t261 => ((cofferdamlaw10_up.f D4 G2 65536).bind fun t262 => ((cofferdamlaw10_up.f D5 G3 65536).bind fun t263 => ((cofferdamlaw10_up.f (IntKind.u64.wrap (E1)) (IntKind.u64.wrap (mx 0 G4)) 4096).bind fun t266 => ((cofferdamlaw10_up.f (IntKind.u64.wrap (E2)) (IntKind.u64.wrap (mx 0 G5)) 5120).bind fun t267 => ((cofferdamlaw10_up.f (IntKind.u64.wrap (E3)) (IntKind.u64.wrap (mx 0 G6)) 4096).bind fun t268 => (Lw.l0 k bt258.1 false 0 D0 D1 D2 D3 D4 D5 E0 E1 E2 E3 D0 D1 t260 t261 t262 t263 E0 (wrap64 (t266)) (wrap64 (t267)) (wrap64 (t268)))))))))) else (some true))) else (some false))
theorem Lw.mono_l : ∀ k, (∀ y0 y1 y2 y3 y4 y5 y6 y7 y8 y9 y10 y11 y12 y13 y14 y15 y16 y17 y18 y19 y20 y21 y22, LeO (Lw.l0 k y0 y1 y2 y3 y4 y5 y6 y7 y8 y9 y10 y11 y12 y13 y14 y15 y16 y17 y18 y19 y20 y21 y22) (Lw.l0 (k + 1) y0 y1 y2 y3 y4 y5 y6 y7 y8 y9 y10 y11 y12 y13 y14 y15 y16 y17 y18 y19 y20 y21 y22))
  | 0 => fun _ _ _ _ _ _ _ _ _ _ _ _ _ _ _ _ _ _ _ _ _ _ _ r h => by simp [Lw.l0] at h
  | k + 1 => by
    have ih0 := Lw.mono_l k
    · intro y0 y1 y2 y3 y4 y5 y6 y7 y8 y9 y10 y11 y12 y13 y14 y15 y16 y17 y18 y19 y20 y21 y22
      unfold Lw.l0
      repeat' first
      | (with_reducible exact ih0 _ _ _ _ _ _ _ _ _ _ _ _ _ _ _ _ _ _ _ _ _ _ _)
      | (with_reducible exact cofferdamlaw10_works.mono _)
      | (with_reducible exact cost_Most.mono _ _ _ _ _ _ _ _ _ _ _)
      | (with_reducible exact cost_Worst.mono _ _ _ _ _ _ _ _ _ _ _ _)
      | (with_reducible exact LeO.refl _)
      | (with_reducible exact LeO.none _)
      | (with_reducible refine LeO.ite ?_ ?_)
      | (with_reducible refine LeO.bind ?_ (fun _ => ?_))
      | exact ih0 _ _ _ _ _ _ _ _ _ _ _ _ _ _ _ _ _ _ _ _ _ _ _
      | exact cofferdamlaw10_works.mono _
      | exact cost_Most.mono _ _ _ _ _ _ _ _ _ _ _
      | exact cost_Worst.mono _ _ _ _ _ _ _ _ _ _ _ _
      | exact LeO.none _
      | refine LeO.ite ?_ ?_
      | refine LeO.bind ?_ (fun _ => ?_)
theorem Lw.mono : ∀ a0 a1 a2 a3 a4 a5 a6 a7 a8 a9 a10 a11 a12 a13 a14 a15 a16 k, LeO (Lw.f k a0 a1 a2 a3 a4 a5 a6 a7 a8 a9 a10 a11 a12 a13 a14 a15 a16) (Lw.f (k + 1) a0 a1 a2 a3 a4 a5 a6 a7 a8 a9 a10 a11 a12 a13 a14 a15 a16) := by
  intro a0 a1 a2 a3 a4 a5 a6 a7 a8 a9 a10 a11 a12 a13 a14 a15 a16 k
  have ih0 := Lw.mono_l k
  unfold Lw.f
  repeat' first
      | (with_reducible exact ih0 _ _ _ _ _ _ _ _ _ _ _ _ _ _ _ _ _ _ _ _ _ _ _)
      | (with_reducible exact cofferdamlaw10_works.mono _)
      | (with_reducible exact cost_Most.mono _ _ _ _ _ _ _ _ _ _ _)
      | (with_reducible exact cost_Worst.mono _ _ _ _ _ _ _ _ _ _ _ _)
      | (with_reducible exact LeO.refl _)
      | (with_reducible exact LeO.none _)
      | (with_reducible refine LeO.ite ?_ ?_)
      | (with_reducible refine LeO.bind ?_ (fun _ => ?_))
      | exact ih0 _ _ _ _ _ _ _ _ _ _ _ _ _ _ _ _ _ _ _ _ _ _ _
      | exact cofferdamlaw10_works.mono _
      | exact cost_Most.mono _ _ _ _ _ _ _ _ _ _ _
      | exact cost_Worst.mono _ _ _ _ _ _ _ _ _ _ _ _
      | exact LeO.none _
      | refine LeO.ite ?_ ?_
      | refine LeO.bind ?_ (fun _ => ?_)
def Lw.T6 : Bool × List (List Nat × List Nat) := (true, [([], []), ([0], [0]), ([], []), ([2], [2]), ([], []), ([4], [4]), ([], []), ([6], [6]), ([5, 7], [5, 7]), ([], []), ([9], [9]), ([], []), ([11], [11]), ([10, 12, 8], [10, 12]), ([], []), ([14], [14]), ([], []), ([16], [16]), ([15, 17, 13], [15, 17]), ([], []), ([19], [19]), ([], []), ([21], [21]), ([20, 22, 18], [20, 22]), ([1, 3, 8, 13, 18, 23], [1, 3, 8, 13, 18, 23]), ([], []), ([25, 24, 23, 0, 1, 2, 3, 4, 5, 6, 7, 8, 9, 10, 11, 12, 13, 14, 15, 16, 17, 18, 19, 20, 21, 22, 23, 24, 25], [24, 25])])
def Lw.B6 : List Nat := [0, 1, 0, 4, 0, 16, 0, 64, 240, 0, 512, 0, 2048, 8176, 0, 16384, 0, 65536, 262128, 0, 524288, 0, 2097152, 8388592, 16777215, 0, 67108863]
theorem Lw.tab6 : rtab .any (opsOf Try.f6 6) = Lw.T6 := by kernel_rfl
theorem Lw.bits6 : waitsOk Lw.T6.2 Lw.B6 = true := by kernel_rfl
set_option maxHeartbeats 8000000 in
set_option maxRecDepth 100000 in
theorem Lw.calls (k : Nat) (D0 : Int) (D1 : Int) (D2 : Int) (D3 : Int) (D4 : Int) (D5 : Int) (E0 : Int) (E1 : Int) (E2 : Int) (E3 : Int) (G0 : Int) (G1 : Int) (G2 : Int) (G3 : Int) (G4 : Int) (G5 : Int) (G6 : Int) (r : Bool) (w : World) (h : Lw.f k D0 D1 D2 D3 D4 D5 E0 E1 E2 E3 G0 G1 G2 G3 G4 G5 G6 = some r) :
    Calls Try.prog 6 #[.agg #[.int .u64 D0, .int .u64 D1, .int .u64 D2, .int .u64 D3, .int .u64 D4, .int .u64 D5], .agg #[.int .i64 E0, .int .i64 E1, .int .i64 E2, .int .i64 E3], .agg #[.int .u64 G0, .int .u64 G1, .int .u64 G2, .int .u64 G3, .int .i64 G4, .int .i64 G5, .int .i64 G6]] w fun e w' => e = .returned (.bool r) ∧ Below w.heap.size w w' := by
  have hu24 := Try.underlying24
  have hu35 := Try.underlying35
  have hu42 := Try.underlying42
  have HB := Aside0.mk (Below.refl w.heap.size w)
  have H : ((cofferdamlaw10_works.f k).bind fun t257 => (if t257 = true then ((cost_Most.f k D0 D1 D2 D3 D4 D5 E0 E1 E2 E3).bind fun bt258 => (if bt258.2 = 0 then ((cofferdamlaw10_up.f D2 G0 65536).bind fun t260 => ((cofferdamlaw10_up.f D3 G1 65536).bind fun t261 => ((cofferdamlaw10_up.f D4 G2 65536).bind fun t262 => ((cofferdamlaw10_up.f D5 G3 65536).bind fun t263 => ((cofferdamlaw10_up.f (IntKind.u64.wrap (E1)) (IntKind.u64.wrap (mx 0 G4)) 4096).bind fun t266 => ((cofferdamlaw10_up.f (IntKind.u64.wrap (E2)) (IntKind.u64.wrap (mx 0 G5)) 5120).bind fun t267 => ((cofferdamlaw10_up.f (IntKind.u64.wrap (E3)) (IntKind.u64.wrap (mx 0 G6)) 4096).bind fun t268 => (Lw.l0 k bt258.1 false 0 D0 D1 D2 D3 D4 D5 E0 E1 E2 E3 D0 D1 t260 t261 t262 t263 E0 (wrap64 (t266)) (wrap64 (t267)) (wrap64 (t268)))))))))) else (some true))) else (some false))) = some r := h
  clear h
  replace H := Option.bind_eq_some_iff.mp H
  obtain ⟨t257, A40, H⟩ := H
  replace H : (if t257 = true then ((cost_Most.f k D0 D1 D2 D3 D4 D5 E0 E1 E2 E3).bind fun bt258 => (if bt258.2 = 0 then ((cofferdamlaw10_up.f D2 G0 65536).bind fun t260 => ((cofferdamlaw10_up.f D3 G1 65536).bind fun t261 => ((cofferdamlaw10_up.f D4 G2 65536).bind fun t262 => ((cofferdamlaw10_up.f D5 G3 65536).bind fun t263 => ((cofferdamlaw10_up.f (IntKind.u64.wrap (E1)) (IntKind.u64.wrap (mx 0 G4)) 4096).bind fun t266 => ((cofferdamlaw10_up.f (IntKind.u64.wrap (E2)) (IntKind.u64.wrap (mx 0 G5)) 5120).bind fun t267 => ((cofferdamlaw10_up.f (IntKind.u64.wrap (E3)) (IntKind.u64.wrap (mx 0 G6)) 4096).bind fun t268 => (Lw.l0 k bt258.1 false 0 D0 D1 D2 D3 D4 D5 E0 E1 E2 E3 D0 D1 t260 t261 t262 t263 E0 (wrap64 (t266)) (wrap64 (t267)) (wrap64 (t268)))))))))) else (some true))) else (some false)) = some r := H
  have A4 := Aside0.mk A40
  clear A40
  by_cases c5 : t257 = true
  · subst c5
    have H1 : ((cost_Most.f k D0 D1 D2 D3 D4 D5 E0 E1 E2 E3).bind fun bt258 => (if bt258.2 = 0 then ((cofferdamlaw10_up.f D2 G0 65536).bind fun t260 => ((cofferdamlaw10_up.f D3 G1 65536).bind fun t261 => ((cofferdamlaw10_up.f D4 G2 65536).bind fun t262 => ((cofferdamlaw10_up.f D5 G3 65536).bind fun t263 => ((cofferdamlaw10_up.f (IntKind.u64.wrap (E1)) (IntKind.u64.wrap (mx 0 G4)) 4096).bind fun t266 => ((cofferdamlaw10_up.f (IntKind.u64.wrap (E2)) (IntKind.u64.wrap (mx 0 G5)) 5120).bind fun t267 => ((cofferdamlaw10_up.f (IntKind.u64.wrap (E3)) (IntKind.u64.wrap (mx 0 G6)) 4096).bind fun t268 => (Lw.l0 k bt258.1 false 0 D0 D1 D2 D3 D4 D5 E0 E1 E2 E3 D0 D1 t260 t261 t262 t263 E0 (wrap64 (t266)) (wrap64 (t267)) (wrap64 (t268)))))))))) else (some true))) = some r := by rw [if_pos rfl] at H; exact H
    clear H
    have H := H1
    clear H1
    replace H := Option.bind_eq_some_iff.mp H
    obtain ⟨⟨t258, t259⟩, A60, H⟩ := H
    replace H : (if t259 = 0 then ((cofferdamlaw10_up.f D2 G0 65536).bind fun t260 => ((cofferdamlaw10_up.f D3 G1 65536).bind fun t261 => ((cofferdamlaw10_up.f D4 G2 65536).bind fun t262 => ((cofferdamlaw10_up.f D5 G3 65536).bind fun t263 => ((cofferdamlaw10_up.f (IntKind.u64.wrap (E1)) (IntKind.u64.wrap (mx 0 G4)) 4096).bind fun t266 => ((cofferdamlaw10_up.f (IntKind.u64.wrap (E2)) (IntKind.u64.wrap (mx 0 G5)) 5120).bind fun t267 => ((cofferdamlaw10_up.f (IntKind.u64.wrap (E3)) (IntKind.u64.wrap (mx 0 G6)) 4096).bind fun t268 => (Lw.l0 k t258 false 0 D0 D1 D2 D3 D4 D5 E0 E1 E2 E3 D0 D1 t260 t261 t262 t263 E0 (wrap64 (t266)) (wrap64 (t267)) (wrap64 (t268)))))))))) else (some true)) = some r := H
    have A6 := Aside0.mk A60
    clear A60
    by_cases c7 : t259 = 0
    · rw [if_pos c7] at H
      have c7b0 : (t259 == 0) = true := beq_iff_eq.mpr c7
      have c7b1 : (t259 != 0) = false := bne_eq_false_iff_eq.mpr c7
      clear c7
      replace H := Option.bind_eq_some_iff.mp H
      obtain ⟨t260, A80, H⟩ := H
      replace H : ((cofferdamlaw10_up.f D3 G1 65536).bind fun t261 => ((cofferdamlaw10_up.f D4 G2 65536).bind fun t262 => ((cofferdamlaw10_up.f D5 G3 65536).bind fun t263 => ((cofferdamlaw10_up.f (IntKind.u64.wrap (E1)) (IntKind.u64.wrap (mx 0 G4)) 4096).bind fun t266 => ((cofferdamlaw10_up.f (IntKind.u64.wrap (E2)) (IntKind.u64.wrap (mx 0 G5)) 5120).bind fun t267 => ((cofferdamlaw10_up.f (IntKind.u64.wrap (E3)) (IntKind.u64.wrap (mx 0 G6)) 4096).bind fun t268 => (Lw.l0 k t258 false 0 D0 D1 D2 D3 D4 D5 E0 E1 E2 E3 D0 D1 t260 t261 t262 t263 E0 (wrap64 (t266)) (wrap64 (t267)) (wrap64 (t268))))))))) = some r := H
      have A8 := Aside0.mk A80
      clear A80
      replace H := Option.bind_eq_some_iff.mp H
      obtain ⟨t261, A90, H⟩ := H
      replace H : ((cofferdamlaw10_up.f D4 G2 65536).bind fun t262 => ((cofferdamlaw10_up.f D5 G3 65536).bind fun t263 => ((cofferdamlaw10_up.f (IntKind.u64.wrap (E1)) (IntKind.u64.wrap (mx 0 G4)) 4096).bind fun t266 => ((cofferdamlaw10_up.f (IntKind.u64.wrap (E2)) (IntKind.u64.wrap (mx 0 G5)) 5120).bind fun t267 => ((cofferdamlaw10_up.f (IntKind.u64.wrap (E3)) (IntKind.u64.wrap (mx 0 G6)) 4096).bind fun t268 => (Lw.l0 k t258 false 0 D0 D1 D2 D3 D4 D5 E0 E1 E2 E3 D0 D1 t260 t261 t262 t263 E0 (wrap64 (t266)) (wrap64 (t267)) (wrap64 (t268)))))))) = some r := H
      have A9 := Aside0.mk A90
      clear A90
      replace H := Option.bind_eq_some_iff.mp H
      obtain ⟨t262, A100, H⟩ := H
      replace H : ((cofferdamlaw10_up.f D5 G3 65536).bind fun t263 => ((cofferdamlaw10_up.f (IntKind.u64.wrap (E1)) (IntKind.u64.wrap (mx 0 G4)) 4096).bind fun t266 => ((cofferdamlaw10_up.f (IntKind.u64.wrap (E2)) (IntKind.u64.wrap (mx 0 G5)) 5120).bind fun t267 => ((cofferdamlaw10_up.f (IntKind.u64.wrap (E3)) (IntKind.u64.wrap (mx 0 G6)) 4096).bind fun t268 => (Lw.l0 k t258 false 0 D0 D1 D2 D3 D4 D5 E0 E1 E2 E3 D0 D1 t260 t261 t262 t263 E0 (wrap64 (t266)) (wrap64 (t267)) (wrap64 (t268))))))) = some r := H
      have A10 := Aside0.mk A100
      clear A100
      replace H := Option.bind_eq_some_iff.mp H
      obtain ⟨t263, A110, H⟩ := H
      replace H : ((cofferdamlaw10_up.f (IntKind.u64.wrap (E1)) (IntKind.u64.wrap (mx 0 G4)) 4096).bind fun t266 => ((cofferdamlaw10_up.f (IntKind.u64.wrap (E2)) (IntKind.u64.wrap (mx 0 G5)) 5120).bind fun t267 => ((cofferdamlaw10_up.f (IntKind.u64.wrap (E3)) (IntKind.u64.wrap (mx 0 G6)) 4096).bind fun t268 => (Lw.l0 k t258 false 0 D0 D1 D2 D3 D4 D5 E0 E1 E2 E3 D0 D1 t260 t261 t262 t263 E0 (wrap64 (t266)) (wrap64 (t267)) (wrap64 (t268)))))) = some r := H
      have A11 := Aside0.mk A110
      clear A110
      obtain ⟨ji12, hji12⟩ : ∃ j_ : Int, (mx 0 G4) = j_ := ⟨_, rfl⟩
      replace H : ((cofferdamlaw10_up.f (IntKind.u64.wrap (E1)) (IntKind.u64.wrap (ji12)) 4096).bind fun t266 => ((cofferdamlaw10_up.f (IntKind.u64.wrap (E2)) (IntKind.u64.wrap (mx 0 G5)) 5120).bind fun t267 => ((cofferdamlaw10_up.f (IntKind.u64.wrap (E3)) (IntKind.u64.wrap (mx 0 G6)) 4096).bind fun t268 => (Lw.l0 k t258 false 0 D0 D1 D2 D3 D4 D5 E0 E1 E2 E3 D0 D1 t260 t261 t262 t263 E0 (wrap64 (t266)) (wrap64 (t267)) (wrap64 (t268)))))) = some r := by first | (rw [hji12] at H; exact H) | (simp only [hji12] at H ⊢; exact H)
      (try rw [hji12] at A4)
      (try rw [hji12] at A6)
      (try rw [hji12] at A8)
      (try rw [hji12] at A9)
      (try rw [hji12] at A10)
      (try rw [hji12] at A11)
      (try (have hji12l : 0 ≤ ji12 := by (rw [← hji12]; unfold mx; (repeat' split) <;> omega)))
      (try (have hji12m : 0 ≤ ji12 := by omega))
      have hji12_ : (if 0 < G4 then G4 else 0) = ji12 := hji12
      replace H := Option.bind_eq_some_iff.mp H
      obtain ⟨t266, A130, H⟩ := H
      replace H : ((cofferdamlaw10_up.f (IntKind.u64.wrap (E2)) (IntKind.u64.wrap (mx 0 G5)) 5120).bind fun t267 => ((cofferdamlaw10_up.f (IntKind.u64.wrap (E3)) (IntKind.u64.wrap (mx 0 G6)) 4096).bind fun t268 => (Lw.l0 k t258 false 0 D0 D1 D2 D3 D4 D5 E0 E1 E2 E3 D0 D1 t260 t261 t262 t263 E0 (wrap64 (t266)) (wrap64 (t267)) (wrap64 (t268))))) = some r := H
      have A13 := Aside0.mk A130
      clear A130
      obtain ⟨ji14, hji14⟩ : ∃ j_ : Int, (mx 0 G5) = j_ := ⟨_, rfl⟩
      replace H : ((cofferdamlaw10_up.f (IntKind.u64.wrap (E2)) (IntKind.u64.wrap (ji14)) 5120).bind fun t267 => ((cofferdamlaw10_up.f (IntKind.u64.wrap (E3)) (IntKind.u64.wrap (mx 0 G6)) 4096).bind fun t268 => (Lw.l0 k t258 false 0 D0 D1 D2 D3 D4 D5 E0 E1 E2 E3 D0 D1 t260 t261 t262 t263 E0 (wrap64 (t266)) (wrap64 (t267)) (wrap64 (t268))))) = some r := by first | (rw [hji14] at H; exact H) | (simp only [hji14] at H ⊢; exact H)
      (try rw [hji14] at A4)
      (try rw [hji14] at A6)
      (try rw [hji14] at A8)
      (try rw [hji14] at A9)
      (try rw [hji14] at A10)
      (try rw [hji14] at A11)
      (try rw [hji14] at A13)
      (try (have hji14l : 0 ≤ ji14 := by (rw [← hji14]; unfold mx; (repeat' split) <;> omega)))
      (try (have hji14m : 0 ≤ ji14 := by omega))
      have hji14_ : (if 0 < G5 then G5 else 0) = ji14 := hji14
      replace H := Option.bind_eq_some_iff.mp H
      obtain ⟨t267, A150, H⟩ := H
      replace H : ((cofferdamlaw10_up.f (IntKind.u64.wrap (E3)) (IntKind.u64.wrap (mx 0 G6)) 4096).bind fun t268 => (Lw.l0 k t258 false 0 D0 D1 D2 D3 D4 D5 E0 E1 E2 E3 D0 D1 t260 t261 t262 t263 E0 (wrap64 (t266)) (wrap64 (t267)) (wrap64 (t268)))) = some r := H
      have A15 := Aside0.mk A150
      clear A150
      obtain ⟨ji16, hji16⟩ : ∃ j_ : Int, (mx 0 G6) = j_ := ⟨_, rfl⟩
      replace H : ((cofferdamlaw10_up.f (IntKind.u64.wrap (E3)) (IntKind.u64.wrap (ji16)) 4096).bind fun t268 => (Lw.l0 k t258 false 0 D0 D1 D2 D3 D4 D5 E0 E1 E2 E3 D0 D1 t260 t261 t262 t263 E0 (wrap64 (t266)) (wrap64 (t267)) (wrap64 (t268)))) = some r := by first | (rw [hji16] at H; exact H) | (simp only [hji16] at H ⊢; exact H)
      (try rw [hji16] at A4)
      (try rw [hji16] at A6)
      (try rw [hji16] at A8)
      (try rw [hji16] at A9)
      (try rw [hji16] at A10)
      (try rw [hji16] at A11)
      (try rw [hji16] at A13)
      (try rw [hji16] at A15)
      (try (have hji16l : 0 ≤ ji16 := by (rw [← hji16]; unfold mx; (repeat' split) <;> omega)))
      (try (have hji16m : 0 ≤ ji16 := by omega))
      have hji16_ : (if 0 < G6 then G6 else 0) = ji16 := hji16
      replace H := Option.bind_eq_some_iff.mp H
      obtain ⟨t268, A170, H⟩ := H
      replace H : (Lw.l0 k t258 false 0 D0 D1 D2 D3 D4 D5 E0 E1 E2 E3 D0 D1 t260 t261 t262 t263 E0 (wrap64 (t266)) (wrap64 (t267)) (wrap64 (t268))) = some r := H
      have A17 := Aside0.mk A170
      clear A170
      have H' := Aside0.mk H
      clear H
      go_enter Try.func6, Try.ntmps6
      try go_wp2_with (first | ((with_reducible refine gate_dst (N := 3) rfl ?_); refine box_event ?hg (N := 3) ?hd (cs := #[.int .u64 D0, .int .u64 D1, .int .u64 D2, .int .u64 D3, .int .u64 D4, .int .u64 D5]) (t := 24) ?hr ?_; (case hd => rfl); (case hg => rfl); (case hr => first | (go_simp; done) | (go_simp; rfl)); intro gb254 hg w18 hbox hb; have n0_ := Aside0.mk (below_step (by repeat (first | (with_reducible first | exact HB.out | apply below_alloc | apply pw_below_drewN | apply below_drew1) | exact HB.out)) hb); have n1_ := Aside0.mk (hbox); have n2_ := Aside0.mk ((by rw [hg]; exact (below_size (by repeat (first | (with_reducible first | exact HB.out | apply below_alloc | apply pw_below_drewN | apply below_drew1) | exact HB.out))) : w.heap.size ≤ gb254)); have n3_ := Aside0.mk ((by rw [hg]; exact (below_size (by repeat (first | (with_reducible first | exact HB.out | apply below_alloc | apply pw_below_drewN | apply below_drew1) | exact HB.out))) : w.heap.size ≤ gb254)); clear HB; have HB := n0_; have BK254 := n1_; have GW254 := n2_; have GE254 := n3_; clear n0_ n1_ n2_ n3_; clear hb hbox hg) | ((with_reducible refine gate_dst (N := 4) rfl ?_); refine box_event ?hg (N := 4) ?hd (cs := #[.int .i64 E0, .int .i64 E1, .int .i64 E2, .int .i64 E3]) (t := 35) ?hr ?_; (case hd => rfl); (case hg => rfl); (case hr => first | (go_simp; done) | (go_simp; rfl)); intro gb255 hg w19 hbox hb; have n0_ := Aside0.mk (blk_below (g := gb254) (o := .cells #[.int .u64 D0, .int .u64 D1, .int .u64 D2, .int .u64 D3, .int .u64 D4, .int .u64 D5] 24 (0, 0)) (bk BK254.out) hb); have n1_ := Aside0.mk (below_step (by repeat (first | (with_reducible first | exact HB.out | apply below_alloc | apply pw_below_drewN | apply below_drew1 | refine below_set ?_ GE254.out) | exact HB.out)) hb); have n2_ := Aside0.mk (hbox); have n3_ := Aside0.mk ((by rw [hg]; exact (below_size (by repeat (first | (with_reducible first | exact HB.out | apply below_alloc | apply pw_below_drewN | apply below_drew1 | refine below_set ?_ GE254.out) | exact HB.out))) : w.heap.size ≤ gb255)); have n4_ := Aside0.mk ((by rw [hg]; exact (below_size (by repeat (first | (with_reducible first | exact HB.out | apply below_alloc | apply pw_below_drewN | apply below_drew1 | refine below_set ?_ GE254.out) | exact HB.out))) : w.heap.size ≤ gb255)); have n5_ := Aside0.mk ((by rw [hg]; exact Nat.ne_of_lt (blk_lt (g := gb254) (o := .cells #[.int .u64 D0, .int .u64 D1, .int .u64 D2, .int .u64 D3, .int .u64 D4, .int .u64 D5] 24 (0, 0)) (bk BK254.out)) : gb254 ≠ gb255)); have n6_ := Aside0.mk ((by rw [hg]; exact Nat.ne_of_gt (blk_lt (g := gb254) (o := .cells #[.int .u64 D0, .int .u64 D1, .int .u64 D2, .int .u64 D3, .int .u64 D4, .int .u64 D5] 24 (0, 0)) (bk BK254.out)) : gb255 ≠ gb254)); clear BK254; clear HB; have BK254 := n0_; have HB := n1_; have BK255 := n2_; have GW255 := n3_; have GE255 := n4_; have NB254_255 := n5_; have NB255_254 := n6_; clear n0_ n1_ n2_ n3_ n4_ n5_ n6_; clear hb hbox hg) | ((with_reducible refine gate_dst (N := 5) rfl ?_); refine box_event ?hg (N := 5) ?hd (cs := #[.int .u64 G0, .int .u64 G1, .int .u64 G2, .int .u64 G3, .int .i64 G4, .int .i64 G5, .int .i64 G6]) (t := 42) ?hr ?_; (case hd => rfl); (case hg => rfl); (case hr => first | (go_simp; done) | (go_simp; rfl)); intro gb256 hg w20 hbox hb; have n0_ := Aside0.mk (blk_below (g := gb254) (o := .cells #[.int .u64 D0, .int .u64 D1, .int .u64 D2, .int .u64 D3, .int .u64 D4, .int .u64 D5] 24 (0, 0)) (bk BK254.out) hb); have n1_ := Aside0.mk (blk_below (g := gb255) (o := .cells #[.int .i64 E0, .int .i64 E1, .int .i64 E2, .int .i64 E3] 35 (0, 0)) (bk BK255.out) hb); have n2_ := Aside0.mk (below_step (by repeat (first | (with_reducible first | exact HB.out | apply below_alloc | apply pw_below_drewN | apply below_drew1 | refine below_set ?_ GE254.out | refine below_set ?_ GE255.out) | exact HB.out)) hb); have n3_ := Aside0.mk (hbox); have n4_ := Aside0.mk ((by rw [hg]; exact (below_size (by repeat (first | (with_reducible first | exact HB.out | apply below_alloc | apply pw_below_drewN | apply below_drew1 | refine below_set ?_ GE254.out | refine below_set ?_ GE255.out) | exact HB.out))) : w.heap.size ≤ gb256)); have n5_ := Aside0.mk ((by rw [hg]; exact (below_size (by repeat (first | (with_reducible first | exact HB.out | apply below_alloc | apply pw_below_drewN | apply below_drew1 | refine below_set ?_ GE254.out | refine below_set ?_ GE255.out) | exact HB.out))) : w.heap.size ≤ gb256)); have n6_ := Aside0.mk ((by rw [hg]; exact Nat.ne_of_lt (blk_lt (g := gb254) (o := .cells #[.int .u64 D0, .int .u64 D1, .int .u64 D2, .int .u64 D3, .int .u64 D4, .int .u64 D5] 24 (0, 0)) (bk BK254.out)) : gb254 ≠ gb256)); have n7_ := Aside0.mk ((by rw [hg]; exact Nat.ne_of_gt (blk_lt (g := gb254) (o := .cells #[.int .u64 D0, .int .u64 D1, .int .u64 D2, .int .u64 D3, .int .u64 D4, .int .u64 D5] 24 (0, 0)) (bk BK254.out)) : gb256 ≠ gb254)); have n8_ := Aside0.mk ((by rw [hg]; exact Nat.ne_of_lt (blk_lt (g := gb255) (o := .cells #[.int .i64 E0, .int .i64 E1, .int .i64 E2, .int .i64 E3] 35 (0, 0)) (bk BK255.out)) : gb255 ≠ gb256)); have n9_ := Aside0.mk ((by rw [hg]; exact Nat.ne_of_gt (blk_lt (g := gb255) (o := .cells #[.int .i64 E0, .int .i64 E1, .int .i64 E2, .int .i64 E3] 35 (0, 0)) (bk BK255.out)) : gb256 ≠ gb255)); clear BK254; clear BK255; clear HB; have BK254 := n0_; have BK255 := n1_; have HB := n2_; have BK256 := n3_; have GW256 := n4_; have GE256 := n5_; have NB254_256 := n6_; have NB256_254 := n7_; have NB255_256 := n8_; have NB256_255 := n9_; clear n0_ n1_ n2_ n3_ n4_ n5_ n6_ n7_ n8_ n9_; clear hb hbox hg) | ((with_reducible refine gate_callee (f := 14) rfl ?_); refine goesL_ (some 17) rfl rfl Try.func14 (by kernel_rfl) rfl #[] rfl (by (try simp only [List.map_toArray, List.map_cons, List.map_nil]); first | done | rfl | (simp only [List.length_drop, List.length_take]; rfl)) ?_; (with_reducible refine (cofferdamlaw10_works.calls k  true _ A4.out).mono ?_); rintro e w21 ⟨rfl, hb⟩; refine ⟨_, rfl, ?_⟩; have n0_ := Aside0.mk (blk_below (g := gb254) (o := .cells #[.int .u64 D0, .int .u64 D1, .int .u64 D2, .int .u64 D3, .int .u64 D4, .int .u64 D5] 24 (0, 0)) (bk BK254.out) hb); have n1_ := Aside0.mk (blk_below (g := gb255) (o := .cells #[.int .i64 E0, .int .i64 E1, .int .i64 E2, .int .i64 E3] 35 (0, 0)) (bk BK255.out) hb); have n2_ := Aside0.mk (blk_below (g := gb256) (o := .cells #[.int .u64 G0, .int .u64 G1, .int .u64 G2, .int .u64 G3, .int .i64 G4, .int .i64 G5, .int .i64 G6] 42 (0, 0)) (bk BK256.out) hb); have n3_ := Aside0.mk (below_step (by repeat (first | (with_reducible first | exact HB.out | apply below_alloc | apply pw_below_drewN | apply below_drew1 | refine below_set ?_ GE254.out | refine below_set ?_ GE255.out | refine below_set ?_ GE256.out) | exact HB.out)) hb); clear BK254; clear BK255; clear BK256; clear HB; have BK254 := n0_; have BK255 := n1_; have BK256 := n2_; have HB := n3_; clear n0_ n1_ n2_ n3_; (try clear hb); (try clear hb2); (try clear hk); (try clear hi); have hnb22 := NB254_255.out; have hnc22 := NB255_254.out; have hnb23 := NB254_256.out; have hnc23 := NB256_254.out; have hcz24_0 : w21.cell? ⟨gb254, 0, none⟩ = some (.int .u64 D0) := (blk_cell BK254.out 0).trans rfl; have hcz24_1 : w21.cell? ⟨gb254, 1, none⟩ = some (.int .u64 D1) := (blk_cell BK254.out 1).trans rfl; have hcz24_2 : w21.cell? ⟨gb254, 2, none⟩ = some (.int .u64 D2) := (blk_cell BK254.out 2).trans rfl; have hcz24_3 : w21.cell? ⟨gb254, 3, none⟩ = some (.int .u64 D3) := (blk_cell BK254.out 3).trans rfl; have hcz24_4 : w21.cell? ⟨gb254, 4, none⟩ = some (.int .u64 D4) := (blk_cell BK254.out 4).trans rfl; have hcz24_5 : w21.cell? ⟨gb254, 5, none⟩ = some (.int .u64 D5) := (blk_cell BK254.out 5).trans rfl; have hfz24_0 := blk_frozen BK254.out 0; have hfz24_1 := blk_frozen BK254.out 1; have hfz24_2 := blk_frozen BK254.out 2; have hfz24_3 := blk_frozen BK254.out 3; have hfz24_4 := blk_frozen BK254.out 4; have hfz24_5 := blk_frozen BK254.out 5; have hnb25 := NB255_256.out; have hnc25 := NB256_255.out; have hcz26_0 : w21.cell? ⟨gb255, 0, none⟩ = some (.int .i64 E0) := (blk_cell BK255.out 0).trans rfl; have hcz26_1 : w21.cell? ⟨gb255, 1, none⟩ = some (.int .i64 E1) := (blk_cell BK255.out 1).trans rfl; have hcz26_2 : w21.cell? ⟨gb255, 2, none⟩ = some (.int .i64 E2) := (blk_cell BK255.out 2).trans rfl; have hcz26_3 : w21.cell? ⟨gb255, 3, none⟩ = some (.int .i64 E3) := (blk_cell BK255.out 3).trans rfl; have hfz26_0 := blk_frozen BK255.out 0; have hfz26_1 := blk_frozen BK255.out 1; have hfz26_2 := blk_frozen BK255.out 2; have hfz26_3 := blk_frozen BK255.out 3) | ((with_reducible refine gate_callee (f := 17) rfl ?_); refine goesL_ (some 22) rfl rfl Try.func17 (by kernel_rfl) rfl #[.agg #[.int .u64 D0, .int .u64 D1, .int .u64 D2, .int .u64 D3, .int .u64 D4, .int .u64 D5], .agg #[.int .i64 E0, .int .i64 E1, .int .i64 E2, .int .i64 E3]] rfl (by (try simp only [List.map_toArray, List.map_cons, List.map_nil]); first | done | rfl | (simp only [List.length_drop, List.length_take]; rfl)) ?_; (with_reducible refine (cost_Most.calls k D0 D1 D2 D3 D4 D5 E0 E1 E2 E3 t258 t259 _ A6.out).mono ?_); rintro e w27 ⟨rfl, hb⟩; refine ⟨_, rfl, ?_⟩; have n0_ := Aside0.mk (blk_below (g := gb254) (o := .cells #[.int .u64 D0, .int .u64 D1, .int .u64 D2, .int .u64 D3, .int .u64 D4, .int .u64 D5] 24 (0, 0)) (bk BK254.out) hb); have n1_ := Aside0.mk (blk_below (g := gb255) (o := .cells #[.int .i64 E0, .int .i64 E1, .int .i64 E2, .int .i64 E3] 35 (0, 0)) (bk BK255.out) hb); have n2_ := Aside0.mk (blk_below (g := gb256) (o := .cells #[.int .u64 G0, .int .u64 G1, .int .u64 G2, .int .u64 G3, .int .i64 G4, .int .i64 G5, .int .i64 G6] 42 (0, 0)) (bk BK256.out) hb); have n3_ := Aside0.mk (below_step (by repeat (first | (with_reducible first | exact HB.out | apply below_alloc | apply pw_below_drewN | apply below_drew1 | refine below_set ?_ GE254.out | refine below_set ?_ GE255.out | refine below_set ?_ GE256.out) | exact HB.out)) hb); clear BK254; clear BK255; clear BK256; clear HB; have BK254 := n0_; have BK255 := n1_; have BK256 := n2_; have HB := n3_; clear n0_ n1_ n2_ n3_; (try clear hb); (try clear hb2); (try clear hk); (try clear hi)))
      have n0_ := Aside0.mk (blk_drew BK254.out)
      have n1_ := Aside0.mk (blk_drew BK255.out)
      have n2_ := Aside0.mk (blk_drew BK256.out)
      have n3_ := Aside0.mk (below_drew1 HB.out)
      clear BK254
      clear BK255
      clear BK256
      clear HB
      have BK254 := n0_
      have BK255 := n1_
      have BK256 := n2_
      have HB := n3_
      clear n0_ n1_ n2_ n3_
      refine start_ (n := 27) (S := fun w' => w'.cell? ⟨gb254, 0, none⟩ = some (.int .u64 D0) ∧ w'.cell? ⟨gb254, 1, none⟩ = some (.int .u64 D1) ∧ w'.cell? ⟨gb254, 2, none⟩ = some (.int .u64 D2) ∧ w'.cell? ⟨gb254, 3, none⟩ = some (.int .u64 D3) ∧ w'.cell? ⟨gb254, 4, none⟩ = some (.int .u64 D4) ∧ w'.cell? ⟨gb254, 5, none⟩ = some (.int .u64 D5) ∧ w'.cell? ⟨gb256, 0, none⟩ = some (.int .u64 G0) ∧ w'.cell? ⟨gb256, 1, none⟩ = some (.int .u64 G1) ∧ w'.cell? ⟨gb256, 2, none⟩ = some (.int .u64 G2) ∧ w'.cell? ⟨gb256, 3, none⟩ = some (.int .u64 G3) ∧ w'.cell? ⟨gb256, 4, none⟩ = some (.int .i64 G4) ∧ w'.cell? ⟨gb256, 5, none⟩ = some (.int .i64 G5) ∧ w'.cell? ⟨gb256, 6, none⟩ = some (.int .i64 G6)) (ds := []) #[false, false, false, false, false, false, false, false, false, false, false, false, false, false, false, false, false, false, false, false, false, false, false, false, false, false, false] (by kernel_rfl) rfl rfl ⟨(blk_cell BK254.out 0).trans rfl, (blk_cell BK254.out 1).trans rfl, (blk_cell BK254.out 2).trans rfl, (blk_cell BK254.out 3).trans rfl, (blk_cell BK254.out 4).trans rfl, (blk_cell BK254.out 5).trans rfl, (blk_cell BK256.out 0).trans rfl, (blk_cell BK256.out 1).trans rfl, (blk_cell BK256.out 2).trans rfl, (blk_cell BK256.out 3).trans rfl, (blk_cell BK256.out 4).trans rfl, (blk_cell BK256.out 5).trans rfl, (blk_cell BK256.out 6).trans rfl⟩ (fun hHeld => ?_); refine with_tabW Lw.tab6 Lw.bits6 (fun HT_ HW_ => ?_)
      generalize w27.drew = w28 at BK254 BK255 BK256 HB hHeld ⊢
      refine pure_ (i := 0) (N := some 27) (v := ?_) (a' := ?_) #[true, false, false, false, false, false, false, false, false, false, false, false, false, false, false, false, false, false, false, false, false, false, false, false, false, false, false] rfl rfl (any_of HT_.out (by kernel_rfl)) (fun _ _ _ h => h) (Or.inl ⟨by rfl, ?_⟩) ?_ ?_
      rotate_left
      · intro w'
        go_simp
        with_reducible rfl
      rotate_left
      · simp only [Act.put, List.setIfInBounds_toArray, List.set_cons_zero, List.set_cons_succ, i64_w, i32_w]
        rfl
      refine pure_ (i := 2) (N := some 29) (v := ?_) (a' := ?_) #[true, false, true, false, false, false, false, false, false, false, false, false, false, false, false, false, false, false, false, false, false, false, false, false, false, false, false] rfl rfl (any_of HT_.out (by kernel_rfl)) (fun _ _ _ h => h) (Or.inl ⟨by rfl, ?_⟩) ?_ ?_
      rotate_left
      · intro w'
        go_simp
        with_reducible rfl
      rotate_left
      · simp only [Act.put, List.setIfInBounds_toArray, List.set_cons_zero, List.set_cons_succ, i64_w, i32_w]
        rfl
      refine pure_ (i := 4) (N := some 31) (v := ?_) (a' := ?_) #[true, false, true, false, true, false, false, false, false, false, false, false, false, false, false, false, false, false, false, false, false, false, false, false, false, false, false] rfl rfl (any_of HT_.out (by kernel_rfl)) (fun _ _ _ h => h) (Or.inl ⟨by rfl, ?_⟩) ?_ ?_
      rotate_left
      · intro w'
        go_simp
        with_reducible rfl
      rotate_left
      · simp only [Act.put, List.setIfInBounds_toArray, List.set_cons_zero, List.set_cons_succ, i64_w, i32_w]
        rfl
      refine pure_ (i := 6) (N := some 33) (v := ?_) (a' := ?_) #[true, false, true, false, true, false, true, false, false, false, false, false, false, false, false, false, false, false, false, false, false, false, false, false, false, false, false] rfl rfl (any_of HT_.out (by kernel_rfl)) (fun _ _ _ h => h) (Or.inl ⟨by rfl, ?_⟩) ?_ ?_
      rotate_left
      · intro w'
        go_simp
        with_reducible rfl
      rotate_left
      · simp only [Act.put, List.setIfInBounds_toArray, List.set_cons_zero, List.set_cons_succ, i64_w, i32_w]
        rfl
      refine pure_ (i := 9) (N := some 36) (v := ?_) (a' := ?_) #[true, false, true, false, true, false, true, false, false, true, false, false, false, false, false, false, false, false, false, false, false, false, false, false, false, false, false] rfl rfl (any_of HT_.out (by kernel_rfl)) (fun _ _ _ h => h) (Or.inl ⟨by rfl, ?_⟩) ?_ ?_
      rotate_left
      · intro w'
        go_simp
        with_reducible rfl
      rotate_left
      · simp only [Act.put, List.setIfInBounds_toArray, List.set_cons_zero, List.set_cons_succ, i64_w, i32_w]
        rfl
      refine pure_ (i := 11) (N := some 38) (v := ?_) (a' := ?_) #[true, false, true, false, true, false, true, false, false, true, false, true, false, false, false, false, false, false, false, false, false, false, false, false, false, false, false] rfl rfl (any_of HT_.out (by kernel_rfl)) (fun _ _ _ h => h) (Or.inl ⟨by rfl, ?_⟩) ?_ ?_
      rotate_left
      · intro w'
        go_simp
        with_reducible rfl
      rotate_left
      · simp only [Act.put, List.setIfInBounds_toArray, List.set_cons_zero, List.set_cons_succ, i64_w, i32_w]
        rfl
      refine pure_ (i := 14) (N := some 41) (v := ?_) (a' := ?_) #[true, false, true, false, true, false, true, false, false, true, false, true, false, false, true, false, false, false, false, false, false, false, false, false, false, false, false] rfl rfl (any_of HT_.out (by kernel_rfl)) (fun _ _ _ h => h) (Or.inl ⟨by rfl, ?_⟩) ?_ ?_
      rotate_left
      · intro w'
        go_simp
        with_reducible rfl
      rotate_left
      · simp only [Act.put, List.setIfInBounds_toArray, List.set_cons_zero, List.set_cons_succ, i64_w, i32_w]
        rfl
      refine pure_ (i := 16) (N := some 43) (v := ?_) (a' := ?_) #[true, false, true, false, true, false, true, false, false, true, false, true, false, false, true, false, true, false, false, false, false, false, false, false, false, false, false] rfl rfl (any_of HT_.out (by kernel_rfl)) (fun _ _ _ h => h) (Or.inl ⟨by rfl, ?_⟩) ?_ ?_
      rotate_left
      · intro w'
        go_simp
        with_reducible rfl
      rotate_left
      · simp only [Act.put, List.setIfInBounds_toArray, List.set_cons_zero, List.set_cons_succ, i64_w, i32_w]
        rfl
      refine pure_ (i := 19) (N := some 46) (v := ?_) (a' := ?_) #[true, false, true, false, true, false, true, false, false, true, false, true, false, false, true, false, true, false, false, true, false, false, false, false, false, false, false] rfl rfl (any_of HT_.out (by kernel_rfl)) (fun _ _ _ h => h) (Or.inl ⟨by rfl, ?_⟩) ?_ ?_
      rotate_left
      · intro w'
        go_simp
        with_reducible rfl
      rotate_left
      · simp only [Act.put, List.setIfInBounds_toArray, List.set_cons_zero, List.set_cons_succ, i64_w, i32_w]
        rfl
      refine pure_ (i := 21) (N := some 48) (v := ?_) (a' := ?_) #[true, false, true, false, true, false, true, false, false, true, false, true, false, false, true, false, true, false, false, true, false, true, false, false, false, false, false] rfl rfl (any_of HT_.out (by kernel_rfl)) (fun _ _ _ h => h) (Or.inl ⟨by rfl, ?_⟩) ?_ ?_
      rotate_left
      · intro w'
        go_simp
        with_reducible rfl
      rotate_left
      · simp only [Act.put, List.setIfInBounds_toArray, List.set_cons_zero, List.set_cons_succ, i64_w, i32_w]
        rfl
      refine take_ (i := 1) (N := some 28) (v := ?_) (a' := ?_) #[true, true, true, false, true, false, true, false, false, true, false, true, false, false, true, false, true, false, false, true, false, true, false, false, false, false, false] rfl rfl (take_ofW HT_.out HW_.out (by kernel_rfl)) (fun _ _ _ h => h) (Or.inl ⟨by rfl, ?_⟩) hHeld ?_ ?_
      rotate_left
      · rintro w' ⟨s0, s1, s2, s3, s4, s5, s6, s7, s8, s9, s10, s11, s12⟩
        go_simp
        with_reducible rfl
      rotate_left
      · simp only [Act.put, List.setIfInBounds_toArray, List.set_cons_zero, List.set_cons_succ, i64_w, i32_w]
        rfl
      refine take_ (i := 3) (N := some 30) (v := ?_) (a' := ?_) #[true, true, true, true, true, false, true, false, false, true, false, true, false, false, true, false, true, false, false, true, false, true, false, false, false, false, false] rfl rfl (take_ofW HT_.out HW_.out (by kernel_rfl)) (fun _ _ _ h => h) (Or.inl ⟨by rfl, ?_⟩) hHeld ?_ ?_
      rotate_left
      · rintro w' ⟨s0, s1, s2, s3, s4, s5, s6, s7, s8, s9, s10, s11, s12⟩
        go_simp
        with_reducible rfl
      rotate_left
      · simp only [Act.put, List.setIfInBounds_toArray, List.set_cons_zero, List.set_cons_succ, i64_w, i32_w]
        rfl
      refine take_ (i := 5) (N := some 32) (v := ?_) (a' := ?_) #[true, true, true, true, true, true, true, false, false, true, false, true, false, false, true, false, true, false, false, true, false, true, false, false, false, false, false] rfl rfl (take_ofW HT_.out HW_.out (by kernel_rfl)) (fun _ _ _ h => h) (Or.inl ⟨by rfl, ?_⟩) hHeld ?_ ?_
      rotate_left
      · rintro w' ⟨s0, s1, s2, s3, s4, s5, s6, s7, s8, s9, s10, s11, s12⟩
        go_simp
        with_reducible rfl
      rotate_left
      · simp only [Act.put, List.setIfInBounds_toArray, List.set_cons_zero, List.set_cons_succ, i64_w, i32_w]
        rfl
      refine take_ (i := 7) (N := some 34) (v := ?_) (a' := ?_) #[true, true, true, true, true, true, true, true, false, true, false, true, false, false, true, false, true, false, false, true, false, true, false, false, false, false, false] rfl rfl (take_ofW HT_.out HW_.out (by kernel_rfl)) (fun _ _ _ h => h) (Or.inl ⟨by rfl, ?_⟩) hHeld ?_ ?_
      rotate_left
      · rintro w' ⟨s0, s1, s2, s3, s4, s5, s6, s7, s8, s9, s10, s11, s12⟩
        go_simp
        with_reducible rfl
      rotate_left
      · simp only [Act.put, List.setIfInBounds_toArray, List.set_cons_zero, List.set_cons_succ, i64_w, i32_w]
        rfl
      refine take_ (i := 10) (N := some 37) (v := ?_) (a' := ?_) #[true, true, true, true, true, true, true, true, false, true, true, true, false, false, true, false, true, false, false, true, false, true, false, false, false, false, false] rfl rfl (take_ofW HT_.out HW_.out (by kernel_rfl)) (fun _ _ _ h => h) (Or.inl ⟨by rfl, ?_⟩) hHeld ?_ ?_
      rotate_left
      · rintro w' ⟨s0, s1, s2, s3, s4, s5, s6, s7, s8, s9, s10, s11, s12⟩
        go_simp
        with_reducible rfl
      rotate_left
      · simp only [Act.put, List.setIfInBounds_toArray, List.set_cons_zero, List.set_cons_succ, i64_w, i32_w]
        rfl
      refine take_ (i := 12) (N := some 39) (v := ?_) (a' := ?_) #[true, true, true, true, true, true, true, true, false, true, true, true, true, false, true, false, true, false, false, true, false, true, false, false, false, false, false] rfl rfl (take_ofW HT_.out HW_.out (by kernel_rfl)) (fun _ _ _ h => h) (Or.inl ⟨by rfl, ?_⟩) hHeld ?_ ?_
      rotate_left
      · rintro w' ⟨s0, s1, s2, s3, s4, s5, s6, s7, s8, s9, s10, s11, s12⟩
        go_simp
        with_reducible rfl
      rotate_left
      · simp only [Act.put, List.setIfInBounds_toArray, List.set_cons_zero, List.set_cons_succ, i64_w, i32_w]
        rfl
      refine take_ (i := 15) (N := some 42) (v := ?_) (a' := ?_) #[true, true, true, true, true, true, true, true, false, true, true, true, true, false, true, true, true, false, false, true, false, true, false, false, false, false, false] rfl rfl (take_ofW HT_.out HW_.out (by kernel_rfl)) (fun _ _ _ h => h) (Or.inl ⟨by rfl, ?_⟩) hHeld ?_ ?_
      rotate_left
      · rintro w' ⟨s0, s1, s2, s3, s4, s5, s6, s7, s8, s9, s10, s11, s12⟩
        go_simp
        with_reducible rfl
      rotate_left
      · simp only [Act.put, List.setIfInBounds_toArray, List.set_cons_zero, List.set_cons_succ, i64_w, i32_w]
        rfl
      refine take_ (i := 17) (N := some 44) (v := ?_) (a' := ?_) #[true, true, true, true, true, true, true, true, false, true, true, true, true, false, true, true, true, true, false, true, false, true, false, false, false, false, false] rfl rfl (take_ofW HT_.out HW_.out (by kernel_rfl)) (fun _ _ _ h => h) (Or.inl ⟨by rfl, ?_⟩) hHeld ?_ ?_
      rotate_left
      · rintro w' ⟨s0, s1, s2, s3, s4, s5, s6, s7, s8, s9, s10, s11, s12⟩
        go_simp
        with_reducible rfl
      rotate_left
      · simp only [Act.put, List.setIfInBounds_toArray, List.set_cons_zero, List.set_cons_succ, i64_w, i32_w]
        rfl
      refine take_ (i := 20) (N := some 47) (v := ?_) (a' := ?_) #[true, true, true, true, true, true, true, true, false, true, true, true, true, false, true, true, true, true, false, true, true, true, false, false, false, false, false] rfl rfl (take_ofW HT_.out HW_.out (by kernel_rfl)) (fun _ _ _ h => h) (Or.inl ⟨by rfl, ?_⟩) hHeld ?_ ?_
      rotate_left
      · rintro w' ⟨s0, s1, s2, s3, s4, s5, s6, s7, s8, s9, s10, s11, s12⟩
        go_simp
        with_reducible rfl
      rotate_left
      · simp only [Act.put, List.setIfInBounds_toArray, List.set_cons_zero, List.set_cons_succ, i64_w, i32_w]
        rfl
      refine take_ (i := 22) (N := some 49) (v := ?_) (a' := ?_) #[true, true, true, true, true, true, true, true, false, true, true, true, true, false, true, true, true, true, false, true, true, true, true, false, false, false, false] rfl rfl (take_ofW HT_.out HW_.out (by kernel_rfl)) (fun _ _ _ h => h) (Or.inl ⟨by rfl, ?_⟩) hHeld ?_ ?_
      rotate_left
      · rintro w' ⟨s0, s1, s2, s3, s4, s5, s6, s7, s8, s9, s10, s11, s12⟩
        go_simp
        with_reducible rfl
      rotate_left
      · simp only [Act.put, List.setIfInBounds_toArray, List.set_cons_zero, List.set_cons_succ, i64_w, i32_w]
        rfl
      refine join_ (σ := Nat) 1 #[true, true, true, true, true, true, true, true, true, true, true, true, true, true, true, true, true, true, true, true, true, true, true, true, true, true, false] (fun s_ => [(35, .int .u64 t260), (40, .int .u64 t261), (45, .int .u64 t262), (50, .int .u64 t263), (9, .pointer (some ⟨s_, 0, none⟩)), (51, .agg #[.int .u64 D0, .int .u64 D1, .int .u64 t260, .int .u64 t261, .int .u64 t262, .int .u64 t263])]) (fun s_ w' => (w'.cell? ⟨gb254, 0, none⟩ = some (.int .u64 D0) ∧ w'.cell? ⟨gb254, 1, none⟩ = some (.int .u64 D1) ∧ w'.cell? ⟨gb254, 2, none⟩ = some (.int .u64 D2) ∧ w'.cell? ⟨gb254, 3, none⟩ = some (.int .u64 D3) ∧ w'.cell? ⟨gb254, 4, none⟩ = some (.int .u64 D4) ∧ w'.cell? ⟨gb254, 5, none⟩ = some (.int .u64 D5) ∧ w'.cell? ⟨gb256, 0, none⟩ = some (.int .u64 G0) ∧ w'.cell? ⟨gb256, 1, none⟩ = some (.int .u64 G1) ∧ w'.cell? ⟨gb256, 2, none⟩ = some (.int .u64 G2) ∧ w'.cell? ⟨gb256, 3, none⟩ = some (.int .u64 G3) ∧ w'.cell? ⟨gb256, 4, none⟩ = some (.int .i64 G4) ∧ w'.cell? ⟨gb256, 5, none⟩ = some (.int .i64 G5) ∧ w'.cell? ⟨gb256, 6, none⟩ = some (.int .i64 G6)) ∧ (w'.heap[gb254]? = some (.cells #[.int .u64 D0, .int .u64 D1, .int .u64 D2, .int .u64 D3, .int .u64 D4, .int .u64 D5] 24 (0, 0))) ∧ (w'.heap[gb255]? = some (.cells #[.int .i64 E0, .int .i64 E1, .int .i64 E2, .int .i64 E3] 35 (0, 0))) ∧ (w'.heap[gb256]? = some (.cells #[.int .u64 G0, .int .u64 G1, .int .u64 G2, .int .u64 G3, .int .i64 G4, .int .i64 G5, .int .i64 G6] 42 (0, 0))) ∧ (w'.heap[s_]? = some (.cells #[.int .u64 0, .int .u64 0, .int .u64 0, .int .u64 0, .int .u64 0, .int .u64 0] 24 (0, 0))) ∧ (w.heap.size ≤ s_) ∧ (w.heap.size ≤ s_) ∧ (gb254 ≠ s_) ∧ (s_ ≠ gb254) ∧ (gb255 ≠ s_) ∧ (s_ ≠ gb255) ∧ (gb256 ≠ s_) ∧ (s_ ≠ gb256) ∧ (Below w.heap.size w w')) ?_ ?_
      rotate_left
      · intro hJ8_13_18_23_25
        refine join_ (σ := Unit) 2 #[true, true, true, true, true, true, true, true, true, true, true, true, true, true, true, true, true, true, true, true, true, true, true, true, true, false, false] (fun s_ => [(35, .int .u64 t260), (40, .int .u64 t261), (45, .int .u64 t262), (50, .int .u64 t263), (51, .agg #[.int .u64 D0, .int .u64 D1, .int .u64 t260, .int .u64 t261, .int .u64 t262, .int .u64 t263])]) (fun s_ w' => (w'.cell? ⟨gb254, 0, none⟩ = some (.int .u64 D0) ∧ w'.cell? ⟨gb254, 1, none⟩ = some (.int .u64 D1) ∧ w'.cell? ⟨gb254, 2, none⟩ = some (.int .u64 D2) ∧ w'.cell? ⟨gb254, 3, none⟩ = some (.int .u64 D3) ∧ w'.cell? ⟨gb254, 4, none⟩ = some (.int .u64 D4) ∧ w'.cell? ⟨gb254, 5, none⟩ = some (.int .u64 D5) ∧ w'.cell? ⟨gb256, 0, none⟩ = some (.int .u64 G0) ∧ w'.cell? ⟨gb256, 1, none⟩ = some (.int .u64 G1) ∧ w'.cell? ⟨gb256, 2, none⟩ = some (.int .u64 G2) ∧ w'.cell? ⟨gb256, 3, none⟩ = some (.int .u64 G3) ∧ w'.cell? ⟨gb256, 4, none⟩ = some (.int .i64 G4) ∧ w'.cell? ⟨gb256, 5, none⟩ = some (.int .i64 G5) ∧ w'.cell? ⟨gb256, 6, none⟩ = some (.int .i64 G6)) ∧ (w'.heap[gb254]? = some (.cells #[.int .u64 D0, .int .u64 D1, .int .u64 D2, .int .u64 D3, .int .u64 D4, .int .u64 D5] 24 (0, 0))) ∧ (w'.heap[gb255]? = some (.cells #[.int .i64 E0, .int .i64 E1, .int .i64 E2, .int .i64 E3] 35 (0, 0))) ∧ (w'.heap[gb256]? = some (.cells #[.int .u64 G0, .int .u64 G1, .int .u64 G2, .int .u64 G3, .int .i64 G4, .int .i64 G5, .int .i64 G6] 42 (0, 0))) ∧ (Below w.heap.size w w')) ?_ ?_
        rotate_left
        · intro hJ8_13_18_23
          refine join_ (σ := Nat) 3 #[true, true, true, true, true, true, true, true, true, true, true, true, true, true, true, true, true, true, true, true, true, true, true, false, false, true, false] (fun s_ => [(35, .int .u64 t260), (40, .int .u64 t261), (45, .int .u64 t262), (9, .pointer (some ⟨s_, 0, none⟩))]) (fun s_ w' => (w'.cell? ⟨gb254, 0, none⟩ = some (.int .u64 D0) ∧ w'.cell? ⟨gb254, 1, none⟩ = some (.int .u64 D1) ∧ w'.cell? ⟨gb254, 2, none⟩ = some (.int .u64 D2) ∧ w'.cell? ⟨gb254, 3, none⟩ = some (.int .u64 D3) ∧ w'.cell? ⟨gb254, 4, none⟩ = some (.int .u64 D4) ∧ w'.cell? ⟨gb254, 5, none⟩ = some (.int .u64 D5) ∧ w'.cell? ⟨gb256, 0, none⟩ = some (.int .u64 G0) ∧ w'.cell? ⟨gb256, 1, none⟩ = some (.int .u64 G1) ∧ w'.cell? ⟨gb256, 2, none⟩ = some (.int .u64 G2) ∧ w'.cell? ⟨gb256, 3, none⟩ = some (.int .u64 G3) ∧ w'.cell? ⟨gb256, 4, none⟩ = some (.int .i64 G4) ∧ w'.cell? ⟨gb256, 5, none⟩ = some (.int .i64 G5) ∧ w'.cell? ⟨gb256, 6, none⟩ = some (.int .i64 G6)) ∧ (w'.heap[gb254]? = some (.cells #[.int .u64 D0, .int .u64 D1, .int .u64 D2, .int .u64 D3, .int .u64 D4, .int .u64 D5] 24 (0, 0))) ∧ (w'.heap[gb255]? = some (.cells #[.int .i64 E0, .int .i64 E1, .int .i64 E2, .int .i64 E3] 35 (0, 0))) ∧ (w'.heap[gb256]? = some (.cells #[.int .u64 G0, .int .u64 G1, .int .u64 G2, .int .u64 G3, .int .i64 G4, .int .i64 G5, .int .i64 G6] 42 (0, 0))) ∧ (w'.heap[s_]? = some (.cells #[.int .u64 0, .int .u64 0, .int .u64 0, .int .u64 0, .int .u64 0, .int .u64 0] 24 (0, 0))) ∧ (w.heap.size ≤ s_) ∧ (w.heap.size ≤ s_) ∧ (gb254 ≠ s_) ∧ (s_ ≠ gb254) ∧ (gb255 ≠ s_) ∧ (s_ ≠ gb255) ∧ (gb256 ≠ s_) ∧ (s_ ≠ gb256) ∧ (Below w.heap.size w w')) ?_ ?_
          rotate_left
          · intro hJ8_13_18_25
            refine join_ (σ := Unit) 4 #[true, true, true, true, true, true, true, true, true, true, true, true, true, true, true, true, true, true, true, true, true, true, true, false, false, false, false] (fun s_ => [(35, .int .u64 t260), (40, .int .u64 t261), (45, .int .u64 t262)]) (fun s_ w' => (w'.cell? ⟨gb254, 0, none⟩ = some (.int .u64 D0) ∧ w'.cell? ⟨gb254, 1, none⟩ = some (.int .u64 D1) ∧ w'.cell? ⟨gb254, 2, none⟩ = some (.int .u64 D2) ∧ w'.cell? ⟨gb254, 3, none⟩ = some (.int .u64 D3) ∧ w'.cell? ⟨gb254, 4, none⟩ = some (.int .u64 D4) ∧ w'.cell? ⟨gb254, 5, none⟩ = some (.int .u64 D5) ∧ w'.cell? ⟨gb256, 0, none⟩ = some (.int .u64 G0) ∧ w'.cell? ⟨gb256, 1, none⟩ = some (.int .u64 G1) ∧ w'.cell? ⟨gb256, 2, none⟩ = some (.int .u64 G2) ∧ w'.cell? ⟨gb256, 3, none⟩ = some (.int .u64 G3) ∧ w'.cell? ⟨gb256, 4, none⟩ = some (.int .i64 G4) ∧ w'.cell? ⟨gb256, 5, none⟩ = some (.int .i64 G5) ∧ w'.cell? ⟨gb256, 6, none⟩ = some (.int .i64 G6)) ∧ (w'.heap[gb254]? = some (.cells #[.int .u64 D0, .int .u64 D1, .int .u64 D2, .int .u64 D3, .int .u64 D4, .int .u64 D5] 24 (0, 0))) ∧ (w'.heap[gb255]? = some (.cells #[.int .i64 E0, .int .i64 E1, .int .i64 E2, .int .i64 E3] 35 (0, 0))) ∧ (w'.heap[gb256]? = some (.cells #[.int .u64 G0, .int .u64 G1, .int .u64 G2, .int .u64 G3, .int .i64 G4, .int .i64 G5, .int .i64 G6] 42 (0, 0))) ∧ (Below w.heap.size w w')) ?_ ?_
            rotate_left
            · intro hJ8_13_18
              refine join_ (σ := Nat) 4 #[true, true, true, true, true, true, true, true, true, true, true, true, true, true, true, true, true, true, false, true, true, true, true, false, false, true, false] (fun s_ => [(35, .int .u64 t260), (40, .int .u64 t261), (9, .pointer (some ⟨s_, 0, none⟩))]) (fun s_ w' => (w'.cell? ⟨gb254, 0, none⟩ = some (.int .u64 D0) ∧ w'.cell? ⟨gb254, 1, none⟩ = some (.int .u64 D1) ∧ w'.cell? ⟨gb254, 2, none⟩ = some (.int .u64 D2) ∧ w'.cell? ⟨gb254, 3, none⟩ = some (.int .u64 D3) ∧ w'.cell? ⟨gb254, 4, none⟩ = some (.int .u64 D4) ∧ w'.cell? ⟨gb254, 5, none⟩ = some (.int .u64 D5) ∧ w'.cell? ⟨gb256, 0, none⟩ = some (.int .u64 G0) ∧ w'.cell? ⟨gb256, 1, none⟩ = some (.int .u64 G1) ∧ w'.cell? ⟨gb256, 2, none⟩ = some (.int .u64 G2) ∧ w'.cell? ⟨gb256, 3, none⟩ = some (.int .u64 G3) ∧ w'.cell? ⟨gb256, 4, none⟩ = some (.int .i64 G4) ∧ w'.cell? ⟨gb256, 5, none⟩ = some (.int .i64 G5) ∧ w'.cell? ⟨gb256, 6, none⟩ = some (.int .i64 G6)) ∧ (w'.heap[gb254]? = some (.cells #[.int .u64 D0, .int .u64 D1, .int .u64 D2, .int .u64 D3, .int .u64 D4, .int .u64 D5] 24 (0, 0))) ∧ (w'.heap[gb255]? = some (.cells #[.int .i64 E0, .int .i64 E1, .int .i64 E2, .int .i64 E3] 35 (0, 0))) ∧ (w'.heap[gb256]? = some (.cells #[.int .u64 G0, .int .u64 G1, .int .u64 G2, .int .u64 G3, .int .i64 G4, .int .i64 G5, .int .i64 G6] 42 (0, 0))) ∧ (w'.heap[s_]? = some (.cells #[.int .u64 0, .int .u64 0, .int .u64 0, .int .u64 0, .int .u64 0, .int .u64 0] 24 (0, 0))) ∧ (w.heap.size ≤ s_) ∧ (w.heap.size ≤ s_) ∧ (gb254 ≠ s_) ∧ (s_ ≠ gb254) ∧ (gb255 ≠ s_) ∧ (s_ ≠ gb255) ∧ (gb256 ≠ s_) ∧ (s_ ≠ gb256) ∧ (Below w.heap.size w w')) ?_ ?_
              rotate_left
              · intro hJ8_13_25
                refine join_ (σ := Unit) 5 #[true, true, true, true, true, true, true, true, true, true, true, true, true, true, true, true, true, true, false, true, true, true, true, false, false, false, false] (fun s_ => [(35, .int .u64 t260), (40, .int .u64 t261)]) (fun s_ w' => (w'.cell? ⟨gb254, 0, none⟩ = some (.int .u64 D0) ∧ w'.cell? ⟨gb254, 1, none⟩ = some (.int .u64 D1) ∧ w'.cell? ⟨gb254, 2, none⟩ = some (.int .u64 D2) ∧ w'.cell? ⟨gb254, 3, none⟩ = some (.int .u64 D3) ∧ w'.cell? ⟨gb254, 4, none⟩ = some (.int .u64 D4) ∧ w'.cell? ⟨gb254, 5, none⟩ = some (.int .u64 D5) ∧ w'.cell? ⟨gb256, 0, none⟩ = some (.int .u64 G0) ∧ w'.cell? ⟨gb256, 1, none⟩ = some (.int .u64 G1) ∧ w'.cell? ⟨gb256, 2, none⟩ = some (.int .u64 G2) ∧ w'.cell? ⟨gb256, 3, none⟩ = some (.int .u64 G3) ∧ w'.cell? ⟨gb256, 4, none⟩ = some (.int .i64 G4) ∧ w'.cell? ⟨gb256, 5, none⟩ = some (.int .i64 G5) ∧ w'.cell? ⟨gb256, 6, none⟩ = some (.int .i64 G6)) ∧ (w'.heap[gb254]? = some (.cells #[.int .u64 D0, .int .u64 D1, .int .u64 D2, .int .u64 D3, .int .u64 D4, .int .u64 D5] 24 (0, 0))) ∧ (w'.heap[gb255]? = some (.cells #[.int .i64 E0, .int .i64 E1, .int .i64 E2, .int .i64 E3] 35 (0, 0))) ∧ (w'.heap[gb256]? = some (.cells #[.int .u64 G0, .int .u64 G1, .int .u64 G2, .int .u64 G3, .int .i64 G4, .int .i64 G5, .int .i64 G6] 42 (0, 0))) ∧ (Below w.heap.size w w')) ?_ ?_
                rotate_left
                · intro hJ8_13
                  refine join_ (σ := Nat) 5 #[true, true, true, true, true, true, true, true, true, true, true, true, true, false, true, true, true, true, false, true, true, true, true, false, false, true, false] (fun s_ => [(35, .int .u64 t260), (9, .pointer (some ⟨s_, 0, none⟩))]) (fun s_ w' => (w'.cell? ⟨gb254, 0, none⟩ = some (.int .u64 D0) ∧ w'.cell? ⟨gb254, 1, none⟩ = some (.int .u64 D1) ∧ w'.cell? ⟨gb254, 2, none⟩ = some (.int .u64 D2) ∧ w'.cell? ⟨gb254, 3, none⟩ = some (.int .u64 D3) ∧ w'.cell? ⟨gb254, 4, none⟩ = some (.int .u64 D4) ∧ w'.cell? ⟨gb254, 5, none⟩ = some (.int .u64 D5) ∧ w'.cell? ⟨gb256, 0, none⟩ = some (.int .u64 G0) ∧ w'.cell? ⟨gb256, 1, none⟩ = some (.int .u64 G1) ∧ w'.cell? ⟨gb256, 2, none⟩ = some (.int .u64 G2) ∧ w'.cell? ⟨gb256, 3, none⟩ = some (.int .u64 G3) ∧ w'.cell? ⟨gb256, 4, none⟩ = some (.int .i64 G4) ∧ w'.cell? ⟨gb256, 5, none⟩ = some (.int .i64 G5) ∧ w'.cell? ⟨gb256, 6, none⟩ = some (.int .i64 G6)) ∧ (w'.heap[gb254]? = some (.cells #[.int .u64 D0, .int .u64 D1, .int .u64 D2, .int .u64 D3, .int .u64 D4, .int .u64 D5] 24 (0, 0))) ∧ (w'.heap[gb255]? = some (.cells #[.int .i64 E0, .int .i64 E1, .int .i64 E2, .int .i64 E3] 35 (0, 0))) ∧ (w'.heap[gb256]? = some (.cells #[.int .u64 G0, .int .u64 G1, .int .u64 G2, .int .u64 G3, .int .i64 G4, .int .i64 G5, .int .i64 G6] 42 (0, 0))) ∧ (w'.heap[s_]? = some (.cells #[.int .u64 0, .int .u64 0, .int .u64 0, .int .u64 0, .int .u64 0, .int .u64 0] 24 (0, 0))) ∧ (w.heap.size ≤ s_) ∧ (w.heap.size ≤ s_) ∧ (gb254 ≠ s_) ∧ (s_ ≠ gb254) ∧ (gb255 ≠ s_) ∧ (s_ ≠ gb255) ∧ (gb256 ≠ s_) ∧ (s_ ≠ gb256) ∧ (Below w.heap.size w w')) ?_ ?_
                  rotate_left
                  · intro hJ8_25
                    refine join_ (σ := Unit) 6 #[true, true, true, true, true, true, true, true, true, true, true, true, true, false, true, true, true, true, false, true, true, true, true, false, false, false, false] (fun s_ => [(35, .int .u64 t260)]) (fun s_ w' => (w'.cell? ⟨gb254, 0, none⟩ = some (.int .u64 D0) ∧ w'.cell? ⟨gb254, 1, none⟩ = some (.int .u64 D1) ∧ w'.cell? ⟨gb254, 2, none⟩ = some (.int .u64 D2) ∧ w'.cell? ⟨gb254, 3, none⟩ = some (.int .u64 D3) ∧ w'.cell? ⟨gb254, 4, none⟩ = some (.int .u64 D4) ∧ w'.cell? ⟨gb254, 5, none⟩ = some (.int .u64 D5) ∧ w'.cell? ⟨gb256, 0, none⟩ = some (.int .u64 G0) ∧ w'.cell? ⟨gb256, 1, none⟩ = some (.int .u64 G1) ∧ w'.cell? ⟨gb256, 2, none⟩ = some (.int .u64 G2) ∧ w'.cell? ⟨gb256, 3, none⟩ = some (.int .u64 G3) ∧ w'.cell? ⟨gb256, 4, none⟩ = some (.int .i64 G4) ∧ w'.cell? ⟨gb256, 5, none⟩ = some (.int .i64 G5) ∧ w'.cell? ⟨gb256, 6, none⟩ = some (.int .i64 G6)) ∧ (w'.heap[gb254]? = some (.cells #[.int .u64 D0, .int .u64 D1, .int .u64 D2, .int .u64 D3, .int .u64 D4, .int .u64 D5] 24 (0, 0))) ∧ (w'.heap[gb255]? = some (.cells #[.int .i64 E0, .int .i64 E1, .int .i64 E2, .int .i64 E3] 35 (0, 0))) ∧ (w'.heap[gb256]? = some (.cells #[.int .u64 G0, .int .u64 G1, .int .u64 G2, .int .u64 G3, .int .i64 G4, .int .i64 G5, .int .i64 G6] 42 (0, 0))) ∧ (Below w.heap.size w w')) ?_ ?_
                    rotate_left
                    · intro hJ8
                      refine join_ (σ := Nat) 6 #[true, true, true, true, true, true, true, true, false, true, true, true, true, false, true, true, true, true, false, true, true, true, true, false, false, true, false] (fun s_ => [(9, .pointer (some ⟨s_, 0, none⟩))]) (fun s_ w' => (w'.cell? ⟨gb254, 0, none⟩ = some (.int .u64 D0) ∧ w'.cell? ⟨gb254, 1, none⟩ = some (.int .u64 D1) ∧ w'.cell? ⟨gb254, 2, none⟩ = some (.int .u64 D2) ∧ w'.cell? ⟨gb254, 3, none⟩ = some (.int .u64 D3) ∧ w'.cell? ⟨gb254, 4, none⟩ = some (.int .u64 D4) ∧ w'.cell? ⟨gb254, 5, none⟩ = some (.int .u64 D5) ∧ w'.cell? ⟨gb256, 0, none⟩ = some (.int .u64 G0) ∧ w'.cell? ⟨gb256, 1, none⟩ = some (.int .u64 G1) ∧ w'.cell? ⟨gb256, 2, none⟩ = some (.int .u64 G2) ∧ w'.cell? ⟨gb256, 3, none⟩ = some (.int .u64 G3) ∧ w'.cell? ⟨gb256, 4, none⟩ = some (.int .i64 G4) ∧ w'.cell? ⟨gb256, 5, none⟩ = some (.int .i64 G5) ∧ w'.cell? ⟨gb256, 6, none⟩ = some (.int .i64 G6)) ∧ (w'.heap[gb254]? = some (.cells #[.int .u64 D0, .int .u64 D1, .int .u64 D2, .int .u64 D3, .int .u64 D4, .int .u64 D5] 24 (0, 0))) ∧ (w'.heap[gb255]? = some (.cells #[.int .i64 E0, .int .i64 E1, .int .i64 E2, .int .i64 E3] 35 (0, 0))) ∧ (w'.heap[gb256]? = some (.cells #[.int .u64 G0, .int .u64 G1, .int .u64 G2, .int .u64 G3, .int .i64 G4, .int .i64 G5, .int .i64 G6] 42 (0, 0))) ∧ (w'.heap[s_]? = some (.cells #[.int .u64 0, .int .u64 0, .int .u64 0, .int .u64 0, .int .u64 0, .int .u64 0] 24 (0, 0))) ∧ (w.heap.size ≤ s_) ∧ (w.heap.size ≤ s_) ∧ (gb254 ≠ s_) ∧ (s_ ≠ gb254) ∧ (gb255 ≠ s_) ∧ (s_ ≠ gb255) ∧ (gb256 ≠ s_) ∧ (s_ ≠ gb256) ∧ (Below w.heap.size w w')) ?_ ?_
                      rotate_left
                      · intro hJ25
                        refine two_ (i := 8) (j := 25) (Ni := some 35) (Nj := some 9) #[true, true, true, true, true, true, true, true, true, true, true, true, true, false, true, true, true, true, false, true, true, true, true, false, false, false, false] #[true, true, true, true, true, true, true, true, false, true, true, true, true, false, true, true, true, true, false, true, true, true, true, false, false, true, false] rfl rfl rfl rfl (two_of HT_.out (by kernel_rfl)) (by decide) (by decide) (fun K hK => ?_) (fun K hK => ?_)
                        · skip
                          refine goes_ Try.func19 (by kernel_rfl) rfl #[.int .u64 D2, .int .u64 G0, .int .u64 65536] (by rfl) rfl rfl (by (try simp only [List.map_toArray, List.map_cons, List.map_nil]); first | done | rfl | (simp only [List.length_drop, List.length_take]; rfl)) ?_
                          with_reducible refine (cofferdamlaw10_up.calls D2 G0 65536 t260 _ A8.out).mono ?_
                          rintro e w29 ⟨rfl, hb⟩
                          refine ⟨_, rfl, ?_⟩
                          have n0_ := Aside0.mk (blk_below (g := gb254) (o := .cells #[.int .u64 D0, .int .u64 D1, .int .u64 D2, .int .u64 D3, .int .u64 D4, .int .u64 D5] 24 (0, 0)) (bk BK254.out) hb)
                          have n1_ := Aside0.mk (blk_below (g := gb255) (o := .cells #[.int .i64 E0, .int .i64 E1, .int .i64 E2, .int .i64 E3] 35 (0, 0)) (bk BK255.out) hb)
                          have n2_ := Aside0.mk (blk_below (g := gb256) (o := .cells #[.int .u64 G0, .int .u64 G1, .int .u64 G2, .int .u64 G3, .int .i64 G4, .int .i64 G5, .int .i64 G6] 42 (0, 0)) (bk BK256.out) hb)
                          have n3_ := Aside0.mk (below_step (by repeat (first | (with_reducible first | exact HB.out | apply below_alloc | apply pw_below_drewN | apply below_drew1 | refine below_set ?_ GE254.out | refine below_set ?_ GE255.out | refine below_set ?_ GE256.out) | exact HB.out)) hb)
                          clear BK254
                          clear BK255
                          clear BK256
                          clear HB
                          have BK254 := n0_
                          have BK255 := n1_
                          have BK256 := n2_
                          have HB := n3_
                          clear n0_ n1_ n2_ n3_
                          (try clear hb)
                          (try clear hb2)
                          (try clear hk)
                          (try clear hi)
                          refine hK.out _ _ ⟨(blk_cell BK254.out 0).trans rfl, (blk_cell BK254.out 1).trans rfl, (blk_cell BK254.out 2).trans rfl, (blk_cell BK254.out 3).trans rfl, (blk_cell BK254.out 4).trans rfl, (blk_cell BK254.out 5).trans rfl, (blk_cell BK256.out 0).trans rfl, (blk_cell BK256.out 1).trans rfl, (blk_cell BK256.out 2).trans rfl, (blk_cell BK256.out 3).trans rfl, (blk_cell BK256.out 4).trans rfl, (blk_cell BK256.out 5).trans rfl, (blk_cell BK256.out 6).trans rfl⟩ (fun hHeld => ?_)
                          clear hK K
                          refine norm_ (a' := ?_) ?_ ?_
                          rotate_left
                          · show Act.put _ (some 35) _ = _
                            simp only [Act.put, List.setIfInBounds_toArray, List.set_cons_zero, List.set_cons_succ, i64_w, i32_w]
                            rfl
                          exact norm_ (by first | (simp only [putAll, Act.put, List.setIfInBounds_toArray, List.set_cons_zero, List.set_cons_succ]; done) | (simp only [putAll, Act.put, List.setIfInBounds_toArray, List.set_cons_zero, List.set_cons_succ]; rfl)) (hJ8 () _ ⟨hHeld, (bk BK254.out), (bk BK255.out), (bk BK256.out), (by repeat (first | (with_reducible first | exact HB.out | apply below_alloc | apply pw_below_drewN | apply below_drew1 | refine below_set ?_ GE254.out | refine below_set ?_ GE255.out | refine below_set ?_ GE256.out) | exact HB.out))⟩)
                        · skip
                          refine box_step ?hg (N := 9) ?hd (cs := #[.int .u64 0, .int .u64 0, .int .u64 0, .int .u64 0, .int .u64 0, .int .u64 0]) (t := 24) ?hr ?_; (case hd => rfl); (case hg => rfl); (case hr => first | (go_simp; done) | (go_simp; rfl))
                          intro gb264 hg w29 hbox hb
                          have n0_ := Aside0.mk (blk_below (g := gb254) (o := .cells #[.int .u64 D0, .int .u64 D1, .int .u64 D2, .int .u64 D3, .int .u64 D4, .int .u64 D5] 24 (0, 0)) (bk BK254.out) hb)
                          have n1_ := Aside0.mk (blk_below (g := gb255) (o := .cells #[.int .i64 E0, .int .i64 E1, .int .i64 E2, .int .i64 E3] 35 (0, 0)) (bk BK255.out) hb)
                          have n2_ := Aside0.mk (blk_below (g := gb256) (o := .cells #[.int .u64 G0, .int .u64 G1, .int .u64 G2, .int .u64 G3, .int .i64 G4, .int .i64 G5, .int .i64 G6] 42 (0, 0)) (bk BK256.out) hb)
                          have n3_ := Aside0.mk (below_step (by repeat (first | (with_reducible first | exact HB.out | apply below_alloc | apply pw_below_drewN | apply below_drew1 | refine below_set ?_ GE254.out | refine below_set ?_ GE255.out | refine below_set ?_ GE256.out) | exact HB.out)) hb)
                          have n4_ := Aside0.mk (hbox)
                          have n5_ := Aside0.mk ((by rw [hg]; exact (below_size (by repeat (first | (with_reducible first | exact HB.out | apply below_alloc | apply pw_below_drewN | apply below_drew1 | refine below_set ?_ GE254.out | refine below_set ?_ GE255.out | refine below_set ?_ GE256.out) | exact HB.out))) : w.heap.size ≤ gb264))
                          have n6_ := Aside0.mk ((by rw [hg]; exact (below_size (by repeat (first | (with_reducible first | exact HB.out | apply below_alloc | apply pw_below_drewN | apply below_drew1 | refine below_set ?_ GE254.out | refine below_set ?_ GE255.out | refine below_set ?_ GE256.out) | exact HB.out))) : w.heap.size ≤ gb264))
                          have n7_ := Aside0.mk ((by rw [hg]; exact Nat.ne_of_lt (blk_lt (g := gb254) (o := .cells #[.int .u64 D0, .int .u64 D1, .int .u64 D2, .int .u64 D3, .int .u64 D4, .int .u64 D5] 24 (0, 0)) (bk BK254.out)) : gb254 ≠ gb264))
                          have n8_ := Aside0.mk ((by rw [hg]; exact Nat.ne_of_gt (blk_lt (g := gb254) (o := .cells #[.int .u64 D0, .int .u64 D1, .int .u64 D2, .int .u64 D3, .int .u64 D4, .int .u64 D5] 24 (0, 0)) (bk BK254.out)) : gb264 ≠ gb254))
                          have n9_ := Aside0.mk ((by rw [hg]; exact Nat.ne_of_lt (blk_lt (g := gb255) (o := .cells #[.int .i64 E0, .int .i64 E1, .int .i64 E2, .int .i64 E3] 35 (0, 0)) (bk BK255.out)) : gb255 ≠ gb264))
                          have n10_ := Aside0.mk ((by rw [hg]; exact Nat.ne_of_gt (blk_lt (g := gb255) (o := .cells #[.int .i64 E0, .int .i64 E1, .int .i64 E2, .int .i64 E3] 35 (0, 0)) (bk BK255.out)) : gb264 ≠ gb255))
                          have n11_ := Aside0.mk ((by rw [hg]; exact Nat.ne_of_lt (blk_lt (g := gb256) (o := .cells #[.int .u64 G0, .int .u64 G1, .int .u64 G2, .int .u64 G3, .int .i64 G4, .int .i64 G5, .int .i64 G6] 42 (0, 0)) (bk BK256.out)) : gb256 ≠ gb264))
                          have n12_ := Aside0.mk ((by rw [hg]; exact Nat.ne_of_gt (blk_lt (g := gb256) (o := .cells #[.int .u64 G0, .int .u64 G1, .int .u64 G2, .int .u64 G3, .int .i64 G4, .int .i64 G5, .int .i64 G6] 42 (0, 0)) (bk BK256.out)) : gb264 ≠ gb256))
                          clear BK254
                          clear BK255
                          clear BK256
                          clear HB
                          have BK254 := n0_
                          have BK255 := n1_
                          have BK256 := n2_
                          have HB := n3_
                          have BK264 := n4_
                          have GW264 := n5_
                          have GE264 := n6_
                          have NB254_264 := n7_
                          have NB264_254 := n8_
                          have NB255_264 := n9_
                          have NB264_255 := n10_
                          have NB256_264 := n11_
                          have NB264_256 := n12_
                          clear n0_ n1_ n2_ n3_ n4_ n5_ n6_ n7_ n8_ n9_ n10_ n11_ n12_
                          clear hb hbox hg
                          refine hK.out _ _ ⟨(blk_cell BK254.out 0).trans rfl, (blk_cell BK254.out 1).trans rfl, (blk_cell BK254.out 2).trans rfl, (blk_cell BK254.out 3).trans rfl, (blk_cell BK254.out 4).trans rfl, (blk_cell BK254.out 5).trans rfl, (blk_cell BK256.out 0).trans rfl, (blk_cell BK256.out 1).trans rfl, (blk_cell BK256.out 2).trans rfl, (blk_cell BK256.out 3).trans rfl, (blk_cell BK256.out 4).trans rfl, (blk_cell BK256.out 5).trans rfl, (blk_cell BK256.out 6).trans rfl⟩ (fun hHeld => ?_)
                          clear hK K
                          refine norm_ (a' := ?_) ?_ ?_
                          rotate_left
                          · show Act.put _ (some 9) _ = _
                            simp only [Act.put, List.setIfInBounds_toArray, List.set_cons_zero, List.set_cons_succ, i64_w, i32_w]
                            rfl
                          exact norm_ (by first | (simp only [putAll, Act.put, List.setIfInBounds_toArray, List.set_cons_zero, List.set_cons_succ]; done) | (simp only [putAll, Act.put, List.setIfInBounds_toArray, List.set_cons_zero, List.set_cons_succ]; rfl)) (hJ25 (gb264) _ ⟨hHeld, (bk BK254.out), (bk BK255.out), (bk BK256.out), (bk BK264.out), GW264.out, GE264.out, NB254_264.out, NB264_254.out, NB255_264.out, NB264_255.out, NB256_264.out, NB264_256.out, (by repeat (first | (with_reducible first | exact HB.out | apply below_alloc | apply pw_below_drewN | apply below_drew1 | refine below_set ?_ GE254.out | refine below_set ?_ GE255.out | refine below_set ?_ GE256.out | refine below_set ?_ GE264.out) | exact HB.out))⟩)
                      · skip
                        rintro gb264 w30 ⟨hS_, h0_, h1_, h2_, h3_, h4_, h5_, h6_, h7_, h8_, h9_, h10_, h11_, h12_⟩
                        have n0_ : Aside0 (w30.heap[gb254]? = some (.cells #[.int .u64 D0, .int .u64 D1, .int .u64 D2, .int .u64 D3, .int .u64 D4, .int .u64 D5] 24 (0, 0))) := ⟨h0_⟩
                        have n1_ : Aside0 (w30.heap[gb255]? = some (.cells #[.int .i64 E0, .int .i64 E1, .int .i64 E2, .int .i64 E3] 35 (0, 0))) := ⟨h1_⟩
                        have n2_ : Aside0 (w30.heap[gb256]? = some (.cells #[.int .u64 G0, .int .u64 G1, .int .u64 G2, .int .u64 G3, .int .i64 G4, .int .i64 G5, .int .i64 G6] 42 (0, 0))) := ⟨h2_⟩
                        have n3_ : Aside0 (w30.heap[gb264]? = some (.cells #[.int .u64 0, .int .u64 0, .int .u64 0, .int .u64 0, .int .u64 0, .int .u64 0] 24 (0, 0))) := ⟨h3_⟩
                        have n4_ : Aside0 (w.heap.size ≤ gb264) := ⟨h4_⟩
                        have n5_ : Aside0 (w.heap.size ≤ gb264) := ⟨h5_⟩
                        have n6_ : Aside0 (gb254 ≠ gb264) := ⟨h6_⟩
                        have n7_ : Aside0 (gb264 ≠ gb254) := ⟨h7_⟩
                        have n8_ : Aside0 (gb255 ≠ gb264) := ⟨h8_⟩
                        have n9_ : Aside0 (gb264 ≠ gb255) := ⟨h9_⟩
                        have n10_ : Aside0 (gb256 ≠ gb264) := ⟨h10_⟩
                        have n11_ : Aside0 (gb264 ≠ gb256) := ⟨h11_⟩
                        have n12_ : Aside0 (Below w.heap.size w w30) := ⟨h12_⟩
                        clear BK254
                        clear BK255
                        clear BK256
                        clear HB
                        clear h0_ h1_ h2_ h3_ h4_ h5_ h6_ h7_ h8_ h9_ h10_ h11_ h12_
                        have BK254 := n0_
                        have BK255 := n1_
                        have BK256 := n2_
                        have BK264 := n3_
                        have GW264 := n4_
                        have GE264 := n5_
                        have NB254_264 := n6_
                        have NB264_254 := n7_
                        have NB255_264 := n8_
                        have NB264_255 := n9_
                        have NB256_264 := n10_
                        have NB264_256 := n11_
                        have HB := n12_
                        clear n0_ n1_ n2_ n3_ n4_ n5_ n6_ n7_ n8_ n9_ n10_ n11_ n12_
                        have hHeld : w30.cell? ⟨gb254, 0, none⟩ = some (.int .u64 D0) ∧ w30.cell? ⟨gb254, 1, none⟩ = some (.int .u64 D1) ∧ w30.cell? ⟨gb254, 2, none⟩ = some (.int .u64 D2) ∧ w30.cell? ⟨gb254, 3, none⟩ = some (.int .u64 D3) ∧ w30.cell? ⟨gb254, 4, none⟩ = some (.int .u64 D4) ∧ w30.cell? ⟨gb254, 5, none⟩ = some (.int .u64 D5) ∧ w30.cell? ⟨gb256, 0, none⟩ = some (.int .u64 G0) ∧ w30.cell? ⟨gb256, 1, none⟩ = some (.int .u64 G1) ∧ w30.cell? ⟨gb256, 2, none⟩ = some (.int .u64 G2) ∧ w30.cell? ⟨gb256, 3, none⟩ = some (.int .u64 G3) ∧ w30.cell? ⟨gb256, 4, none⟩ = some (.int .i64 G4) ∧ w30.cell? ⟨gb256, 5, none⟩ = some (.int .i64 G5) ∧ w30.cell? ⟨gb256, 6, none⟩ = some (.int .i64 G6) := hS_
                        refine norm_ (a' := ?_) ?_ ?_
                        rotate_left
                        · simp only [putAll, Act.put, List.setIfInBounds_toArray, List.set_cons_zero, List.set_cons_succ]
                          rfl
                        refine one_ (i := 8) (N := some 35) #[true, true, true, true, true, true, true, true, true, true, true, true, true, false, true, true, true, true, false, true, true, true, true, false, false, true, false] rfl rfl (one_of HT_.out (by kernel_rfl)) (by decide) (fun K hK => ?_)
                        refine goes_ Try.func19 (by kernel_rfl) rfl #[.int .u64 D2, .int .u64 G0, .int .u64 65536] (by rfl) rfl rfl (by (try simp only [List.map_toArray, List.map_cons, List.map_nil]); first | done | rfl | (simp only [List.length_drop, List.length_take]; rfl)) ?_
                        with_reducible refine (cofferdamlaw10_up.calls D2 G0 65536 t260 _ A8.out).mono ?_
                        rintro e w31 ⟨rfl, hb⟩
                        refine ⟨_, rfl, ?_⟩
                        have n0_ := Aside0.mk (blk_below (g := gb254) (o := .cells #[.int .u64 D0, .int .u64 D1, .int .u64 D2, .int .u64 D3, .int .u64 D4, .int .u64 D5] 24 (0, 0)) (bk BK254.out) hb)
                        have n1_ := Aside0.mk (blk_below (g := gb255) (o := .cells #[.int .i64 E0, .int .i64 E1, .int .i64 E2, .int .i64 E3] 35 (0, 0)) (bk BK255.out) hb)
                        have n2_ := Aside0.mk (blk_below (g := gb256) (o := .cells #[.int .u64 G0, .int .u64 G1, .int .u64 G2, .int .u64 G3, .int .i64 G4, .int .i64 G5, .int .i64 G6] 42 (0, 0)) (bk BK256.out) hb)
                        have n3_ := Aside0.mk (blk_below (g := gb264) (o := .cells #[.int .u64 0, .int .u64 0, .int .u64 0, .int .u64 0, .int .u64 0, .int .u64 0] 24 (0, 0)) (bk BK264.out) hb)
                        have n4_ := Aside0.mk (below_step (by repeat (first | (with_reducible first | exact HB.out | apply below_alloc | apply pw_below_drewN | apply below_drew1 | refine below_set ?_ GE254.out | refine below_set ?_ GE255.out | refine below_set ?_ GE256.out | refine below_set ?_ GE264.out) | exact HB.out)) hb)
                        clear BK254
                        clear BK255
                        clear BK256
                        clear BK264
                        clear HB
                        have BK254 := n0_
                        have BK255 := n1_
                        have BK256 := n2_
                        have BK264 := n3_
                        have HB := n4_
                        clear n0_ n1_ n2_ n3_ n4_
                        (try clear hb)
                        (try clear hb2)
                        (try clear hk)
                        (try clear hi)
                        refine hK.out _ _ ⟨(blk_cell BK254.out 0).trans rfl, (blk_cell BK254.out 1).trans rfl, (blk_cell BK254.out 2).trans rfl, (blk_cell BK254.out 3).trans rfl, (blk_cell BK254.out 4).trans rfl, (blk_cell BK254.out 5).trans rfl, (blk_cell BK256.out 0).trans rfl, (blk_cell BK256.out 1).trans rfl, (blk_cell BK256.out 2).trans rfl, (blk_cell BK256.out 3).trans rfl, (blk_cell BK256.out 4).trans rfl, (blk_cell BK256.out 5).trans rfl, (blk_cell BK256.out 6).trans rfl⟩ (fun hHeld => ?_)
                        clear hK K
                        refine norm_ (a' := ?_) ?_ ?_
                        rotate_left
                        · show Act.put _ (some 35) _ = _
                          simp only [Act.put, List.setIfInBounds_toArray, List.set_cons_zero, List.set_cons_succ, i64_w, i32_w]
                          rfl
                        exact norm_ (by first | (simp only [putAll, Act.put, List.setIfInBounds_toArray, List.set_cons_zero, List.set_cons_succ]; done) | (simp only [putAll, Act.put, List.setIfInBounds_toArray, List.set_cons_zero, List.set_cons_succ]; rfl)) (hJ8_25 (gb264) _ ⟨hHeld, (bk BK254.out), (bk BK255.out), (bk BK256.out), (bk BK264.out), GW264.out, GE264.out, NB254_264.out, NB264_254.out, NB255_264.out, NB264_255.out, NB256_264.out, NB264_256.out, (by repeat (first | (with_reducible first | exact HB.out | apply below_alloc | apply pw_below_drewN | apply below_drew1 | refine below_set ?_ GE254.out | refine below_set ?_ GE255.out | refine below_set ?_ GE256.out | refine below_set ?_ GE264.out) | exact HB.out))⟩)
                    · skip
                      rintro _ w30 ⟨hS_, h0_, h1_, h2_, h3_⟩
                      have n0_ : Aside0 (w30.heap[gb254]? = some (.cells #[.int .u64 D0, .int .u64 D1, .int .u64 D2, .int .u64 D3, .int .u64 D4, .int .u64 D5] 24 (0, 0))) := ⟨h0_⟩
                      have n1_ : Aside0 (w30.heap[gb255]? = some (.cells #[.int .i64 E0, .int .i64 E1, .int .i64 E2, .int .i64 E3] 35 (0, 0))) := ⟨h1_⟩
                      have n2_ : Aside0 (w30.heap[gb256]? = some (.cells #[.int .u64 G0, .int .u64 G1, .int .u64 G2, .int .u64 G3, .int .i64 G4, .int .i64 G5, .int .i64 G6] 42 (0, 0))) := ⟨h2_⟩
                      have n3_ : Aside0 (Below w.heap.size w w30) := ⟨h3_⟩
                      clear BK254
                      clear BK255
                      clear BK256
                      clear HB
                      clear h0_ h1_ h2_ h3_
                      have BK254 := n0_
                      have BK255 := n1_
                      have BK256 := n2_
                      have HB := n3_
                      clear n0_ n1_ n2_ n3_
                      have hHeld : w30.cell? ⟨gb254, 0, none⟩ = some (.int .u64 D0) ∧ w30.cell? ⟨gb254, 1, none⟩ = some (.int .u64 D1) ∧ w30.cell? ⟨gb254, 2, none⟩ = some (.int .u64 D2) ∧ w30.cell? ⟨gb254, 3, none⟩ = some (.int .u64 D3) ∧ w30.cell? ⟨gb254, 4, none⟩ = some (.int .u64 D4) ∧ w30.cell? ⟨gb254, 5, none⟩ = some (.int .u64 D5) ∧ w30.cell? ⟨gb256, 0, none⟩ = some (.int .u64 G0) ∧ w30.cell? ⟨gb256, 1, none⟩ = some (.int .u64 G1) ∧ w30.cell? ⟨gb256, 2, none⟩ = some (.int .u64 G2) ∧ w30.cell? ⟨gb256, 3, none⟩ = some (.int .u64 G3) ∧ w30.cell? ⟨gb256, 4, none⟩ = some (.int .i64 G4) ∧ w30.cell? ⟨gb256, 5, none⟩ = some (.int .i64 G5) ∧ w30.cell? ⟨gb256, 6, none⟩ = some (.int .i64 G6) := hS_
                      refine norm_ (a' := ?_) ?_ ?_
                      rotate_left
                      · simp only [putAll, Act.put, List.setIfInBounds_toArray, List.set_cons_zero, List.set_cons_succ]
                        rfl
                      refine two_ (i := 13) (j := 25) (Ni := some 40) (Nj := some 9) #[true, true, true, true, true, true, true, true, true, true, true, true, true, true, true, true, true, true, false, true, true, true, true, false, false, false, false] #[true, true, true, true, true, true, true, true, true, true, true, true, true, false, true, true, true, true, false, true, true, true, true, false, false, true, false] rfl rfl rfl rfl (two_of HT_.out (by kernel_rfl)) (by decide) (by decide) (fun K hK => ?_) (fun K hK => ?_)
                      · skip
                        refine goes_ Try.func19 (by kernel_rfl) rfl #[.int .u64 D3, .int .u64 G1, .int .u64 65536] (by rfl) rfl rfl (by (try simp only [List.map_toArray, List.map_cons, List.map_nil]); first | done | rfl | (simp only [List.length_drop, List.length_take]; rfl)) ?_
                        with_reducible refine (cofferdamlaw10_up.calls D3 G1 65536 t261 _ A9.out).mono ?_
                        rintro e w31 ⟨rfl, hb⟩
                        refine ⟨_, rfl, ?_⟩
                        have n0_ := Aside0.mk (blk_below (g := gb254) (o := .cells #[.int .u64 D0, .int .u64 D1, .int .u64 D2, .int .u64 D3, .int .u64 D4, .int .u64 D5] 24 (0, 0)) (bk BK254.out) hb)
                        have n1_ := Aside0.mk (blk_below (g := gb255) (o := .cells #[.int .i64 E0, .int .i64 E1, .int .i64 E2, .int .i64 E3] 35 (0, 0)) (bk BK255.out) hb)
                        have n2_ := Aside0.mk (blk_below (g := gb256) (o := .cells #[.int .u64 G0, .int .u64 G1, .int .u64 G2, .int .u64 G3, .int .i64 G4, .int .i64 G5, .int .i64 G6] 42 (0, 0)) (bk BK256.out) hb)
                        have n3_ := Aside0.mk (below_step (by repeat (first | (with_reducible first | exact HB.out | apply below_alloc | apply pw_below_drewN | apply below_drew1 | refine below_set ?_ GE254.out | refine below_set ?_ GE255.out | refine below_set ?_ GE256.out) | exact HB.out)) hb)
                        clear BK254
                        clear BK255
                        clear BK256
                        clear HB
                        have BK254 := n0_
                        have BK255 := n1_
                        have BK256 := n2_
                        have HB := n3_
                        clear n0_ n1_ n2_ n3_
                        (try clear hb)
                        (try clear hb2)
                        (try clear hk)
                        (try clear hi)
                        refine hK.out _ _ ⟨(blk_cell BK254.out 0).trans rfl, (blk_cell BK254.out 1).trans rfl, (blk_cell BK254.out 2).trans rfl, (blk_cell BK254.out 3).trans rfl, (blk_cell BK254.out 4).trans rfl, (blk_cell BK254.out 5).trans rfl, (blk_cell BK256.out 0).trans rfl, (blk_cell BK256.out 1).trans rfl, (blk_cell BK256.out 2).trans rfl, (blk_cell BK256.out 3).trans rfl, (blk_cell BK256.out 4).trans rfl, (blk_cell BK256.out 5).trans rfl, (blk_cell BK256.out 6).trans rfl⟩ (fun hHeld => ?_)
                        clear hK K
                        refine norm_ (a' := ?_) ?_ ?_
                        rotate_left
                        · show Act.put _ (some 40) _ = _
                          simp only [Act.put, List.setIfInBounds_toArray, List.set_cons_zero, List.set_cons_succ, i64_w, i32_w]
                          rfl
                        exact norm_ (by first | (simp only [putAll, Act.put, List.setIfInBounds_toArray, List.set_cons_zero, List.set_cons_succ]; done) | (simp only [putAll, Act.put, List.setIfInBounds_toArray, List.set_cons_zero, List.set_cons_succ]; rfl)) (hJ8_13 () _ ⟨hHeld, (bk BK254.out), (bk BK255.out), (bk BK256.out), (by repeat (first | (with_reducible first | exact HB.out | apply below_alloc | apply pw_below_drewN | apply below_drew1 | refine below_set ?_ GE254.out | refine below_set ?_ GE255.out | refine below_set ?_ GE256.out) | exact HB.out))⟩)
                      · skip
                        refine box_step ?hg (N := 9) ?hd (cs := #[.int .u64 0, .int .u64 0, .int .u64 0, .int .u64 0, .int .u64 0, .int .u64 0]) (t := 24) ?hr ?_; (case hd => rfl); (case hg => rfl); (case hr => first | (go_simp; done) | (go_simp; rfl))
                        intro gb264 hg w31 hbox hb
                        have n0_ := Aside0.mk (blk_below (g := gb254) (o := .cells #[.int .u64 D0, .int .u64 D1, .int .u64 D2, .int .u64 D3, .int .u64 D4, .int .u64 D5] 24 (0, 0)) (bk BK254.out) hb)
                        have n1_ := Aside0.mk (blk_below (g := gb255) (o := .cells #[.int .i64 E0, .int .i64 E1, .int .i64 E2, .int .i64 E3] 35 (0, 0)) (bk BK255.out) hb)
                        have n2_ := Aside0.mk (blk_below (g := gb256) (o := .cells #[.int .u64 G0, .int .u64 G1, .int .u64 G2, .int .u64 G3, .int .i64 G4, .int .i64 G5, .int .i64 G6] 42 (0, 0)) (bk BK256.out) hb)
                        have n3_ := Aside0.mk (below_step (by repeat (first | (with_reducible first | exact HB.out | apply below_alloc | apply pw_below_drewN | apply below_drew1 | refine below_set ?_ GE254.out | refine below_set ?_ GE255.out | refine below_set ?_ GE256.out) | exact HB.out)) hb)
                        have n4_ := Aside0.mk (hbox)
                        have n5_ := Aside0.mk ((by rw [hg]; exact (below_size (by repeat (first | (with_reducible first | exact HB.out | apply below_alloc | apply pw_below_drewN | apply below_drew1 | refine below_set ?_ GE254.out | refine below_set ?_ GE255.out | refine below_set ?_ GE256.out) | exact HB.out))) : w.heap.size ≤ gb264))
                        have n6_ := Aside0.mk ((by rw [hg]; exact (below_size (by repeat (first | (with_reducible first | exact HB.out | apply below_alloc | apply pw_below_drewN | apply below_drew1 | refine below_set ?_ GE254.out | refine below_set ?_ GE255.out | refine below_set ?_ GE256.out) | exact HB.out))) : w.heap.size ≤ gb264))
                        have n7_ := Aside0.mk ((by rw [hg]; exact Nat.ne_of_lt (blk_lt (g := gb254) (o := .cells #[.int .u64 D0, .int .u64 D1, .int .u64 D2, .int .u64 D3, .int .u64 D4, .int .u64 D5] 24 (0, 0)) (bk BK254.out)) : gb254 ≠ gb264))
                        have n8_ := Aside0.mk ((by rw [hg]; exact Nat.ne_of_gt (blk_lt (g := gb254) (o := .cells #[.int .u64 D0, .int .u64 D1, .int .u64 D2, .int .u64 D3, .int .u64 D4, .int .u64 D5] 24 (0, 0)) (bk BK254.out)) : gb264 ≠ gb254))
                        have n9_ := Aside0.mk ((by rw [hg]; exact Nat.ne_of_lt (blk_lt (g := gb255) (o := .cells #[.int .i64 E0, .int .i64 E1, .int .i64 E2, .int .i64 E3] 35 (0, 0)) (bk BK255.out)) : gb255 ≠ gb264))
                        have n10_ := Aside0.mk ((by rw [hg]; exact Nat.ne_of_gt (blk_lt (g := gb255) (o := .cells #[.int .i64 E0, .int .i64 E1, .int .i64 E2, .int .i64 E3] 35 (0, 0)) (bk BK255.out)) : gb264 ≠ gb255))
                        have n11_ := Aside0.mk ((by rw [hg]; exact Nat.ne_of_lt (blk_lt (g := gb256) (o := .cells #[.int .u64 G0, .int .u64 G1, .int .u64 G2, .int .u64 G3, .int .i64 G4, .int .i64 G5, .int .i64 G6] 42 (0, 0)) (bk BK256.out)) : gb256 ≠ gb264))
                        have n12_ := Aside0.mk ((by rw [hg]; exact Nat.ne_of_gt (blk_lt (g := gb256) (o := .cells #[.int .u64 G0, .int .u64 G1, .int .u64 G2, .int .u64 G3, .int .i64 G4, .int .i64 G5, .int .i64 G6] 42 (0, 0)) (bk BK256.out)) : gb264 ≠ gb256))
                        clear BK254
                        clear BK255
                        clear BK256
                        clear HB
                        have BK254 := n0_
                        have BK255 := n1_
                        have BK256 := n2_
                        have HB := n3_
                        have BK264 := n4_
                        have GW264 := n5_
                        have GE264 := n6_
                        have NB254_264 := n7_
                        have NB264_254 := n8_
                        have NB255_264 := n9_
                        have NB264_255 := n10_
                        have NB256_264 := n11_
                        have NB264_256 := n12_
                        clear n0_ n1_ n2_ n3_ n4_ n5_ n6_ n7_ n8_ n9_ n10_ n11_ n12_
                        clear hb hbox hg
                        refine hK.out _ _ ⟨(blk_cell BK254.out 0).trans rfl, (blk_cell BK254.out 1).trans rfl, (blk_cell BK254.out 2).trans rfl, (blk_cell BK254.out 3).trans rfl, (blk_cell BK254.out 4).trans rfl, (blk_cell BK254.out 5).trans rfl, (blk_cell BK256.out 0).trans rfl, (blk_cell BK256.out 1).trans rfl, (blk_cell BK256.out 2).trans rfl, (blk_cell BK256.out 3).trans rfl, (blk_cell BK256.out 4).trans rfl, (blk_cell BK256.out 5).trans rfl, (blk_cell BK256.out 6).trans rfl⟩ (fun hHeld => ?_)
                        clear hK K
                        refine norm_ (a' := ?_) ?_ ?_
                        rotate_left
                        · show Act.put _ (some 9) _ = _
                          simp only [Act.put, List.setIfInBounds_toArray, List.set_cons_zero, List.set_cons_succ, i64_w, i32_w]
                          rfl
                        exact norm_ (by first | (simp only [putAll, Act.put, List.setIfInBounds_toArray, List.set_cons_zero, List.set_cons_succ]; done) | (simp only [putAll, Act.put, List.setIfInBounds_toArray, List.set_cons_zero, List.set_cons_succ]; rfl)) (hJ8_25 (gb264) _ ⟨hHeld, (bk BK254.out), (bk BK255.out), (bk BK256.out), (bk BK264.out), GW264.out, GE264.out, NB254_264.out, NB264_254.out, NB255_264.out, NB264_255.out, NB256_264.out, NB264_256.out, (by repeat (first | (with_reducible first | exact HB.out | apply below_alloc | apply pw_below_drewN | apply below_drew1 | refine below_set ?_ GE254.out | refine below_set ?_ GE255.out | refine below_set ?_ GE256.out | refine below_set ?_ GE264.out) | exact HB.out))⟩)
                  · skip
                    rintro gb264 w31 ⟨hS_, h0_, h1_, h2_, h3_, h4_, h5_, h6_, h7_, h8_, h9_, h10_, h11_, h12_⟩
                    have n0_ : Aside0 (w31.heap[gb254]? = some (.cells #[.int .u64 D0, .int .u64 D1, .int .u64 D2, .int .u64 D3, .int .u64 D4, .int .u64 D5] 24 (0, 0))) := ⟨h0_⟩
                    have n1_ : Aside0 (w31.heap[gb255]? = some (.cells #[.int .i64 E0, .int .i64 E1, .int .i64 E2, .int .i64 E3] 35 (0, 0))) := ⟨h1_⟩
                    have n2_ : Aside0 (w31.heap[gb256]? = some (.cells #[.int .u64 G0, .int .u64 G1, .int .u64 G2, .int .u64 G3, .int .i64 G4, .int .i64 G5, .int .i64 G6] 42 (0, 0))) := ⟨h2_⟩
                    have n3_ : Aside0 (w31.heap[gb264]? = some (.cells #[.int .u64 0, .int .u64 0, .int .u64 0, .int .u64 0, .int .u64 0, .int .u64 0] 24 (0, 0))) := ⟨h3_⟩
                    have n4_ : Aside0 (w.heap.size ≤ gb264) := ⟨h4_⟩
                    have n5_ : Aside0 (w.heap.size ≤ gb264) := ⟨h5_⟩
                    have n6_ : Aside0 (gb254 ≠ gb264) := ⟨h6_⟩
                    have n7_ : Aside0 (gb264 ≠ gb254) := ⟨h7_⟩
                    have n8_ : Aside0 (gb255 ≠ gb264) := ⟨h8_⟩
                    have n9_ : Aside0 (gb264 ≠ gb255) := ⟨h9_⟩
                    have n10_ : Aside0 (gb256 ≠ gb264) := ⟨h10_⟩
                    have n11_ : Aside0 (gb264 ≠ gb256) := ⟨h11_⟩
                    have n12_ : Aside0 (Below w.heap.size w w31) := ⟨h12_⟩
                    clear BK254
                    clear BK255
                    clear BK256
                    clear HB
                    clear h0_ h1_ h2_ h3_ h4_ h5_ h6_ h7_ h8_ h9_ h10_ h11_ h12_
                    have BK254 := n0_
                    have BK255 := n1_
                    have BK256 := n2_
                    have BK264 := n3_
                    have GW264 := n4_
                    have GE264 := n5_
                    have NB254_264 := n6_
                    have NB264_254 := n7_
                    have NB255_264 := n8_
                    have NB264_255 := n9_
                    have NB256_264 := n10_
                    have NB264_256 := n11_
                    have HB := n12_
                    clear n0_ n1_ n2_ n3_ n4_ n5_ n6_ n7_ n8_ n9_ n10_ n11_ n12_
                    have hHeld : w31.cell? ⟨gb254, 0, none⟩ = some (.int .u64 D0) ∧ w31.cell? ⟨gb254, 1, none⟩ = some (.int .u64 D1) ∧ w31.cell? ⟨gb254, 2, none⟩ = some (.int .u64 D2) ∧ w31.cell? ⟨gb254, 3, none⟩ = some (.int .u64 D3) ∧ w31.cell? ⟨gb254, 4, none⟩ = some (.int .u64 D4) ∧ w31.cell? ⟨gb254, 5, none⟩ = some (.int .u64 D5) ∧ w31.cell? ⟨gb256, 0, none⟩ = some (.int .u64 G0) ∧ w31.cell? ⟨gb256, 1, none⟩ = some (.int .u64 G1) ∧ w31.cell? ⟨gb256, 2, none⟩ = some (.int .u64 G2) ∧ w31.cell? ⟨gb256, 3, none⟩ = some (.int .u64 G3) ∧ w31.cell? ⟨gb256, 4, none⟩ = some (.int .i64 G4) ∧ w31.cell? ⟨gb256, 5, none⟩ = some (.int .i64 G5) ∧ w31.cell? ⟨gb256, 6, none⟩ = some (.int .i64 G6) := hS_
                    refine norm_ (a' := ?_) ?_ ?_
                    rotate_left
                    · simp only [putAll, Act.put, List.setIfInBounds_toArray, List.set_cons_zero, List.set_cons_succ]
                      rfl
                    refine one_ (i := 13) (N := some 40) #[true, true, true, true, true, true, true, true, true, true, true, true, true, true, true, true, true, true, false, true, true, true, true, false, false, true, false] rfl rfl (one_of HT_.out (by kernel_rfl)) (by decide) (fun K hK => ?_)
                    refine goes_ Try.func19 (by kernel_rfl) rfl #[.int .u64 D3, .int .u64 G1, .int .u64 65536] (by rfl) rfl rfl (by (try simp only [List.map_toArray, List.map_cons, List.map_nil]); first | done | rfl | (simp only [List.length_drop, List.length_take]; rfl)) ?_
                    with_reducible refine (cofferdamlaw10_up.calls D3 G1 65536 t261 _ A9.out).mono ?_
                    rintro e w32 ⟨rfl, hb⟩
                    refine ⟨_, rfl, ?_⟩
                    have n0_ := Aside0.mk (blk_below (g := gb254) (o := .cells #[.int .u64 D0, .int .u64 D1, .int .u64 D2, .int .u64 D3, .int .u64 D4, .int .u64 D5] 24 (0, 0)) (bk BK254.out) hb)
                    have n1_ := Aside0.mk (blk_below (g := gb255) (o := .cells #[.int .i64 E0, .int .i64 E1, .int .i64 E2, .int .i64 E3] 35 (0, 0)) (bk BK255.out) hb)
                    have n2_ := Aside0.mk (blk_below (g := gb256) (o := .cells #[.int .u64 G0, .int .u64 G1, .int .u64 G2, .int .u64 G3, .int .i64 G4, .int .i64 G5, .int .i64 G6] 42 (0, 0)) (bk BK256.out) hb)
                    have n3_ := Aside0.mk (blk_below (g := gb264) (o := .cells #[.int .u64 0, .int .u64 0, .int .u64 0, .int .u64 0, .int .u64 0, .int .u64 0] 24 (0, 0)) (bk BK264.out) hb)
                    have n4_ := Aside0.mk (below_step (by repeat (first | (with_reducible first | exact HB.out | apply below_alloc | apply pw_below_drewN | apply below_drew1 | refine below_set ?_ GE254.out | refine below_set ?_ GE255.out | refine below_set ?_ GE256.out | refine below_set ?_ GE264.out) | exact HB.out)) hb)
                    clear BK254
                    clear BK255
                    clear BK256
                    clear BK264
                    clear HB
                    have BK254 := n0_
                    have BK255 := n1_
                    have BK256 := n2_
                    have BK264 := n3_
                    have HB := n4_
                    clear n0_ n1_ n2_ n3_ n4_
                    (try clear hb)
                    (try clear hb2)
                    (try clear hk)
                    (try clear hi)
                    refine hK.out _ _ ⟨(blk_cell BK254.out 0).trans rfl, (blk_cell BK254.out 1).trans rfl, (blk_cell BK254.out 2).trans rfl, (blk_cell BK254.out 3).trans rfl, (blk_cell BK254.out 4).trans rfl, (blk_cell BK254.out 5).trans rfl, (blk_cell BK256.out 0).trans rfl, (blk_cell BK256.out 1).trans rfl, (blk_cell BK256.out 2).trans rfl, (blk_cell BK256.out 3).trans rfl, (blk_cell BK256.out 4).trans rfl, (blk_cell BK256.out 5).trans rfl, (blk_cell BK256.out 6).trans rfl⟩ (fun hHeld => ?_)
                    clear hK K
                    refine norm_ (a' := ?_) ?_ ?_
                    rotate_left
                    · show Act.put _ (some 40) _ = _
                      simp only [Act.put, List.setIfInBounds_toArray, List.set_cons_zero, List.set_cons_succ, i64_w, i32_w]
                      rfl
                    exact norm_ (by first | (simp only [putAll, Act.put, List.setIfInBounds_toArray, List.set_cons_zero, List.set_cons_succ]; done) | (simp only [putAll, Act.put, List.setIfInBounds_toArray, List.set_cons_zero, List.set_cons_succ]; rfl)) (hJ8_13_25 (gb264) _ ⟨hHeld, (bk BK254.out), (bk BK255.out), (bk BK256.out), (bk BK264.out), GW264.out, GE264.out, NB254_264.out, NB264_254.out, NB255_264.out, NB264_255.out, NB256_264.out, NB264_256.out, (by repeat (first | (with_reducible first | exact HB.out | apply below_alloc | apply pw_below_drewN | apply below_drew1 | refine below_set ?_ GE254.out | refine below_set ?_ GE255.out | refine below_set ?_ GE256.out | refine below_set ?_ GE264.out) | exact HB.out))⟩)
                · skip
                  rintro _ w31 ⟨hS_, h0_, h1_, h2_, h3_⟩
                  have n0_ : Aside0 (w31.heap[gb254]? = some (.cells #[.int .u64 D0, .int .u64 D1, .int .u64 D2, .int .u64 D3, .int .u64 D4, .int .u64 D5] 24 (0, 0))) := ⟨h0_⟩
                  have n1_ : Aside0 (w31.heap[gb255]? = some (.cells #[.int .i64 E0, .int .i64 E1, .int .i64 E2, .int .i64 E3] 35 (0, 0))) := ⟨h1_⟩
                  have n2_ : Aside0 (w31.heap[gb256]? = some (.cells #[.int .u64 G0, .int .u64 G1, .int .u64 G2, .int .u64 G3, .int .i64 G4, .int .i64 G5, .int .i64 G6] 42 (0, 0))) := ⟨h2_⟩
                  have n3_ : Aside0 (Below w.heap.size w w31) := ⟨h3_⟩
                  clear BK254
                  clear BK255
                  clear BK256
                  clear HB
                  clear h0_ h1_ h2_ h3_
                  have BK254 := n0_
                  have BK255 := n1_
                  have BK256 := n2_
                  have HB := n3_
                  clear n0_ n1_ n2_ n3_
                  have hHeld : w31.cell? ⟨gb254, 0, none⟩ = some (.int .u64 D0) ∧ w31.cell? ⟨gb254, 1, none⟩ = some (.int .u64 D1) ∧ w31.cell? ⟨gb254, 2, none⟩ = some (.int .u64 D2) ∧ w31.cell? ⟨gb254, 3, none⟩ = some (.int .u64 D3) ∧ w31.cell? ⟨gb254, 4, none⟩ = some (.int .u64 D4) ∧ w31.cell? ⟨gb254, 5, none⟩ = some (.int .u64 D5) ∧ w31.cell? ⟨gb256, 0, none⟩ = some (.int .u64 G0) ∧ w31.cell? ⟨gb256, 1, none⟩ = some (.int .u64 G1) ∧ w31.cell? ⟨gb256, 2, none⟩ = some (.int .u64 G2) ∧ w31.cell? ⟨gb256, 3, none⟩ = some (.int .u64 G3) ∧ w31.cell? ⟨gb256, 4, none⟩ = some (.int .i64 G4) ∧ w31.cell? ⟨gb256, 5, none⟩ = some (.int .i64 G5) ∧ w31.cell? ⟨gb256, 6, none⟩ = some (.int .i64 G6) := hS_
                  refine norm_ (a' := ?_) ?_ ?_
                  rotate_left
                  · simp only [putAll, Act.put, List.setIfInBounds_toArray, List.set_cons_zero, List.set_cons_succ]
                    rfl
                  refine two_ (i := 18) (j := 25) (Ni := some 45) (Nj := some 9) #[true, true, true, true, true, true, true, true, true, true, true, true, true, true, true, true, true, true, true, true, true, true, true, false, false, false, false] #[true, true, true, true, true, true, true, true, true, true, true, true, true, true, true, true, true, true, false, true, true, true, true, false, false, true, false] rfl rfl rfl rfl (two_of HT_.out (by kernel_rfl)) (by decide) (by decide) (fun K hK => ?_) (fun K hK => ?_)
                  · skip
                    refine goes_ Try.func19 (by kernel_rfl) rfl #[.int .u64 D4, .int .u64 G2, .int .u64 65536] (by rfl) rfl rfl (by (try simp only [List.map_toArray, List.map_cons, List.map_nil]); first | done | rfl | (simp only [List.length_drop, List.length_take]; rfl)) ?_
                    with_reducible refine (cofferdamlaw10_up.calls D4 G2 65536 t262 _ A10.out).mono ?_
                    rintro e w32 ⟨rfl, hb⟩
                    refine ⟨_, rfl, ?_⟩
                    have n0_ := Aside0.mk (blk_below (g := gb254) (o := .cells #[.int .u64 D0, .int .u64 D1, .int .u64 D2, .int .u64 D3, .int .u64 D4, .int .u64 D5] 24 (0, 0)) (bk BK254.out) hb)
                    have n1_ := Aside0.mk (blk_below (g := gb255) (o := .cells #[.int .i64 E0, .int .i64 E1, .int .i64 E2, .int .i64 E3] 35 (0, 0)) (bk BK255.out) hb)
                    have n2_ := Aside0.mk (blk_below (g := gb256) (o := .cells #[.int .u64 G0, .int .u64 G1, .int .u64 G2, .int .u64 G3, .int .i64 G4, .int .i64 G5, .int .i64 G6] 42 (0, 0)) (bk BK256.out) hb)
                    have n3_ := Aside0.mk (below_step (by repeat (first | (with_reducible first | exact HB.out | apply below_alloc | apply pw_below_drewN | apply below_drew1 | refine below_set ?_ GE254.out | refine below_set ?_ GE255.out | refine below_set ?_ GE256.out) | exact HB.out)) hb)
                    clear BK254
                    clear BK255
                    clear BK256
                    clear HB
                    have BK254 := n0_
                    have BK255 := n1_
                    have BK256 := n2_
                    have HB := n3_
                    clear n0_ n1_ n2_ n3_
                    (try clear hb)
                    (try clear hb2)
                    (try clear hk)
                    (try clear hi)
                    refine hK.out _ _ ⟨(blk_cell BK254.out 0).trans rfl, (blk_cell BK254.out 1).trans rfl, (blk_cell BK254.out 2).trans rfl, (blk_cell BK254.out 3).trans rfl, (blk_cell BK254.out 4).trans rfl, (blk_cell BK254.out 5).trans rfl, (blk_cell BK256.out 0).trans rfl, (blk_cell BK256.out 1).trans rfl, (blk_cell BK256.out 2).trans rfl, (blk_cell BK256.out 3).trans rfl, (blk_cell BK256.out 4).trans rfl, (blk_cell BK256.out 5).trans rfl, (blk_cell BK256.out 6).trans rfl⟩ (fun hHeld => ?_)
                    clear hK K
                    refine norm_ (a' := ?_) ?_ ?_
                    rotate_left
                    · show Act.put _ (some 45) _ = _
                      simp only [Act.put, List.setIfInBounds_toArray, List.set_cons_zero, List.set_cons_succ, i64_w, i32_w]
                      rfl
                    exact norm_ (by first | (simp only [putAll, Act.put, List.setIfInBounds_toArray, List.set_cons_zero, List.set_cons_succ]; done) | (simp only [putAll, Act.put, List.setIfInBounds_toArray, List.set_cons_zero, List.set_cons_succ]; rfl)) (hJ8_13_18 () _ ⟨hHeld, (bk BK254.out), (bk BK255.out), (bk BK256.out), (by repeat (first | (with_reducible first | exact HB.out | apply below_alloc | apply pw_below_drewN | apply below_drew1 | refine below_set ?_ GE254.out | refine below_set ?_ GE255.out | refine below_set ?_ GE256.out) | exact HB.out))⟩)
                  · skip
                    refine box_step ?hg (N := 9) ?hd (cs := #[.int .u64 0, .int .u64 0, .int .u64 0, .int .u64 0, .int .u64 0, .int .u64 0]) (t := 24) ?hr ?_; (case hd => rfl); (case hg => rfl); (case hr => first | (go_simp; done) | (go_simp; rfl))
                    intro gb264 hg w32 hbox hb
                    have n0_ := Aside0.mk (blk_below (g := gb254) (o := .cells #[.int .u64 D0, .int .u64 D1, .int .u64 D2, .int .u64 D3, .int .u64 D4, .int .u64 D5] 24 (0, 0)) (bk BK254.out) hb)
                    have n1_ := Aside0.mk (blk_below (g := gb255) (o := .cells #[.int .i64 E0, .int .i64 E1, .int .i64 E2, .int .i64 E3] 35 (0, 0)) (bk BK255.out) hb)
                    have n2_ := Aside0.mk (blk_below (g := gb256) (o := .cells #[.int .u64 G0, .int .u64 G1, .int .u64 G2, .int .u64 G3, .int .i64 G4, .int .i64 G5, .int .i64 G6] 42 (0, 0)) (bk BK256.out) hb)
                    have n3_ := Aside0.mk (below_step (by repeat (first | (with_reducible first | exact HB.out | apply below_alloc | apply pw_below_drewN | apply below_drew1 | refine below_set ?_ GE254.out | refine below_set ?_ GE255.out | refine below_set ?_ GE256.out) | exact HB.out)) hb)
                    have n4_ := Aside0.mk (hbox)
                    have n5_ := Aside0.mk ((by rw [hg]; exact (below_size (by repeat (first | (with_reducible first | exact HB.out | apply below_alloc | apply pw_below_drewN | apply below_drew1 | refine below_set ?_ GE254.out | refine below_set ?_ GE255.out | refine below_set ?_ GE256.out) | exact HB.out))) : w.heap.size ≤ gb264))
                    have n6_ := Aside0.mk ((by rw [hg]; exact (below_size (by repeat (first | (with_reducible first | exact HB.out | apply below_alloc | apply pw_below_drewN | apply below_drew1 | refine below_set ?_ GE254.out | refine below_set ?_ GE255.out | refine below_set ?_ GE256.out) | exact HB.out))) : w.heap.size ≤ gb264))
                    have n7_ := Aside0.mk ((by rw [hg]; exact Nat.ne_of_lt (blk_lt (g := gb254) (o := .cells #[.int .u64 D0, .int .u64 D1, .int .u64 D2, .int .u64 D3, .int .u64 D4, .int .u64 D5] 24 (0, 0)) (bk BK254.out)) : gb254 ≠ gb264))
                    have n8_ := Aside0.mk ((by rw [hg]; exact Nat.ne_of_gt (blk_lt (g := gb254) (o := .cells #[.int .u64 D0, .int .u64 D1, .int .u64 D2, .int .u64 D3, .int .u64 D4, .int .u64 D5] 24 (0, 0)) (bk BK254.out)) : gb264 ≠ gb254))
                    have n9_ := Aside0.mk ((by rw [hg]; exact Nat.ne_of_lt (blk_lt (g := gb255) (o := .cells #[.int .i64 E0, .int .i64 E1, .int .i64 E2, .int .i64 E3] 35 (0, 0)) (bk BK255.out)) : gb255 ≠ gb264))
                    have n10_ := Aside0.mk ((by rw [hg]; exact Nat.ne_of_gt (blk_lt (g := gb255) (o := .cells #[.int .i64 E0, .int .i64 E1, .int .i64 E2, .int .i64 E3] 35 (0, 0)) (bk BK255.out)) : gb264 ≠ gb255))
                    have n11_ := Aside0.mk ((by rw [hg]; exact Nat.ne_of_lt (blk_lt (g := gb256) (o := .cells #[.int .u64 G0, .int .u64 G1, .int .u64 G2, .int .u64 G3, .int .i64 G4, .int .i64 G5, .int .i64 G6] 42 (0, 0)) (bk BK256.out)) : gb256 ≠ gb264))
                    have n12_ := Aside0.mk ((by rw [hg]; exact Nat.ne_of_gt (blk_lt (g := gb256) (o := .cells #[.int .u64 G0, .int .u64 G1, .int .u64 G2, .int .u64 G3, .int .i64 G4, .int .i64 G5, .int .i64 G6] 42 (0, 0)) (bk BK256.out)) : gb264 ≠ gb256))
                    clear BK254
                    clear BK255
                    clear BK256
                    clear HB
                    have BK254 := n0_
                    have BK255 := n1_
                    have BK256 := n2_
                    have HB := n3_
                    have BK264 := n4_
                    have GW264 := n5_
                    have GE264 := n6_
                    have NB254_264 := n7_
                    have NB264_254 := n8_
                    have NB255_264 := n9_
                    have NB264_255 := n10_
                    have NB256_264 := n11_
                    have NB264_256 := n12_
                    clear n0_ n1_ n2_ n3_ n4_ n5_ n6_ n7_ n8_ n9_ n10_ n11_ n12_
                    clear hb hbox hg
                    refine hK.out _ _ ⟨(blk_cell BK254.out 0).trans rfl, (blk_cell BK254.out 1).trans rfl, (blk_cell BK254.out 2).trans rfl, (blk_cell BK254.out 3).trans rfl, (blk_cell BK254.out 4).trans rfl, (blk_cell BK254.out 5).trans rfl, (blk_cell BK256.out 0).trans rfl, (blk_cell BK256.out 1).trans rfl, (blk_cell BK256.out 2).trans rfl, (blk_cell BK256.out 3).trans rfl, (blk_cell BK256.out 4).trans rfl, (blk_cell BK256.out 5).trans rfl, (blk_cell BK256.out 6).trans rfl⟩ (fun hHeld => ?_)
                    clear hK K
                    refine norm_ (a' := ?_) ?_ ?_
                    rotate_left
                    · show Act.put _ (some 9) _ = _
                      simp only [Act.put, List.setIfInBounds_toArray, List.set_cons_zero, List.set_cons_succ, i64_w, i32_w]
                      rfl
                    exact norm_ (by first | (simp only [putAll, Act.put, List.setIfInBounds_toArray, List.set_cons_zero, List.set_cons_succ]; done) | (simp only [putAll, Act.put, List.setIfInBounds_toArray, List.set_cons_zero, List.set_cons_succ]; rfl)) (hJ8_13_25 (gb264) _ ⟨hHeld, (bk BK254.out), (bk BK255.out), (bk BK256.out), (bk BK264.out), GW264.out, GE264.out, NB254_264.out, NB264_254.out, NB255_264.out, NB264_255.out, NB256_264.out, NB264_256.out, (by repeat (first | (with_reducible first | exact HB.out | apply below_alloc | apply pw_below_drewN | apply below_drew1 | refine below_set ?_ GE254.out | refine below_set ?_ GE255.out | refine below_set ?_ GE256.out | refine below_set ?_ GE264.out) | exact HB.out))⟩)
              · skip
                rintro gb264 w32 ⟨hS_, h0_, h1_, h2_, h3_, h4_, h5_, h6_, h7_, h8_, h9_, h10_, h11_, h12_⟩
                have n0_ : Aside0 (w32.heap[gb254]? = some (.cells #[.int .u64 D0, .int .u64 D1, .int .u64 D2, .int .u64 D3, .int .u64 D4, .int .u64 D5] 24 (0, 0))) := ⟨h0_⟩
                have n1_ : Aside0 (w32.heap[gb255]? = some (.cells #[.int .i64 E0, .int .i64 E1, .int .i64 E2, .int .i64 E3] 35 (0, 0))) := ⟨h1_⟩
                have n2_ : Aside0 (w32.heap[gb256]? = some (.cells #[.int .u64 G0, .int .u64 G1, .int .u64 G2, .int .u64 G3, .int .i64 G4, .int .i64 G5, .int .i64 G6] 42 (0, 0))) := ⟨h2_⟩
                have n3_ : Aside0 (w32.heap[gb264]? = some (.cells #[.int .u64 0, .int .u64 0, .int .u64 0, .int .u64 0, .int .u64 0, .int .u64 0] 24 (0, 0))) := ⟨h3_⟩
                have n4_ : Aside0 (w.heap.size ≤ gb264) := ⟨h4_⟩
                have n5_ : Aside0 (w.heap.size ≤ gb264) := ⟨h5_⟩
                have n6_ : Aside0 (gb254 ≠ gb264) := ⟨h6_⟩
                have n7_ : Aside0 (gb264 ≠ gb254) := ⟨h7_⟩
                have n8_ : Aside0 (gb255 ≠ gb264) := ⟨h8_⟩
                have n9_ : Aside0 (gb264 ≠ gb255) := ⟨h9_⟩
                have n10_ : Aside0 (gb256 ≠ gb264) := ⟨h10_⟩
                have n11_ : Aside0 (gb264 ≠ gb256) := ⟨h11_⟩
                have n12_ : Aside0 (Below w.heap.size w w32) := ⟨h12_⟩
                clear BK254
                clear BK255
                clear BK256
                clear HB
                clear h0_ h1_ h2_ h3_ h4_ h5_ h6_ h7_ h8_ h9_ h10_ h11_ h12_
                have BK254 := n0_
                have BK255 := n1_
                have BK256 := n2_
                have BK264 := n3_
                have GW264 := n4_
                have GE264 := n5_
                have NB254_264 := n6_
                have NB264_254 := n7_
                have NB255_264 := n8_
                have NB264_255 := n9_
                have NB256_264 := n10_
                have NB264_256 := n11_
                have HB := n12_
                clear n0_ n1_ n2_ n3_ n4_ n5_ n6_ n7_ n8_ n9_ n10_ n11_ n12_
                have hHeld : w32.cell? ⟨gb254, 0, none⟩ = some (.int .u64 D0) ∧ w32.cell? ⟨gb254, 1, none⟩ = some (.int .u64 D1) ∧ w32.cell? ⟨gb254, 2, none⟩ = some (.int .u64 D2) ∧ w32.cell? ⟨gb254, 3, none⟩ = some (.int .u64 D3) ∧ w32.cell? ⟨gb254, 4, none⟩ = some (.int .u64 D4) ∧ w32.cell? ⟨gb254, 5, none⟩ = some (.int .u64 D5) ∧ w32.cell? ⟨gb256, 0, none⟩ = some (.int .u64 G0) ∧ w32.cell? ⟨gb256, 1, none⟩ = some (.int .u64 G1) ∧ w32.cell? ⟨gb256, 2, none⟩ = some (.int .u64 G2) ∧ w32.cell? ⟨gb256, 3, none⟩ = some (.int .u64 G3) ∧ w32.cell? ⟨gb256, 4, none⟩ = some (.int .i64 G4) ∧ w32.cell? ⟨gb256, 5, none⟩ = some (.int .i64 G5) ∧ w32.cell? ⟨gb256, 6, none⟩ = some (.int .i64 G6) := hS_
                refine norm_ (a' := ?_) ?_ ?_
                rotate_left
                · simp only [putAll, Act.put, List.setIfInBounds_toArray, List.set_cons_zero, List.set_cons_succ]
                  rfl
                refine one_ (i := 18) (N := some 45) #[true, true, true, true, true, true, true, true, true, true, true, true, true, true, true, true, true, true, true, true, true, true, true, false, false, true, false] rfl rfl (one_of HT_.out (by kernel_rfl)) (by decide) (fun K hK => ?_)
                refine goes_ Try.func19 (by kernel_rfl) rfl #[.int .u64 D4, .int .u64 G2, .int .u64 65536] (by rfl) rfl rfl (by (try simp only [List.map_toArray, List.map_cons, List.map_nil]); first | done | rfl | (simp only [List.length_drop, List.length_take]; rfl)) ?_
                with_reducible refine (cofferdamlaw10_up.calls D4 G2 65536 t262 _ A10.out).mono ?_
                rintro e w33 ⟨rfl, hb⟩
                refine ⟨_, rfl, ?_⟩
                have n0_ := Aside0.mk (blk_below (g := gb254) (o := .cells #[.int .u64 D0, .int .u64 D1, .int .u64 D2, .int .u64 D3, .int .u64 D4, .int .u64 D5] 24 (0, 0)) (bk BK254.out) hb)
                have n1_ := Aside0.mk (blk_below (g := gb255) (o := .cells #[.int .i64 E0, .int .i64 E1, .int .i64 E2, .int .i64 E3] 35 (0, 0)) (bk BK255.out) hb)
                have n2_ := Aside0.mk (blk_below (g := gb256) (o := .cells #[.int .u64 G0, .int .u64 G1, .int .u64 G2, .int .u64 G3, .int .i64 G4, .int .i64 G5, .int .i64 G6] 42 (0, 0)) (bk BK256.out) hb)
                have n3_ := Aside0.mk (blk_below (g := gb264) (o := .cells #[.int .u64 0, .int .u64 0, .int .u64 0, .int .u64 0, .int .u64 0, .int .u64 0] 24 (0, 0)) (bk BK264.out) hb)
                have n4_ := Aside0.mk (below_step (by repeat (first | (with_reducible first | exact HB.out | apply below_alloc | apply pw_below_drewN | apply below_drew1 | refine below_set ?_ GE254.out | refine below_set ?_ GE255.out | refine below_set ?_ GE256.out | refine below_set ?_ GE264.out) | exact HB.out)) hb)
                clear BK254
                clear BK255
                clear BK256
                clear BK264
                clear HB
                have BK254 := n0_
                have BK255 := n1_
                have BK256 := n2_
                have BK264 := n3_
                have HB := n4_
                clear n0_ n1_ n2_ n3_ n4_
                (try clear hb)
                (try clear hb2)
                (try clear hk)
                (try clear hi)
                refine hK.out _ _ ⟨(blk_cell BK254.out 0).trans rfl, (blk_cell BK254.out 1).trans rfl, (blk_cell BK254.out 2).trans rfl, (blk_cell BK254.out 3).trans rfl, (blk_cell BK254.out 4).trans rfl, (blk_cell BK254.out 5).trans rfl, (blk_cell BK256.out 0).trans rfl, (blk_cell BK256.out 1).trans rfl, (blk_cell BK256.out 2).trans rfl, (blk_cell BK256.out 3).trans rfl, (blk_cell BK256.out 4).trans rfl, (blk_cell BK256.out 5).trans rfl, (blk_cell BK256.out 6).trans rfl⟩ (fun hHeld => ?_)
                clear hK K
                refine norm_ (a' := ?_) ?_ ?_
                rotate_left
                · show Act.put _ (some 45) _ = _
                  simp only [Act.put, List.setIfInBounds_toArray, List.set_cons_zero, List.set_cons_succ, i64_w, i32_w]
                  rfl
                exact norm_ (by first | (simp only [putAll, Act.put, List.setIfInBounds_toArray, List.set_cons_zero, List.set_cons_succ]; done) | (simp only [putAll, Act.put, List.setIfInBounds_toArray, List.set_cons_zero, List.set_cons_succ]; rfl)) (hJ8_13_18_25 (gb264) _ ⟨hHeld, (bk BK254.out), (bk BK255.out), (bk BK256.out), (bk BK264.out), GW264.out, GE264.out, NB254_264.out, NB264_254.out, NB255_264.out, NB264_255.out, NB256_264.out, NB264_256.out, (by repeat (first | (with_reducible first | exact HB.out | apply below_alloc | apply pw_below_drewN | apply below_drew1 | refine below_set ?_ GE254.out | refine below_set ?_ GE255.out | refine below_set ?_ GE256.out | refine below_set ?_ GE264.out) | exact HB.out))⟩)
            · skip
              rintro _ w32 ⟨hS_, h0_, h1_, h2_, h3_⟩
              have n0_ : Aside0 (w32.heap[gb254]? = some (.cells #[.int .u64 D0, .int .u64 D1, .int .u64 D2, .int .u64 D3, .int .u64 D4, .int .u64 D5] 24 (0, 0))) := ⟨h0_⟩
              have n1_ : Aside0 (w32.heap[gb255]? = some (.cells #[.int .i64 E0, .int .i64 E1, .int .i64 E2, .int .i64 E3] 35 (0, 0))) := ⟨h1_⟩
              have n2_ : Aside0 (w32.heap[gb256]? = some (.cells #[.int .u64 G0, .int .u64 G1, .int .u64 G2, .int .u64 G3, .int .i64 G4, .int .i64 G5, .int .i64 G6] 42 (0, 0))) := ⟨h2_⟩
              have n3_ : Aside0 (Below w.heap.size w w32) := ⟨h3_⟩
              clear BK254
              clear BK255
              clear BK256
              clear HB
              clear h0_ h1_ h2_ h3_
              have BK254 := n0_
              have BK255 := n1_
              have BK256 := n2_
              have HB := n3_
              clear n0_ n1_ n2_ n3_
              have hHeld : w32.cell? ⟨gb254, 0, none⟩ = some (.int .u64 D0) ∧ w32.cell? ⟨gb254, 1, none⟩ = some (.int .u64 D1) ∧ w32.cell? ⟨gb254, 2, none⟩ = some (.int .u64 D2) ∧ w32.cell? ⟨gb254, 3, none⟩ = some (.int .u64 D3) ∧ w32.cell? ⟨gb254, 4, none⟩ = some (.int .u64 D4) ∧ w32.cell? ⟨gb254, 5, none⟩ = some (.int .u64 D5) ∧ w32.cell? ⟨gb256, 0, none⟩ = some (.int .u64 G0) ∧ w32.cell? ⟨gb256, 1, none⟩ = some (.int .u64 G1) ∧ w32.cell? ⟨gb256, 2, none⟩ = some (.int .u64 G2) ∧ w32.cell? ⟨gb256, 3, none⟩ = some (.int .u64 G3) ∧ w32.cell? ⟨gb256, 4, none⟩ = some (.int .i64 G4) ∧ w32.cell? ⟨gb256, 5, none⟩ = some (.int .i64 G5) ∧ w32.cell? ⟨gb256, 6, none⟩ = some (.int .i64 G6) := hS_
              refine norm_ (a' := ?_) ?_ ?_
              rotate_left
              · simp only [putAll, Act.put, List.setIfInBounds_toArray, List.set_cons_zero, List.set_cons_succ]
                rfl
              refine two_ (i := 23) (j := 25) (Ni := some 50) (Nj := some 9) #[true, true, true, true, true, true, true, true, true, true, true, true, true, true, true, true, true, true, true, true, true, true, true, true, false, false, false] #[true, true, true, true, true, true, true, true, true, true, true, true, true, true, true, true, true, true, true, true, true, true, true, false, false, true, false] rfl rfl rfl rfl (two_of HT_.out (by kernel_rfl)) (by decide) (by decide) (fun K hK => ?_) (fun K hK => ?_)
              · skip
                refine goes_ Try.func19 (by kernel_rfl) rfl #[.int .u64 D5, .int .u64 G3, .int .u64 65536] (by rfl) rfl rfl (by (try simp only [List.map_toArray, List.map_cons, List.map_nil]); first | done | rfl | (simp only [List.length_drop, List.length_take]; rfl)) ?_
                with_reducible refine (cofferdamlaw10_up.calls D5 G3 65536 t263 _ A11.out).mono ?_
                rintro e w33 ⟨rfl, hb⟩
                refine ⟨_, rfl, ?_⟩
                have n0_ := Aside0.mk (blk_below (g := gb254) (o := .cells #[.int .u64 D0, .int .u64 D1, .int .u64 D2, .int .u64 D3, .int .u64 D4, .int .u64 D5] 24 (0, 0)) (bk BK254.out) hb)
                have n1_ := Aside0.mk (blk_below (g := gb255) (o := .cells #[.int .i64 E0, .int .i64 E1, .int .i64 E2, .int .i64 E3] 35 (0, 0)) (bk BK255.out) hb)
                have n2_ := Aside0.mk (blk_below (g := gb256) (o := .cells #[.int .u64 G0, .int .u64 G1, .int .u64 G2, .int .u64 G3, .int .i64 G4, .int .i64 G5, .int .i64 G6] 42 (0, 0)) (bk BK256.out) hb)
                have n3_ := Aside0.mk (below_step (by repeat (first | (with_reducible first | exact HB.out | apply below_alloc | apply pw_below_drewN | apply below_drew1 | refine below_set ?_ GE254.out | refine below_set ?_ GE255.out | refine below_set ?_ GE256.out) | exact HB.out)) hb)
                clear BK254
                clear BK255
                clear BK256
                clear HB
                have BK254 := n0_
                have BK255 := n1_
                have BK256 := n2_
                have HB := n3_
                clear n0_ n1_ n2_ n3_
                (try clear hb)
                (try clear hb2)
                (try clear hk)
                (try clear hi)
                refine hK.out _ _ ⟨(blk_cell BK254.out 0).trans rfl, (blk_cell BK254.out 1).trans rfl, (blk_cell BK254.out 2).trans rfl, (blk_cell BK254.out 3).trans rfl, (blk_cell BK254.out 4).trans rfl, (blk_cell BK254.out 5).trans rfl, (blk_cell BK256.out 0).trans rfl, (blk_cell BK256.out 1).trans rfl, (blk_cell BK256.out 2).trans rfl, (blk_cell BK256.out 3).trans rfl, (blk_cell BK256.out 4).trans rfl, (blk_cell BK256.out 5).trans rfl, (blk_cell BK256.out 6).trans rfl⟩ (fun hHeld => ?_)
                clear hK K
                refine norm_ (a' := ?_) ?_ ?_
                rotate_left
                · show Act.put _ (some 50) _ = _
                  simp only [Act.put, List.setIfInBounds_toArray, List.set_cons_zero, List.set_cons_succ, i64_w, i32_w]
                  rfl
                refine pure_ (i := 24) (N := some 51) (v := ?_) (a' := ?_) #[true, true, true, true, true, true, true, true, true, true, true, true, true, true, true, true, true, true, true, true, true, true, true, true, true, false, false] rfl rfl (any_of HT_.out (by kernel_rfl)) (fun _ _ _ h => h) (Or.inl ⟨by rfl, ?_⟩) ?_ ?_
                rotate_left
                · intro w'
                  go_simp
                  with_reducible rfl
                rotate_left
                · simp only [Act.put, List.setIfInBounds_toArray, List.set_cons_zero, List.set_cons_succ, i64_w, i32_w]
                  rfl
                exact norm_ (by first | (simp only [putAll, Act.put, List.setIfInBounds_toArray, List.set_cons_zero, List.set_cons_succ]; done) | (simp only [putAll, Act.put, List.setIfInBounds_toArray, List.set_cons_zero, List.set_cons_succ]; rfl)) (hJ8_13_18_23 () _ ⟨hHeld, (bk BK254.out), (bk BK255.out), (bk BK256.out), (by repeat (first | (with_reducible first | exact HB.out | apply below_alloc | apply pw_below_drewN | apply below_drew1 | refine below_set ?_ GE254.out | refine below_set ?_ GE255.out | refine below_set ?_ GE256.out) | exact HB.out))⟩)
              · skip
                refine box_step ?hg (N := 9) ?hd (cs := #[.int .u64 0, .int .u64 0, .int .u64 0, .int .u64 0, .int .u64 0, .int .u64 0]) (t := 24) ?hr ?_; (case hd => rfl); (case hg => rfl); (case hr => first | (go_simp; done) | (go_simp; rfl))
                intro gb264 hg w33 hbox hb
                have n0_ := Aside0.mk (blk_below (g := gb254) (o := .cells #[.int .u64 D0, .int .u64 D1, .int .u64 D2, .int .u64 D3, .int .u64 D4, .int .u64 D5] 24 (0, 0)) (bk BK254.out) hb)
                have n1_ := Aside0.mk (blk_below (g := gb255) (o := .cells #[.int .i64 E0, .int .i64 E1, .int .i64 E2, .int .i64 E3] 35 (0, 0)) (bk BK255.out) hb)
                have n2_ := Aside0.mk (blk_below (g := gb256) (o := .cells #[.int .u64 G0, .int .u64 G1, .int .u64 G2, .int .u64 G3, .int .i64 G4, .int .i64 G5, .int .i64 G6] 42 (0, 0)) (bk BK256.out) hb)
                have n3_ := Aside0.mk (below_step (by repeat (first | (with_reducible first | exact HB.out | apply below_alloc | apply pw_below_drewN | apply below_drew1 | refine below_set ?_ GE254.out | refine below_set ?_ GE255.out | refine below_set ?_ GE256.out) | exact HB.out)) hb)
                have n4_ := Aside0.mk (hbox)
                have n5_ := Aside0.mk ((by rw [hg]; exact (below_size (by repeat (first | (with_reducible first | exact HB.out | apply below_alloc | apply pw_below_drewN | apply below_drew1 | refine below_set ?_ GE254.out | refine below_set ?_ GE255.out | refine below_set ?_ GE256.out) | exact HB.out))) : w.heap.size ≤ gb264))
                have n6_ := Aside0.mk ((by rw [hg]; exact (below_size (by repeat (first | (with_reducible first | exact HB.out | apply below_alloc | apply pw_below_drewN | apply below_drew1 | refine below_set ?_ GE254.out | refine below_set ?_ GE255.out | refine below_set ?_ GE256.out) | exact HB.out))) : w.heap.size ≤ gb264))
                have n7_ := Aside0.mk ((by rw [hg]; exact Nat.ne_of_lt (blk_lt (g := gb254) (o := .cells #[.int .u64 D0, .int .u64 D1, .int .u64 D2, .int .u64 D3, .int .u64 D4, .int .u64 D5] 24 (0, 0)) (bk BK254.out)) : gb254 ≠ gb264))
                have n8_ := Aside0.mk ((by rw [hg]; exact Nat.ne_of_gt (blk_lt (g := gb254) (o := .cells #[.int .u64 D0, .int .u64 D1, .int .u64 D2, .int .u64 D3, .int .u64 D4, .int .u64 D5] 24 (0, 0)) (bk BK254.out)) : gb264 ≠ gb254))
                have n9_ := Aside0.mk ((by rw [hg]; exact Nat.ne_of_lt (blk_lt (g := gb255) (o := .cells #[.int .i64 E0, .int .i64 E1, .int .i64 E2, .int .i64 E3] 35 (0, 0)) (bk BK255.out)) : gb255 ≠ gb264))
                have n10_ := Aside0.mk ((by rw [hg]; exact Nat.ne_of_gt (blk_lt (g := gb255) (o := .cells #[.int .i64 E0, .int .i64 E1, .int .i64 E2, .int .i64 E3] 35 (0, 0)) (bk BK255.out)) : gb264 ≠ gb255))
                have n11_ := Aside0.mk ((by rw [hg]; exact Nat.ne_of_lt (blk_lt (g := gb256) (o := .cells #[.int .u64 G0, .int .u64 G1, .int .u64 G2, .int .u64 G3, .int .i64 G4, .int .i64 G5, .int .i64 G6] 42 (0, 0)) (bk BK256.out)) : gb256 ≠ gb264))
                have n12_ := Aside0.mk ((by rw [hg]; exact Nat.ne_of_gt (blk_lt (g := gb256) (o := .cells #[.int .u64 G0, .int .u64 G1, .int .u64 G2, .int .u64 G3, .int .i64 G4, .int .i64 G5, .int .i64 G6] 42 (0, 0)) (bk BK256.out)) : gb264 ≠ gb256))
                clear BK254
                clear BK255
                clear BK256
                clear HB
                have BK254 := n0_
                have BK255 := n1_
                have BK256 := n2_
                have HB := n3_
                have BK264 := n4_
                have GW264 := n5_
                have GE264 := n6_
                have NB254_264 := n7_
                have NB264_254 := n8_
                have NB255_264 := n9_
                have NB264_255 := n10_
                have NB256_264 := n11_
                have NB264_256 := n12_
                clear n0_ n1_ n2_ n3_ n4_ n5_ n6_ n7_ n8_ n9_ n10_ n11_ n12_
                clear hb hbox hg
                refine hK.out _ _ ⟨(blk_cell BK254.out 0).trans rfl, (blk_cell BK254.out 1).trans rfl, (blk_cell BK254.out 2).trans rfl, (blk_cell BK254.out 3).trans rfl, (blk_cell BK254.out 4).trans rfl, (blk_cell BK254.out 5).trans rfl, (blk_cell BK256.out 0).trans rfl, (blk_cell BK256.out 1).trans rfl, (blk_cell BK256.out 2).trans rfl, (blk_cell BK256.out 3).trans rfl, (blk_cell BK256.out 4).trans rfl, (blk_cell BK256.out 5).trans rfl, (blk_cell BK256.out 6).trans rfl⟩ (fun hHeld => ?_)
                clear hK K
                refine norm_ (a' := ?_) ?_ ?_
                rotate_left
                · show Act.put _ (some 9) _ = _
                  simp only [Act.put, List.setIfInBounds_toArray, List.set_cons_zero, List.set_cons_succ, i64_w, i32_w]
                  rfl
                exact norm_ (by first | (simp only [putAll, Act.put, List.setIfInBounds_toArray, List.set_cons_zero, List.set_cons_succ]; done) | (simp only [putAll, Act.put, List.setIfInBounds_toArray, List.set_cons_zero, List.set_cons_succ]; rfl)) (hJ8_13_18_25 (gb264) _ ⟨hHeld, (bk BK254.out), (bk BK255.out), (bk BK256.out), (bk BK264.out), GW264.out, GE264.out, NB254_264.out, NB264_254.out, NB255_264.out, NB264_255.out, NB256_264.out, NB264_256.out, (by repeat (first | (with_reducible first | exact HB.out | apply below_alloc | apply pw_below_drewN | apply below_drew1 | refine below_set ?_ GE254.out | refine below_set ?_ GE255.out | refine below_set ?_ GE256.out | refine below_set ?_ GE264.out) | exact HB.out))⟩)
          · skip
            rintro gb264 w33 ⟨hS_, h0_, h1_, h2_, h3_, h4_, h5_, h6_, h7_, h8_, h9_, h10_, h11_, h12_⟩
            have n0_ : Aside0 (w33.heap[gb254]? = some (.cells #[.int .u64 D0, .int .u64 D1, .int .u64 D2, .int .u64 D3, .int .u64 D4, .int .u64 D5] 24 (0, 0))) := ⟨h0_⟩
            have n1_ : Aside0 (w33.heap[gb255]? = some (.cells #[.int .i64 E0, .int .i64 E1, .int .i64 E2, .int .i64 E3] 35 (0, 0))) := ⟨h1_⟩
            have n2_ : Aside0 (w33.heap[gb256]? = some (.cells #[.int .u64 G0, .int .u64 G1, .int .u64 G2, .int .u64 G3, .int .i64 G4, .int .i64 G5, .int .i64 G6] 42 (0, 0))) := ⟨h2_⟩
            have n3_ : Aside0 (w33.heap[gb264]? = some (.cells #[.int .u64 0, .int .u64 0, .int .u64 0, .int .u64 0, .int .u64 0, .int .u64 0] 24 (0, 0))) := ⟨h3_⟩
            have n4_ : Aside0 (w.heap.size ≤ gb264) := ⟨h4_⟩
            have n5_ : Aside0 (w.heap.size ≤ gb264) := ⟨h5_⟩
            have n6_ : Aside0 (gb254 ≠ gb264) := ⟨h6_⟩
            have n7_ : Aside0 (gb264 ≠ gb254) := ⟨h7_⟩
            have n8_ : Aside0 (gb255 ≠ gb264) := ⟨h8_⟩
            have n9_ : Aside0 (gb264 ≠ gb255) := ⟨h9_⟩
            have n10_ : Aside0 (gb256 ≠ gb264) := ⟨h10_⟩
            have n11_ : Aside0 (gb264 ≠ gb256) := ⟨h11_⟩
            have n12_ : Aside0 (Below w.heap.size w w33) := ⟨h12_⟩
            clear BK254
            clear BK255
            clear BK256
            clear HB
            clear h0_ h1_ h2_ h3_ h4_ h5_ h6_ h7_ h8_ h9_ h10_ h11_ h12_
            have BK254 := n0_
            have BK255 := n1_
            have BK256 := n2_
            have BK264 := n3_
            have GW264 := n4_
            have GE264 := n5_
            have NB254_264 := n6_
            have NB264_254 := n7_
            have NB255_264 := n8_
            have NB264_255 := n9_
            have NB256_264 := n10_
            have NB264_256 := n11_
            have HB := n12_
            clear n0_ n1_ n2_ n3_ n4_ n5_ n6_ n7_ n8_ n9_ n10_ n11_ n12_
            have hHeld : w33.cell? ⟨gb254, 0, none⟩ = some (.int .u64 D0) ∧ w33.cell? ⟨gb254, 1, none⟩ = some (.int .u64 D1) ∧ w33.cell? ⟨gb254, 2, none⟩ = some (.int .u64 D2) ∧ w33.cell? ⟨gb254, 3, none⟩ = some (.int .u64 D3) ∧ w33.cell? ⟨gb254, 4, none⟩ = some (.int .u64 D4) ∧ w33.cell? ⟨gb254, 5, none⟩ = some (.int .u64 D5) ∧ w33.cell? ⟨gb256, 0, none⟩ = some (.int .u64 G0) ∧ w33.cell? ⟨gb256, 1, none⟩ = some (.int .u64 G1) ∧ w33.cell? ⟨gb256, 2, none⟩ = some (.int .u64 G2) ∧ w33.cell? ⟨gb256, 3, none⟩ = some (.int .u64 G3) ∧ w33.cell? ⟨gb256, 4, none⟩ = some (.int .i64 G4) ∧ w33.cell? ⟨gb256, 5, none⟩ = some (.int .i64 G5) ∧ w33.cell? ⟨gb256, 6, none⟩ = some (.int .i64 G6) := hS_
            refine norm_ (a' := ?_) ?_ ?_
            rotate_left
            · simp only [putAll, Act.put, List.setIfInBounds_toArray, List.set_cons_zero, List.set_cons_succ]
              rfl
            refine one_ (i := 23) (N := some 50) #[true, true, true, true, true, true, true, true, true, true, true, true, true, true, true, true, true, true, true, true, true, true, true, true, false, true, false] rfl rfl (one_of HT_.out (by kernel_rfl)) (by decide) (fun K hK => ?_)
            refine goes_ Try.func19 (by kernel_rfl) rfl #[.int .u64 D5, .int .u64 G3, .int .u64 65536] (by rfl) rfl rfl (by (try simp only [List.map_toArray, List.map_cons, List.map_nil]); first | done | rfl | (simp only [List.length_drop, List.length_take]; rfl)) ?_
            with_reducible refine (cofferdamlaw10_up.calls D5 G3 65536 t263 _ A11.out).mono ?_
            rintro e w34 ⟨rfl, hb⟩
            refine ⟨_, rfl, ?_⟩
            have n0_ := Aside0.mk (blk_below (g := gb254) (o := .cells #[.int .u64 D0, .int .u64 D1, .int .u64 D2, .int .u64 D3, .int .u64 D4, .int .u64 D5] 24 (0, 0)) (bk BK254.out) hb)
            have n1_ := Aside0.mk (blk_below (g := gb255) (o := .cells #[.int .i64 E0, .int .i64 E1, .int .i64 E2, .int .i64 E3] 35 (0, 0)) (bk BK255.out) hb)
            have n2_ := Aside0.mk (blk_below (g := gb256) (o := .cells #[.int .u64 G0, .int .u64 G1, .int .u64 G2, .int .u64 G3, .int .i64 G4, .int .i64 G5, .int .i64 G6] 42 (0, 0)) (bk BK256.out) hb)
            have n3_ := Aside0.mk (blk_below (g := gb264) (o := .cells #[.int .u64 0, .int .u64 0, .int .u64 0, .int .u64 0, .int .u64 0, .int .u64 0] 24 (0, 0)) (bk BK264.out) hb)
            have n4_ := Aside0.mk (below_step (by repeat (first | (with_reducible first | exact HB.out | apply below_alloc | apply pw_below_drewN | apply below_drew1 | refine below_set ?_ GE254.out | refine below_set ?_ GE255.out | refine below_set ?_ GE256.out | refine below_set ?_ GE264.out) | exact HB.out)) hb)
            clear BK254
            clear BK255
            clear BK256
            clear BK264
            clear HB
            have BK254 := n0_
            have BK255 := n1_
            have BK256 := n2_
            have BK264 := n3_
            have HB := n4_
            clear n0_ n1_ n2_ n3_ n4_
            (try clear hb)
            (try clear hb2)
            (try clear hk)
            (try clear hi)
            refine hK.out _ _ ⟨(blk_cell BK254.out 0).trans rfl, (blk_cell BK254.out 1).trans rfl, (blk_cell BK254.out 2).trans rfl, (blk_cell BK254.out 3).trans rfl, (blk_cell BK254.out 4).trans rfl, (blk_cell BK254.out 5).trans rfl, (blk_cell BK256.out 0).trans rfl, (blk_cell BK256.out 1).trans rfl, (blk_cell BK256.out 2).trans rfl, (blk_cell BK256.out 3).trans rfl, (blk_cell BK256.out 4).trans rfl, (blk_cell BK256.out 5).trans rfl, (blk_cell BK256.out 6).trans rfl⟩ (fun hHeld => ?_)
            clear hK K
            refine norm_ (a' := ?_) ?_ ?_
            rotate_left
            · show Act.put _ (some 50) _ = _
              simp only [Act.put, List.setIfInBounds_toArray, List.set_cons_zero, List.set_cons_succ, i64_w, i32_w]
              rfl
            refine pure_ (i := 24) (N := some 51) (v := ?_) (a' := ?_) #[true, true, true, true, true, true, true, true, true, true, true, true, true, true, true, true, true, true, true, true, true, true, true, true, true, true, false] rfl rfl (any_of HT_.out (by kernel_rfl)) (fun _ _ _ h => h) (Or.inl ⟨by rfl, ?_⟩) ?_ ?_
            rotate_left
            · intro w'
              go_simp
              with_reducible rfl
            rotate_left
            · simp only [Act.put, List.setIfInBounds_toArray, List.set_cons_zero, List.set_cons_succ, i64_w, i32_w]
              rfl
            exact norm_ (by first | (simp only [putAll, Act.put, List.setIfInBounds_toArray, List.set_cons_zero, List.set_cons_succ]; done) | (simp only [putAll, Act.put, List.setIfInBounds_toArray, List.set_cons_zero, List.set_cons_succ]; rfl)) (hJ8_13_18_23_25 (gb264) _ ⟨hHeld, (bk BK254.out), (bk BK255.out), (bk BK256.out), (bk BK264.out), GW264.out, GE264.out, NB254_264.out, NB264_254.out, NB255_264.out, NB264_255.out, NB256_264.out, NB264_256.out, (by repeat (first | (with_reducible first | exact HB.out | apply below_alloc | apply pw_below_drewN | apply below_drew1 | refine below_set ?_ GE254.out | refine below_set ?_ GE255.out | refine below_set ?_ GE256.out | refine below_set ?_ GE264.out) | exact HB.out))⟩)
        · skip
          rintro _ w33 ⟨hS_, h0_, h1_, h2_, h3_⟩
          have n0_ : Aside0 (w33.heap[gb254]? = some (.cells #[.int .u64 D0, .int .u64 D1, .int .u64 D2, .int .u64 D3, .int .u64 D4, .int .u64 D5] 24 (0, 0))) := ⟨h0_⟩
          have n1_ : Aside0 (w33.heap[gb255]? = some (.cells #[.int .i64 E0, .int .i64 E1, .int .i64 E2, .int .i64 E3] 35 (0, 0))) := ⟨h1_⟩
          have n2_ : Aside0 (w33.heap[gb256]? = some (.cells #[.int .u64 G0, .int .u64 G1, .int .u64 G2, .int .u64 G3, .int .i64 G4, .int .i64 G5, .int .i64 G6] 42 (0, 0))) := ⟨h2_⟩
          have n3_ : Aside0 (Below w.heap.size w w33) := ⟨h3_⟩
          clear BK254
          clear BK255
          clear BK256
          clear HB
          clear h0_ h1_ h2_ h3_
          have BK254 := n0_
          have BK255 := n1_
          have BK256 := n2_
          have HB := n3_
          clear n0_ n1_ n2_ n3_
          have hHeld : w33.cell? ⟨gb254, 0, none⟩ = some (.int .u64 D0) ∧ w33.cell? ⟨gb254, 1, none⟩ = some (.int .u64 D1) ∧ w33.cell? ⟨gb254, 2, none⟩ = some (.int .u64 D2) ∧ w33.cell? ⟨gb254, 3, none⟩ = some (.int .u64 D3) ∧ w33.cell? ⟨gb254, 4, none⟩ = some (.int .u64 D4) ∧ w33.cell? ⟨gb254, 5, none⟩ = some (.int .u64 D5) ∧ w33.cell? ⟨gb256, 0, none⟩ = some (.int .u64 G0) ∧ w33.cell? ⟨gb256, 1, none⟩ = some (.int .u64 G1) ∧ w33.cell? ⟨gb256, 2, none⟩ = some (.int .u64 G2) ∧ w33.cell? ⟨gb256, 3, none⟩ = some (.int .u64 G3) ∧ w33.cell? ⟨gb256, 4, none⟩ = some (.int .i64 G4) ∧ w33.cell? ⟨gb256, 5, none⟩ = some (.int .i64 G5) ∧ w33.cell? ⟨gb256, 6, none⟩ = some (.int .i64 G6) := hS_
          refine norm_ (a' := ?_) ?_ ?_
          rotate_left
          · simp only [putAll, Act.put, List.setIfInBounds_toArray, List.set_cons_zero, List.set_cons_succ]
            rfl
          refine one_ (i := 25) (N := some 9) #[true, true, true, true, true, true, true, true, true, true, true, true, true, true, true, true, true, true, true, true, true, true, true, true, true, true, false] rfl rfl (one_of HT_.out (by kernel_rfl)) (by decide) (fun K hK => ?_)
          refine box_step ?hg (N := 9) ?hd (cs := #[.int .u64 0, .int .u64 0, .int .u64 0, .int .u64 0, .int .u64 0, .int .u64 0]) (t := 24) ?hr ?_; (case hd => rfl); (case hg => rfl); (case hr => first | (go_simp; done) | (go_simp; rfl))
          intro gb264 hg w34 hbox hb
          have n0_ := Aside0.mk (blk_below (g := gb254) (o := .cells #[.int .u64 D0, .int .u64 D1, .int .u64 D2, .int .u64 D3, .int .u64 D4, .int .u64 D5] 24 (0, 0)) (bk BK254.out) hb)
          have n1_ := Aside0.mk (blk_below (g := gb255) (o := .cells #[.int .i64 E0, .int .i64 E1, .int .i64 E2, .int .i64 E3] 35 (0, 0)) (bk BK255.out) hb)
          have n2_ := Aside0.mk (blk_below (g := gb256) (o := .cells #[.int .u64 G0, .int .u64 G1, .int .u64 G2, .int .u64 G3, .int .i64 G4, .int .i64 G5, .int .i64 G6] 42 (0, 0)) (bk BK256.out) hb)
          have n3_ := Aside0.mk (below_step (by repeat (first | (with_reducible first | exact HB.out | apply below_alloc | apply pw_below_drewN | apply below_drew1 | refine below_set ?_ GE254.out | refine below_set ?_ GE255.out | refine below_set ?_ GE256.out) | exact HB.out)) hb)
          have n4_ := Aside0.mk (hbox)
          have n5_ := Aside0.mk ((by rw [hg]; exact (below_size (by repeat (first | (with_reducible first | exact HB.out | apply below_alloc | apply pw_below_drewN | apply below_drew1 | refine below_set ?_ GE254.out | refine below_set ?_ GE255.out | refine below_set ?_ GE256.out) | exact HB.out))) : w.heap.size ≤ gb264))
          have n6_ := Aside0.mk ((by rw [hg]; exact (below_size (by repeat (first | (with_reducible first | exact HB.out | apply below_alloc | apply pw_below_drewN | apply below_drew1 | refine below_set ?_ GE254.out | refine below_set ?_ GE255.out | refine below_set ?_ GE256.out) | exact HB.out))) : w.heap.size ≤ gb264))
          have n7_ := Aside0.mk ((by rw [hg]; exact Nat.ne_of_lt (blk_lt (g := gb254) (o := .cells #[.int .u64 D0, .int .u64 D1, .int .u64 D2, .int .u64 D3, .int .u64 D4, .int .u64 D5] 24 (0, 0)) (bk BK254.out)) : gb254 ≠ gb264))
          have n8_ := Aside0.mk ((by rw [hg]; exact Nat.ne_of_gt (blk_lt (g := gb254) (o := .cells #[.int .u64 D0, .int .u64 D1, .int .u64 D2, .int .u64 D3, .int .u64 D4, .int .u64 D5] 24 (0, 0)) (bk BK254.out)) : gb264 ≠ gb254))
          have n9_ := Aside0.mk ((by rw [hg]; exact Nat.ne_of_lt (blk_lt (g := gb255) (o := .cells #[.int .i64 E0, .int .i64 E1, .int .i64 E2, .int .i64 E3] 35 (0, 0)) (bk BK255.out)) : gb255 ≠ gb264))
          have n10_ := Aside0.mk ((by rw [hg]; exact Nat.ne_of_gt (blk_lt (g := gb255) (o := .cells #[.int .i64 E0, .int .i64 E1, .int .i64 E2, .int .i64 E3] 35 (0, 0)) (bk BK255.out)) : gb264 ≠ gb255))
          have n11_ := Aside0.mk ((by rw [hg]; exact Nat.ne_of_lt (blk_lt (g := gb256) (o := .cells #[.int .u64 G0, .int .u64 G1, .int .u64 G2, .int .u64 G3, .int .i64 G4, .int .i64 G5, .int .i64 G6] 42 (0, 0)) (bk BK256.out)) : gb256 ≠ gb264))
          have n12_ := Aside0.mk ((by rw [hg]; exact Nat.ne_of_gt (blk_lt (g := gb256) (o := .cells #[.int .u64 G0, .int .u64 G1, .int .u64 G2, .int .u64 G3, .int .i64 G4, .int .i64 G5, .int .i64 G6] 42 (0, 0)) (bk BK256.out)) : gb264 ≠ gb256))
          clear BK254
          clear BK255
          clear BK256
          clear HB
          have BK254 := n0_
          have BK255 := n1_
          have BK256 := n2_
          have HB := n3_
          have BK264 := n4_
          have GW264 := n5_
          have GE264 := n6_
          have NB254_264 := n7_
          have NB264_254 := n8_
          have NB255_264 := n9_
          have NB264_255 := n10_
          have NB256_264 := n11_
          have NB264_256 := n12_
          clear n0_ n1_ n2_ n3_ n4_ n5_ n6_ n7_ n8_ n9_ n10_ n11_ n12_
          clear hb hbox hg
          refine hK.out _ _ ⟨(blk_cell BK254.out 0).trans rfl, (blk_cell BK254.out 1).trans rfl, (blk_cell BK254.out 2).trans rfl, (blk_cell BK254.out 3).trans rfl, (blk_cell BK254.out 4).trans rfl, (blk_cell BK254.out 5).trans rfl, (blk_cell BK256.out 0).trans rfl, (blk_cell BK256.out 1).trans rfl, (blk_cell BK256.out 2).trans rfl, (blk_cell BK256.out 3).trans rfl, (blk_cell BK256.out 4).trans rfl, (blk_cell BK256.out 5).trans rfl, (blk_cell BK256.out 6).trans rfl⟩ (fun hHeld => ?_)
          clear hK K
          refine norm_ (a' := ?_) ?_ ?_
          rotate_left
          · show Act.put _ (some 9) _ = _
            simp only [Act.put, List.setIfInBounds_toArray, List.set_cons_zero, List.set_cons_succ, i64_w, i32_w]
            rfl
          exact norm_ (by first | (simp only [putAll, Act.put, List.setIfInBounds_toArray, List.set_cons_zero, List.set_cons_succ]; done) | (simp only [putAll, Act.put, List.setIfInBounds_toArray, List.set_cons_zero, List.set_cons_succ]; rfl)) (hJ8_13_18_23_25 (gb264) _ ⟨hHeld, (bk BK254.out), (bk BK255.out), (bk BK256.out), (bk BK264.out), GW264.out, GE264.out, NB254_264.out, NB264_254.out, NB255_264.out, NB264_255.out, NB256_264.out, NB264_256.out, (by repeat (first | (with_reducible first | exact HB.out | apply below_alloc | apply pw_below_drewN | apply below_drew1 | refine below_set ?_ GE254.out | refine below_set ?_ GE255.out | refine below_set ?_ GE256.out | refine below_set ?_ GE264.out) | exact HB.out))⟩)
      rintro gb264 w34 ⟨hS_, h0_, h1_, h2_, h3_, h4_, h5_, h6_, h7_, h8_, h9_, h10_, h11_, h12_⟩
      have n0_ : Aside0 (w34.heap[gb254]? = some (.cells #[.int .u64 D0, .int .u64 D1, .int .u64 D2, .int .u64 D3, .int .u64 D4, .int .u64 D5] 24 (0, 0))) := ⟨h0_⟩
      have n1_ : Aside0 (w34.heap[gb255]? = some (.cells #[.int .i64 E0, .int .i64 E1, .int .i64 E2, .int .i64 E3] 35 (0, 0))) := ⟨h1_⟩
      have n2_ : Aside0 (w34.heap[gb256]? = some (.cells #[.int .u64 G0, .int .u64 G1, .int .u64 G2, .int .u64 G3, .int .i64 G4, .int .i64 G5, .int .i64 G6] 42 (0, 0))) := ⟨h2_⟩
      have n3_ : Aside0 (w34.heap[gb264]? = some (.cells #[.int .u64 0, .int .u64 0, .int .u64 0, .int .u64 0, .int .u64 0, .int .u64 0] 24 (0, 0))) := ⟨h3_⟩
      have n4_ : Aside0 (w.heap.size ≤ gb264) := ⟨h4_⟩
      have n5_ : Aside0 (w.heap.size ≤ gb264) := ⟨h5_⟩
      have n6_ : Aside0 (gb254 ≠ gb264) := ⟨h6_⟩
      have n7_ : Aside0 (gb264 ≠ gb254) := ⟨h7_⟩
      have n8_ : Aside0 (gb255 ≠ gb264) := ⟨h8_⟩
      have n9_ : Aside0 (gb264 ≠ gb255) := ⟨h9_⟩
      have n10_ : Aside0 (gb256 ≠ gb264) := ⟨h10_⟩
      have n11_ : Aside0 (gb264 ≠ gb256) := ⟨h11_⟩
      have n12_ : Aside0 (Below w.heap.size w w34) := ⟨h12_⟩
      clear BK254
      clear BK255
      clear BK256
      clear HB
      clear h0_ h1_ h2_ h3_ h4_ h5_ h6_ h7_ h8_ h9_ h10_ h11_ h12_
      have BK254 := n0_
      have BK255 := n1_
      have BK256 := n2_
      have BK264 := n3_
      have GW264 := n4_
      have GE264 := n5_
      have NB254_264 := n6_
      have NB264_254 := n7_
      have NB255_264 := n8_
      have NB264_255 := n9_
      have NB256_264 := n10_
      have NB264_256 := n11_
      have HB := n12_
      clear n0_ n1_ n2_ n3_ n4_ n5_ n6_ n7_ n8_ n9_ n10_ n11_ n12_
      have hHeld : w34.cell? ⟨gb254, 0, none⟩ = some (.int .u64 D0) ∧ w34.cell? ⟨gb254, 1, none⟩ = some (.int .u64 D1) ∧ w34.cell? ⟨gb254, 2, none⟩ = some (.int .u64 D2) ∧ w34.cell? ⟨gb254, 3, none⟩ = some (.int .u64 D3) ∧ w34.cell? ⟨gb254, 4, none⟩ = some (.int .u64 D4) ∧ w34.cell? ⟨gb254, 5, none⟩ = some (.int .u64 D5) ∧ w34.cell? ⟨gb256, 0, none⟩ = some (.int .u64 G0) ∧ w34.cell? ⟨gb256, 1, none⟩ = some (.int .u64 G1) ∧ w34.cell? ⟨gb256, 2, none⟩ = some (.int .u64 G2) ∧ w34.cell? ⟨gb256, 3, none⟩ = some (.int .u64 G3) ∧ w34.cell? ⟨gb256, 4, none⟩ = some (.int .i64 G4) ∧ w34.cell? ⟨gb256, 5, none⟩ = some (.int .i64 G5) ∧ w34.cell? ⟨gb256, 6, none⟩ = some (.int .i64 G6) := hS_
      refine norm_ (a' := ?_) ?_ ?_
      rotate_left
      · simp only [putAll, Act.put, List.setIfInBounds_toArray, List.set_cons_zero, List.set_cons_succ]
        rfl
      refine one_ (i := 26) (N := none) #[true, true, true, true, true, true, true, true, true, true, true, true, true, true, true, true, true, true, true, true, true, true, true, true, true, true, true] rfl rfl (one_of HT_.out (by kernel_rfl)) (by decide) (fun K hK => ?_)
      have hs35 : w34.cell? ⟨gb264, 0, none⟩ = some (.int .u64 0) := (blk_cell BK264.out 0).trans rfl
      have hfs35 := blk_frozen BK264.out 0
      have hns35_0 := NB254_264.out
      have hns35_1 := NB255_264.out
      have hns35_2 := NB256_264.out
      have hms35_0 := NB264_254.out
      have hms35_1 := NB264_255.out
      have hms35_2 := NB264_256.out
      have hs36 : w34.cell? ⟨gb264, 1, none⟩ = some (.int .u64 0) := (blk_cell BK264.out 1).trans rfl
      have hfs36 := blk_frozen BK264.out 1
      have hns36_0 := NB254_264.out
      have hns36_1 := NB255_264.out
      have hns36_2 := NB256_264.out
      have hms36_0 := NB264_254.out
      have hms36_1 := NB264_255.out
      have hms36_2 := NB264_256.out
      have hs37 : w34.cell? ⟨gb264, 2, none⟩ = some (.int .u64 0) := (blk_cell BK264.out 2).trans rfl
      have hfs37 := blk_frozen BK264.out 2
      have hns37_0 := NB254_264.out
      have hns37_1 := NB255_264.out
      have hns37_2 := NB256_264.out
      have hms37_0 := NB264_254.out
      have hms37_1 := NB264_255.out
      have hms37_2 := NB264_256.out
      have hs38 : w34.cell? ⟨gb264, 3, none⟩ = some (.int .u64 0) := (blk_cell BK264.out 3).trans rfl
      have hfs38 := blk_frozen BK264.out 3
      have hns38_0 := NB254_264.out
      have hns38_1 := NB255_264.out
      have hns38_2 := NB256_264.out
      have hms38_0 := NB264_254.out
      have hms38_1 := NB264_255.out
      have hms38_2 := NB264_256.out
      have hs39 : w34.cell? ⟨gb264, 4, none⟩ = some (.int .u64 0) := (blk_cell BK264.out 4).trans rfl
      have hfs39 := blk_frozen BK264.out 4
      have hns39_0 := NB254_264.out
      have hns39_1 := NB255_264.out
      have hns39_2 := NB256_264.out
      have hms39_0 := NB264_254.out
      have hms39_1 := NB264_255.out
      have hms39_2 := NB264_256.out
      have hs40 : w34.cell? ⟨gb264, 5, none⟩ = some (.int .u64 0) := (blk_cell BK264.out 5).trans rfl
      have hfs40 := blk_frozen BK264.out 5
      have hns40_0 := NB254_264.out
      have hns40_1 := NB255_264.out
      have hns40_2 := NB256_264.out
      have hms40_0 := NB264_254.out
      have hms40_1 := NB264_255.out
      have hms40_2 := NB264_256.out
      refine skip_ (w1 := ?_) (by rfl) rfl ?_ ?_
      rotate_left
      · go_simp
        rfl
      refine hK.out _ _ ⟨((cell_far (p := ⟨gb264, _, none⟩) NB254_264.out _).trans (((cell_far (p := ⟨gb264, _, none⟩) NB254_264.out _).trans (((cell_far (p := ⟨gb264, _, none⟩) NB254_264.out _).trans (((cell_far (p := ⟨gb264, _, none⟩) NB254_264.out _).trans (((cell_far (p := ⟨gb264, _, none⟩) NB254_264.out _).trans (((cell_far (p := ⟨gb264, _, none⟩) NB254_264.out _).trans (hHeld.1)))))))))))), ((cell_far (p := ⟨gb264, _, none⟩) NB254_264.out _).trans (((cell_far (p := ⟨gb264, _, none⟩) NB254_264.out _).trans (((cell_far (p := ⟨gb264, _, none⟩) NB254_264.out _).trans (((cell_far (p := ⟨gb264, _, none⟩) NB254_264.out _).trans (((cell_far (p := ⟨gb264, _, none⟩) NB254_264.out _).trans (((cell_far (p := ⟨gb264, _, none⟩) NB254_264.out _).trans (hHeld.2.1)))))))))))), ((cell_far (p := ⟨gb264, _, none⟩) NB254_264.out _).trans (((cell_far (p := ⟨gb264, _, none⟩) NB254_264.out _).trans (((cell_far (p := ⟨gb264, _, none⟩) NB254_264.out _).trans (((cell_far (p := ⟨gb264, _, none⟩) NB254_264.out _).trans (((cell_far (p := ⟨gb264, _, none⟩) NB254_264.out _).trans (((cell_far (p := ⟨gb264, _, none⟩) NB254_264.out _).trans (hHeld.2.2.1)))))))))))), ((cell_far (p := ⟨gb264, _, none⟩) NB254_264.out _).trans (((cell_far (p := ⟨gb264, _, none⟩) NB254_264.out _).trans (((cell_far (p := ⟨gb264, _, none⟩) NB254_264.out _).trans (((cell_far (p := ⟨gb264, _, none⟩) NB254_264.out _).trans (((cell_far (p := ⟨gb264, _, none⟩) NB254_264.out _).trans (((cell_far (p := ⟨gb264, _, none⟩) NB254_264.out _).trans (hHeld.2.2.2.1)))))))))))), ((cell_far (p := ⟨gb264, _, none⟩) NB254_264.out _).trans (((cell_far (p := ⟨gb264, _, none⟩) NB254_264.out _).trans (((cell_far (p := ⟨gb264, _, none⟩) NB254_264.out _).trans (((cell_far (p := ⟨gb264, _, none⟩) NB254_264.out _).trans (((cell_far (p := ⟨gb264, _, none⟩) NB254_264.out _).trans (((cell_far (p := ⟨gb264, _, none⟩) NB254_264.out _).trans (hHeld.2.2.2.2.1)))))))))))), ((cell_far (p := ⟨gb264, _, none⟩) NB254_264.out _).trans (((cell_far (p := ⟨gb264, _, none⟩) NB254_264.out _).trans (((cell_far (p := ⟨gb264, _, none⟩) NB254_264.out _).trans (((cell_far (p := ⟨gb264, _, none⟩) NB254_264.out _).trans (((cell_far (p := ⟨gb264, _, none⟩) NB254_264.out _).trans (((cell_far (p := ⟨gb264, _, none⟩) NB254_264.out _).trans (hHeld.2.2.2.2.2.1)))))))))))), ((cell_far (p := ⟨gb264, _, none⟩) NB256_264.out _).trans (((cell_far (p := ⟨gb264, _, none⟩) NB256_264.out _).trans (((cell_far (p := ⟨gb264, _, none⟩) NB256_264.out _).trans (((cell_far (p := ⟨gb264, _, none⟩) NB256_264.out _).trans (((cell_far (p := ⟨gb264, _, none⟩) NB256_264.out _).trans (((cell_far (p := ⟨gb264, _, none⟩) NB256_264.out _).trans (hHeld.2.2.2.2.2.2.1)))))))))))), ((cell_far (p := ⟨gb264, _, none⟩) NB256_264.out _).trans (((cell_far (p := ⟨gb264, _, none⟩) NB256_264.out _).trans (((cell_far (p := ⟨gb264, _, none⟩) NB256_264.out _).trans (((cell_far (p := ⟨gb264, _, none⟩) NB256_264.out _).trans (((cell_far (p := ⟨gb264, _, none⟩) NB256_264.out _).trans (((cell_far (p := ⟨gb264, _, none⟩) NB256_264.out _).trans (hHeld.2.2.2.2.2.2.2.1)))))))))))), ((cell_far (p := ⟨gb264, _, none⟩) NB256_264.out _).trans (((cell_far (p := ⟨gb264, _, none⟩) NB256_264.out _).trans (((cell_far (p := ⟨gb264, _, none⟩) NB256_264.out _).trans (((cell_far (p := ⟨gb264, _, none⟩) NB256_264.out _).trans (((cell_far (p := ⟨gb264, _, none⟩) NB256_264.out _).trans (((cell_far (p := ⟨gb264, _, none⟩) NB256_264.out _).trans (hHeld.2.2.2.2.2.2.2.2.1)))))))))))), ((cell_far (p := ⟨gb264, _, none⟩) NB256_264.out _).trans (((cell_far (p := ⟨gb264, _, none⟩) NB256_264.out _).trans (((cell_far (p := ⟨gb264, _, none⟩) NB256_264.out _).trans (((cell_far (p := ⟨gb264, _, none⟩) NB256_264.out _).trans (((cell_far (p := ⟨gb264, _, none⟩) NB256_264.out _).trans (((cell_far (p := ⟨gb264, _, none⟩) NB256_264.out _).trans (hHeld.2.2.2.2.2.2.2.2.2.1)))))))))))), ((cell_far (p := ⟨gb264, _, none⟩) NB256_264.out _).trans (((cell_far (p := ⟨gb264, _, none⟩) NB256_264.out _).trans (((cell_far (p := ⟨gb264, _, none⟩) NB256_264.out _).trans (((cell_far (p := ⟨gb264, _, none⟩) NB256_264.out _).trans (((cell_far (p := ⟨gb264, _, none⟩) NB256_264.out _).trans (((cell_far (p := ⟨gb264, _, none⟩) NB256_264.out _).trans (hHeld.2.2.2.2.2.2.2.2.2.2.1)))))))))))), ((cell_far (p := ⟨gb264, _, none⟩) NB256_264.out _).trans (((cell_far (p := ⟨gb264, _, none⟩) NB256_264.out _).trans (((cell_far (p := ⟨gb264, _, none⟩) NB256_264.out _).trans (((cell_far (p := ⟨gb264, _, none⟩) NB256_264.out _).trans (((cell_far (p := ⟨gb264, _, none⟩) NB256_264.out _).trans (((cell_far (p := ⟨gb264, _, none⟩) NB256_264.out _).trans (hHeld.2.2.2.2.2.2.2.2.2.2.2.1)))))))))))), ((cell_far (p := ⟨gb264, _, none⟩) NB256_264.out _).trans (((cell_far (p := ⟨gb264, _, none⟩) NB256_264.out _).trans (((cell_far (p := ⟨gb264, _, none⟩) NB256_264.out _).trans (((cell_far (p := ⟨gb264, _, none⟩) NB256_264.out _).trans (((cell_far (p := ⟨gb264, _, none⟩) NB256_264.out _).trans (((cell_far (p := ⟨gb264, _, none⟩) NB256_264.out _).trans (hHeld.2.2.2.2.2.2.2.2.2.2.2.2))))))))))))⟩ (fun hHeld => ?_)
      clear hK K
      refine done_ (done_of HT_.out (by kernel_rfl)) ?_
      have hnb41 := NB255_264.out
      have hnc41 := NB264_255.out
      have hcz42_0 : w34.cell? ⟨gb255, 0, none⟩ = some (.int .i64 E0) := (blk_cell BK255.out 0).trans rfl
      have hcz42_1 : w34.cell? ⟨gb255, 1, none⟩ = some (.int .i64 E1) := (blk_cell BK255.out 1).trans rfl
      have hcz42_2 : w34.cell? ⟨gb255, 2, none⟩ = some (.int .i64 E2) := (blk_cell BK255.out 2).trans rfl
      have hcz42_3 : w34.cell? ⟨gb255, 3, none⟩ = some (.int .i64 E3) := (blk_cell BK255.out 3).trans rfl
      have hfz42_0 := blk_frozen BK255.out 0
      have hfz42_1 := blk_frozen BK255.out 1
      have hfz42_2 := blk_frozen BK255.out 2
      have hfz42_3 := blk_frozen BK255.out 3
      try go_wp2_with (first | ((with_reducible refine gate_dst (N := 10) rfl ?_); refine box_event ?hg (N := 10) ?hd (cs := #[.int .i64 0, .int .i64 0, .int .i64 0, .int .i64 0]) (t := 35) ?hr ?_; (case hd => rfl); (case hg => rfl); (case hr => first | (go_simp; done) | (go_simp; rfl)); intro gb265 hg w43 hbox hb; have n0_ := Aside0.mk (blk_below (g := gb254) (o := .cells #[.int .u64 D0, .int .u64 D1, .int .u64 D2, .int .u64 D3, .int .u64 D4, .int .u64 D5] 24 (0, 0)) (by (with_reducible repeat (first | refine blk_drewN ?_ _ | refine blk_drew ?_ | refine blk_alloc ?_ _)); refine blk_far ?_ NB254_264.out _; (with_reducible repeat (first | refine blk_drewN ?_ _ | refine blk_drew ?_ | refine blk_alloc ?_ _)); refine blk_far ?_ NB254_264.out _; (with_reducible repeat (first | refine blk_drewN ?_ _ | refine blk_drew ?_ | refine blk_alloc ?_ _)); refine blk_far ?_ NB254_264.out _; (with_reducible repeat (first | refine blk_drewN ?_ _ | refine blk_drew ?_ | refine blk_alloc ?_ _)); refine blk_far ?_ NB254_264.out _; (with_reducible repeat (first | refine blk_drewN ?_ _ | refine blk_drew ?_ | refine blk_alloc ?_ _)); refine blk_far ?_ NB254_264.out _; (with_reducible repeat (first | refine blk_drewN ?_ _ | refine blk_drew ?_ | refine blk_alloc ?_ _)); refine blk_far ?_ NB254_264.out _; (with_reducible repeat (first | refine blk_drewN ?_ _ | refine blk_drew ?_ | refine blk_alloc ?_ _)); exact BK254.out) hb); have n1_ := Aside0.mk (blk_below (g := gb255) (o := .cells #[.int .i64 E0, .int .i64 E1, .int .i64 E2, .int .i64 E3] 35 (0, 0)) (by (with_reducible repeat (first | refine blk_drewN ?_ _ | refine blk_drew ?_ | refine blk_alloc ?_ _)); refine blk_far ?_ NB255_264.out _; (with_reducible repeat (first | refine blk_drewN ?_ _ | refine blk_drew ?_ | refine blk_alloc ?_ _)); refine blk_far ?_ NB255_264.out _; (with_reducible repeat (first | refine blk_drewN ?_ _ | refine blk_drew ?_ | refine blk_alloc ?_ _)); refine blk_far ?_ NB255_264.out _; (with_reducible repeat (first | refine blk_drewN ?_ _ | refine blk_drew ?_ | refine blk_alloc ?_ _)); refine blk_far ?_ NB255_264.out _; (with_reducible repeat (first | refine blk_drewN ?_ _ | refine blk_drew ?_ | refine blk_alloc ?_ _)); refine blk_far ?_ NB255_264.out _; (with_reducible repeat (first | refine blk_drewN ?_ _ | refine blk_drew ?_ | refine blk_alloc ?_ _)); refine blk_far ?_ NB255_264.out _; (with_reducible repeat (first | refine blk_drewN ?_ _ | refine blk_drew ?_ | refine blk_alloc ?_ _)); exact BK255.out) hb); have n2_ := Aside0.mk (blk_below (g := gb256) (o := .cells #[.int .u64 G0, .int .u64 G1, .int .u64 G2, .int .u64 G3, .int .i64 G4, .int .i64 G5, .int .i64 G6] 42 (0, 0)) (by (with_reducible repeat (first | refine blk_drewN ?_ _ | refine blk_drew ?_ | refine blk_alloc ?_ _)); refine blk_far ?_ NB256_264.out _; (with_reducible repeat (first | refine blk_drewN ?_ _ | refine blk_drew ?_ | refine blk_alloc ?_ _)); refine blk_far ?_ NB256_264.out _; (with_reducible repeat (first | refine blk_drewN ?_ _ | refine blk_drew ?_ | refine blk_alloc ?_ _)); refine blk_far ?_ NB256_264.out _; (with_reducible repeat (first | refine blk_drewN ?_ _ | refine blk_drew ?_ | refine blk_alloc ?_ _)); refine blk_far ?_ NB256_264.out _; (with_reducible repeat (first | refine blk_drewN ?_ _ | refine blk_drew ?_ | refine blk_alloc ?_ _)); refine blk_far ?_ NB256_264.out _; (with_reducible repeat (first | refine blk_drewN ?_ _ | refine blk_drew ?_ | refine blk_alloc ?_ _)); refine blk_far ?_ NB256_264.out _; (with_reducible repeat (first | refine blk_drewN ?_ _ | refine blk_drew ?_ | refine blk_alloc ?_ _)); exact BK256.out) hb); have n3_ := Aside0.mk (blk_below (g := gb264) (o := .cells #[.int .u64 D0, .int .u64 D1, .int .u64 t260, .int .u64 t261, .int .u64 t262, .int .u64 t263] 24 (0, 0)) (by (with_reducible repeat (first | refine blk_drewN ?_ _ | refine blk_drew ?_ | refine blk_alloc ?_ _)); refine blk_put (cs := #[.int .u64 D0, .int .u64 D1, .int .u64 t260, .int .u64 t261, .int .u64 t262, .int .u64 0]) ?_ 5 _ rfl; (with_reducible repeat (first | refine blk_drewN ?_ _ | refine blk_drew ?_ | refine blk_alloc ?_ _)); refine blk_put (cs := #[.int .u64 D0, .int .u64 D1, .int .u64 t260, .int .u64 t261, .int .u64 0, .int .u64 0]) ?_ 4 _ rfl; (with_reducible repeat (first | refine blk_drewN ?_ _ | refine blk_drew ?_ | refine blk_alloc ?_ _)); refine blk_put (cs := #[.int .u64 D0, .int .u64 D1, .int .u64 t260, .int .u64 0, .int .u64 0, .int .u64 0]) ?_ 3 _ rfl; (with_reducible repeat (first | refine blk_drewN ?_ _ | refine blk_drew ?_ | refine blk_alloc ?_ _)); refine blk_put (cs := #[.int .u64 D0, .int .u64 D1, .int .u64 0, .int .u64 0, .int .u64 0, .int .u64 0]) ?_ 2 _ rfl; (with_reducible repeat (first | refine blk_drewN ?_ _ | refine blk_drew ?_ | refine blk_alloc ?_ _)); refine blk_put (cs := #[.int .u64 D0, .int .u64 0, .int .u64 0, .int .u64 0, .int .u64 0, .int .u64 0]) ?_ 1 _ rfl; (with_reducible repeat (first | refine blk_drewN ?_ _ | refine blk_drew ?_ | refine blk_alloc ?_ _)); refine blk_put (cs := #[.int .u64 0, .int .u64 0, .int .u64 0, .int .u64 0, .int .u64 0, .int .u64 0]) ?_ 0 _ rfl; (with_reducible repeat (first | refine blk_drewN ?_ _ | refine blk_drew ?_ | refine blk_alloc ?_ _)); exact BK264.out) hb); have n4_ := Aside0.mk (below_step (by repeat (first | (with_reducible first | exact HB.out | apply below_alloc | apply pw_below_drewN | apply below_drew1 | refine below_set ?_ GE254.out | refine below_set ?_ GE255.out | refine below_set ?_ GE256.out | refine below_set ?_ GE264.out) | exact HB.out)) hb); have n5_ := Aside0.mk (hbox); have n6_ := Aside0.mk ((by rw [hg]; exact (below_size (by repeat (first | (with_reducible first | exact HB.out | apply below_alloc | apply pw_below_drewN | apply below_drew1 | refine below_set ?_ GE254.out | refine below_set ?_ GE255.out | refine below_set ?_ GE256.out | refine below_set ?_ GE264.out) | exact HB.out))) : w.heap.size ≤ gb265)); have n7_ := Aside0.mk ((by rw [hg]; exact (below_size (by repeat (first | (with_reducible first | exact HB.out | apply below_alloc | apply pw_below_drewN | apply below_drew1 | refine below_set ?_ GE254.out | refine below_set ?_ GE255.out | refine below_set ?_ GE256.out | refine below_set ?_ GE264.out) | exact HB.out))) : w.heap.size ≤ gb265)); have n8_ := Aside0.mk ((by rw [hg]; exact Nat.ne_of_lt (blk_lt (g := gb254) (o := .cells #[.int .u64 D0, .int .u64 D1, .int .u64 D2, .int .u64 D3, .int .u64 D4, .int .u64 D5] 24 (0, 0)) (by (with_reducible repeat (first | refine blk_drewN ?_ _ | refine blk_drew ?_ | refine blk_alloc ?_ _)); refine blk_far ?_ NB254_264.out _; (with_reducible repeat (first | refine blk_drewN ?_ _ | refine blk_drew ?_ | refine blk_alloc ?_ _)); refine blk_far ?_ NB254_264.out _; (with_reducible repeat (first | refine blk_drewN ?_ _ | refine blk_drew ?_ | refine blk_alloc ?_ _)); refine blk_far ?_ NB254_264.out _; (with_reducible repeat (first | refine blk_drewN ?_ _ | refine blk_drew ?_ | refine blk_alloc ?_ _)); refine blk_far ?_ NB254_264.out _; (with_reducible repeat (first | refine blk_drewN ?_ _ | refine blk_drew ?_ | refine blk_alloc ?_ _)); refine blk_far ?_ NB254_264.out _; (with_reducible repeat (first | refine blk_drewN ?_ _ | refine blk_drew ?_ | refine blk_alloc ?_ _)); refine blk_far ?_ NB254_264.out _; (with_reducible repeat (first | refine blk_drewN ?_ _ | refine blk_drew ?_ | refine blk_alloc ?_ _)); exact BK254.out)) : gb254 ≠ gb265)); have n9_ := Aside0.mk ((by rw [hg]; exact Nat.ne_of_gt (blk_lt (g := gb254) (o := .cells #[.int .u64 D0, .int .u64 D1, .int .u64 D2, .int .u64 D3, .int .u64 D4, .int .u64 D5] 24 (0, 0)) (by (with_reducible repeat (first | refine blk_drewN ?_ _ | refine blk_drew ?_ | refine blk_alloc ?_ _)); refine blk_far ?_ NB254_264.out _; (with_reducible repeat (first | refine blk_drewN ?_ _ | refine blk_drew ?_ | refine blk_alloc ?_ _)); refine blk_far ?_ NB254_264.out _; (with_reducible repeat (first | refine blk_drewN ?_ _ | refine blk_drew ?_ | refine blk_alloc ?_ _)); refine blk_far ?_ NB254_264.out _; (with_reducible repeat (first | refine blk_drewN ?_ _ | refine blk_drew ?_ | refine blk_alloc ?_ _)); refine blk_far ?_ NB254_264.out _; (with_reducible repeat (first | refine blk_drewN ?_ _ | refine blk_drew ?_ | refine blk_alloc ?_ _)); refine blk_far ?_ NB254_264.out _; (with_reducible repeat (first | refine blk_drewN ?_ _ | refine blk_drew ?_ | refine blk_alloc ?_ _)); refine blk_far ?_ NB254_264.out _; (with_reducible repeat (first | refine blk_drewN ?_ _ | refine blk_drew ?_ | refine blk_alloc ?_ _)); exact BK254.out)) : gb265 ≠ gb254)); have n10_ := Aside0.mk ((by rw [hg]; exact Nat.ne_of_lt (blk_lt (g := gb255) (o := .cells #[.int .i64 E0, .int .i64 E1, .int .i64 E2, .int .i64 E3] 35 (0, 0)) (by (with_reducible repeat (first | refine blk_drewN ?_ _ | refine blk_drew ?_ | refine blk_alloc ?_ _)); refine blk_far ?_ NB255_264.out _; (with_reducible repeat (first | refine blk_drewN ?_ _ | refine blk_drew ?_ | refine blk_alloc ?_ _)); refine blk_far ?_ NB255_264.out _; (with_reducible repeat (first | refine blk_drewN ?_ _ | refine blk_drew ?_ | refine blk_alloc ?_ _)); refine blk_far ?_ NB255_264.out _; (with_reducible repeat (first | refine blk_drewN ?_ _ | refine blk_drew ?_ | refine blk_alloc ?_ _)); refine blk_far ?_ NB255_264.out _; (with_reducible repeat (first | refine blk_drewN ?_ _ | refine blk_drew ?_ | refine blk_alloc ?_ _)); refine blk_far ?_ NB255_264.out _; (with_reducible repeat (first | refine blk_drewN ?_ _ | refine blk_drew ?_ | refine blk_alloc ?_ _)); refine blk_far ?_ NB255_264.out _; (with_reducible repeat (first | refine blk_drewN ?_ _ | refine blk_drew ?_ | refine blk_alloc ?_ _)); exact BK255.out)) : gb255 ≠ gb265)); have n11_ := Aside0.mk ((by rw [hg]; exact Nat.ne_of_gt (blk_lt (g := gb255) (o := .cells #[.int .i64 E0, .int .i64 E1, .int .i64 E2, .int .i64 E3] 35 (0, 0)) (by (with_reducible repeat (first | refine blk_drewN ?_ _ | refine blk_drew ?_ | refine blk_alloc ?_ _)); refine blk_far ?_ NB255_264.out _; (with_reducible repeat (first | refine blk_drewN ?_ _ | refine blk_drew ?_ | refine blk_alloc ?_ _)); refine blk_far ?_ NB255_264.out _; (with_reducible repeat (first | refine blk_drewN ?_ _ | refine blk_drew ?_ | refine blk_alloc ?_ _)); refine blk_far ?_ NB255_264.out _; (with_reducible repeat (first | refine blk_drewN ?_ _ | refine blk_drew ?_ | refine blk_alloc ?_ _)); refine blk_far ?_ NB255_264.out _; (with_reducible repeat (first | refine blk_drewN ?_ _ | refine blk_drew ?_ | refine blk_alloc ?_ _)); refine blk_far ?_ NB255_264.out _; (with_reducible repeat (first | refine blk_drewN ?_ _ | refine blk_drew ?_ | refine blk_alloc ?_ _)); refine blk_far ?_ NB255_264.out _; (with_reducible repeat (first | refine blk_drewN ?_ _ | refine blk_drew ?_ | refine blk_alloc ?_ _)); exact BK255.out)) : gb265 ≠ gb255)); have n12_ := Aside0.mk ((by rw [hg]; exact Nat.ne_of_lt (blk_lt (g := gb256) (o := .cells #[.int .u64 G0, .int .u64 G1, .int .u64 G2, .int .u64 G3, .int .i64 G4, .int .i64 G5, .int .i64 G6] 42 (0, 0)) (by (with_reducible repeat (first | refine blk_drewN ?_ _ | refine blk_drew ?_ | refine blk_alloc ?_ _)); refine blk_far ?_ NB256_264.out _; (with_reducible repeat (first | refine blk_drewN ?_ _ | refine blk_drew ?_ | refine blk_alloc ?_ _)); refine blk_far ?_ NB256_264.out _; (with_reducible repeat (first | refine blk_drewN ?_ _ | refine blk_drew ?_ | refine blk_alloc ?_ _)); refine blk_far ?_ NB256_264.out _; (with_reducible repeat (first | refine blk_drewN ?_ _ | refine blk_drew ?_ | refine blk_alloc ?_ _)); refine blk_far ?_ NB256_264.out _; (with_reducible repeat (first | refine blk_drewN ?_ _ | refine blk_drew ?_ | refine blk_alloc ?_ _)); refine blk_far ?_ NB256_264.out _; (with_reducible repeat (first | refine blk_drewN ?_ _ | refine blk_drew ?_ | refine blk_alloc ?_ _)); refine blk_far ?_ NB256_264.out _; (with_reducible repeat (first | refine blk_drewN ?_ _ | refine blk_drew ?_ | refine blk_alloc ?_ _)); exact BK256.out)) : gb256 ≠ gb265)); have n13_ := Aside0.mk ((by rw [hg]; exact Nat.ne_of_gt (blk_lt (g := gb256) (o := .cells #[.int .u64 G0, .int .u64 G1, .int .u64 G2, .int .u64 G3, .int .i64 G4, .int .i64 G5, .int .i64 G6] 42 (0, 0)) (by (with_reducible repeat (first | refine blk_drewN ?_ _ | refine blk_drew ?_ | refine blk_alloc ?_ _)); refine blk_far ?_ NB256_264.out _; (with_reducible repeat (first | refine blk_drewN ?_ _ | refine blk_drew ?_ | refine blk_alloc ?_ _)); refine blk_far ?_ NB256_264.out _; (with_reducible repeat (first | refine blk_drewN ?_ _ | refine blk_drew ?_ | refine blk_alloc ?_ _)); refine blk_far ?_ NB256_264.out _; (with_reducible repeat (first | refine blk_drewN ?_ _ | refine blk_drew ?_ | refine blk_alloc ?_ _)); refine blk_far ?_ NB256_264.out _; (with_reducible repeat (first | refine blk_drewN ?_ _ | refine blk_drew ?_ | refine blk_alloc ?_ _)); refine blk_far ?_ NB256_264.out _; (with_reducible repeat (first | refine blk_drewN ?_ _ | refine blk_drew ?_ | refine blk_alloc ?_ _)); refine blk_far ?_ NB256_264.out _; (with_reducible repeat (first | refine blk_drewN ?_ _ | refine blk_drew ?_ | refine blk_alloc ?_ _)); exact BK256.out)) : gb265 ≠ gb256)); have n14_ := Aside0.mk ((by rw [hg]; exact Nat.ne_of_lt (blk_lt (g := gb264) (o := .cells #[.int .u64 D0, .int .u64 D1, .int .u64 t260, .int .u64 t261, .int .u64 t262, .int .u64 t263] 24 (0, 0)) (by (with_reducible repeat (first | refine blk_drewN ?_ _ | refine blk_drew ?_ | refine blk_alloc ?_ _)); refine blk_put (cs := #[.int .u64 D0, .int .u64 D1, .int .u64 t260, .int .u64 t261, .int .u64 t262, .int .u64 0]) ?_ 5 _ rfl; (with_reducible repeat (first | refine blk_drewN ?_ _ | refine blk_drew ?_ | refine blk_alloc ?_ _)); refine blk_put (cs := #[.int .u64 D0, .int .u64 D1, .int .u64 t260, .int .u64 t261, .int .u64 0, .int .u64 0]) ?_ 4 _ rfl; (with_reducible repeat (first | refine blk_drewN ?_ _ | refine blk_drew ?_ | refine blk_alloc ?_ _)); refine blk_put (cs := #[.int .u64 D0, .int .u64 D1, .int .u64 t260, .int .u64 0, .int .u64 0, .int .u64 0]) ?_ 3 _ rfl; (with_reducible repeat (first | refine blk_drewN ?_ _ | refine blk_drew ?_ | refine blk_alloc ?_ _)); refine blk_put (cs := #[.int .u64 D0, .int .u64 D1, .int .u64 0, .int .u64 0, .int .u64 0, .int .u64 0]) ?_ 2 _ rfl; (with_reducible repeat (first | refine blk_drewN ?_ _ | refine blk_drew ?_ | refine blk_alloc ?_ _)); refine blk_put (cs := #[.int .u64 D0, .int .u64 0, .int .u64 0, .int .u64 0, .int .u64 0, .int .u64 0]) ?_ 1 _ rfl; (with_reducible repeat (first | refine blk_drewN ?_ _ | refine blk_drew ?_ | refine blk_alloc ?_ _)); refine blk_put (cs := #[.int .u64 0, .int .u64 0, .int .u64 0, .int .u64 0, .int .u64 0, .int .u64 0]) ?_ 0 _ rfl; (with_reducible repeat (first | refine blk_drewN ?_ _ | refine blk_drew ?_ | refine blk_alloc ?_ _)); exact BK264.out)) : gb264 ≠ gb265)); have n15_ := Aside0.mk ((by rw [hg]; exact Nat.ne_of_gt (blk_lt (g := gb264) (o := .cells #[.int .u64 D0, .int .u64 D1, .int .u64 t260, .int .u64 t261, .int .u64 t262, .int .u64 t263] 24 (0, 0)) (by (with_reducible repeat (first | refine blk_drewN ?_ _ | refine blk_drew ?_ | refine blk_alloc ?_ _)); refine blk_put (cs := #[.int .u64 D0, .int .u64 D1, .int .u64 t260, .int .u64 t261, .int .u64 t262, .int .u64 0]) ?_ 5 _ rfl; (with_reducible repeat (first | refine blk_drewN ?_ _ | refine blk_drew ?_ | refine blk_alloc ?_ _)); refine blk_put (cs := #[.int .u64 D0, .int .u64 D1, .int .u64 t260, .int .u64 t261, .int .u64 0, .int .u64 0]) ?_ 4 _ rfl; (with_reducible repeat (first | refine blk_drewN ?_ _ | refine blk_drew ?_ | refine blk_alloc ?_ _)); refine blk_put (cs := #[.int .u64 D0, .int .u64 D1, .int .u64 t260, .int .u64 0, .int .u64 0, .int .u64 0]) ?_ 3 _ rfl; (with_reducible repeat (first | refine blk_drewN ?_ _ | refine blk_drew ?_ | refine blk_alloc ?_ _)); refine blk_put (cs := #[.int .u64 D0, .int .u64 D1, .int .u64 0, .int .u64 0, .int .u64 0, .int .u64 0]) ?_ 2 _ rfl; (with_reducible repeat (first | refine blk_drewN ?_ _ | refine blk_drew ?_ | refine blk_alloc ?_ _)); refine blk_put (cs := #[.int .u64 D0, .int .u64 0, .int .u64 0, .int .u64 0, .int .u64 0, .int .u64 0]) ?_ 1 _ rfl; (with_reducible repeat (first | refine blk_drewN ?_ _ | refine blk_drew ?_ | refine blk_alloc ?_ _)); refine blk_put (cs := #[.int .u64 0, .int .u64 0, .int .u64 0, .int .u64 0, .int .u64 0, .int .u64 0]) ?_ 0 _ rfl; (with_reducible repeat (first | refine blk_drewN ?_ _ | refine blk_drew ?_ | refine blk_alloc ?_ _)); exact BK264.out)) : gb265 ≠ gb264)); clear BK254; clear BK255; clear BK256; clear BK264; clear HB; have BK254 := n0_; have BK255 := n1_; have BK256 := n2_; have BK264 := n3_; have HB := n4_; have BK265 := n5_; have GW265 := n6_; have GE265 := n7_; have NB254_265 := n8_; have NB265_254 := n9_; have NB255_265 := n10_; have NB265_255 := n11_; have NB256_265 := n12_; have NB265_256 := n13_; have NB264_265 := n14_; have NB265_264 := n15_; clear n0_ n1_ n2_ n3_ n4_ n5_ n6_ n7_ n8_ n9_ n10_ n11_ n12_ n13_ n14_ n15_; clear hb hbox hg; have hnb44 := NB265_254.out; have hnc44 := NB254_265.out; have hnb45 := NB265_255.out; have hnc45 := NB255_265.out; have hnb46 := NB265_256.out; have hnc46 := NB256_265.out; have hnb47 := NB265_264.out; have hnc47 := NB264_265.out; have hcz48_0 : w43.cell? ⟨gb265, 0, none⟩ = some (.int .i64 0) := (blk_cell BK265.out 0).trans rfl; have hcz48_1 : w43.cell? ⟨gb265, 1, none⟩ = some (.int .i64 0) := (blk_cell BK265.out 1).trans rfl; have hcz48_2 : w43.cell? ⟨gb265, 2, none⟩ = some (.int .i64 0) := (blk_cell BK265.out 2).trans rfl; have hcz48_3 : w43.cell? ⟨gb265, 3, none⟩ = some (.int .i64 0) := (blk_cell BK265.out 3).trans rfl; have hfz48_0 := blk_frozen BK265.out 0; have hfz48_1 := blk_frozen BK265.out 1; have hfz48_2 := blk_frozen BK265.out 2; have hfz48_3 := blk_frozen BK265.out 3; have hcz49_0 : w43.cell? ⟨gb255, 0, none⟩ = some (.int .i64 E0) := (blk_cell BK255.out 0).trans rfl; have hcz49_1 : w43.cell? ⟨gb255, 1, none⟩ = some (.int .i64 E1) := (blk_cell BK255.out 1).trans rfl; have hcz49_2 : w43.cell? ⟨gb255, 2, none⟩ = some (.int .i64 E2) := (blk_cell BK255.out 2).trans rfl; have hcz49_3 : w43.cell? ⟨gb255, 3, none⟩ = some (.int .i64 E3) := (blk_cell BK255.out 3).trans rfl; have hfz49_0 := blk_frozen BK255.out 0; have hfz49_1 := blk_frozen BK255.out 1; have hfz49_2 := blk_frozen BK255.out 2; have hfz49_3 := blk_frozen BK255.out 3; have hnb50 := NB256_264.out; have hnc50 := NB264_256.out; have hcz51_0 : w43.cell? ⟨gb256, 0, none⟩ = some (.int .u64 G0) := (blk_cell BK256.out 0).trans rfl; have hcz51_1 : w43.cell? ⟨gb256, 1, none⟩ = some (.int .u64 G1) := (blk_cell BK256.out 1).trans rfl; have hcz51_2 : w43.cell? ⟨gb256, 2, none⟩ = some (.int .u64 G2) := (blk_cell BK256.out 2).trans rfl; have hcz51_3 : w43.cell? ⟨gb256, 3, none⟩ = some (.int .u64 G3) := (blk_cell BK256.out 3).trans rfl; have hcz51_4 : w43.cell? ⟨gb256, 4, none⟩ = some (.int .i64 G4) := (blk_cell BK256.out 4).trans rfl; have hcz51_5 : w43.cell? ⟨gb256, 5, none⟩ = some (.int .i64 G5) := (blk_cell BK256.out 5).trans rfl; have hcz51_6 : w43.cell? ⟨gb256, 6, none⟩ = some (.int .i64 G6) := (blk_cell BK256.out 6).trans rfl; have hfz51_0 := blk_frozen BK256.out 0; have hfz51_1 := blk_frozen BK256.out 1; have hfz51_2 := blk_frozen BK256.out 2; have hfz51_3 := blk_frozen BK256.out 3; have hfz51_4 := blk_frozen BK256.out 4; have hfz51_5 := blk_frozen BK256.out 5; have hfz51_6 := blk_frozen BK256.out 6) | ((with_reducible refine gate_callee (f := 19) rfl ?_); refine goesL_ (some 62) rfl rfl Try.func19 (by kernel_rfl) rfl #[.int .u64 (IntKind.u64.wrap (E1)), .int .u64 (IntKind.u64.wrap (ji12)), .int .u64 4096] rfl (by (try simp only [List.map_toArray, List.map_cons, List.map_nil]); first | done | (simp only [hji12]; rfl) | rfl | (simp only [List.length_drop, List.length_take]; rfl)) ?_; (with_reducible refine (cofferdamlaw10_up.calls (IntKind.u64.wrap (E1)) (IntKind.u64.wrap (ji12)) 4096 t266 _ A13.out).mono ?_); rintro e w52 ⟨rfl, hb⟩; refine ⟨_, rfl, ?_⟩; have n0_ := Aside0.mk (blk_below (g := gb254) (o := .cells #[.int .u64 D0, .int .u64 D1, .int .u64 D2, .int .u64 D3, .int .u64 D4, .int .u64 D5] 24 (0, 0)) (by (with_reducible repeat (first | refine blk_drewN ?_ _ | refine blk_drew ?_ | refine blk_alloc ?_ _)); refine blk_far ?_ NB254_265.out _; (with_reducible repeat (first | refine blk_drewN ?_ _ | refine blk_drew ?_ | refine blk_alloc ?_ _)); refine blk_far ?_ NB254_265.out _; (with_reducible repeat (first | refine blk_drewN ?_ _ | refine blk_drew ?_ | refine blk_alloc ?_ _)); refine blk_far ?_ NB254_265.out _; (with_reducible repeat (first | refine blk_drewN ?_ _ | refine blk_drew ?_ | refine blk_alloc ?_ _)); refine blk_far ?_ NB254_265.out _; (with_reducible repeat (first | refine blk_drewN ?_ _ | refine blk_drew ?_ | refine blk_alloc ?_ _)); exact BK254.out) hb); have n1_ := Aside0.mk (blk_below (g := gb255) (o := .cells #[.int .i64 E0, .int .i64 E1, .int .i64 E2, .int .i64 E3] 35 (0, 0)) (by (with_reducible repeat (first | refine blk_drewN ?_ _ | refine blk_drew ?_ | refine blk_alloc ?_ _)); refine blk_far ?_ NB255_265.out _; (with_reducible repeat (first | refine blk_drewN ?_ _ | refine blk_drew ?_ | refine blk_alloc ?_ _)); refine blk_far ?_ NB255_265.out _; (with_reducible repeat (first | refine blk_drewN ?_ _ | refine blk_drew ?_ | refine blk_alloc ?_ _)); refine blk_far ?_ NB255_265.out _; (with_reducible repeat (first | refine blk_drewN ?_ _ | refine blk_drew ?_ | refine blk_alloc ?_ _)); refine blk_far ?_ NB255_265.out _; (with_reducible repeat (first | refine blk_drewN ?_ _ | refine blk_drew ?_ | refine blk_alloc ?_ _)); exact BK255.out) hb); have n2_ := Aside0.mk (blk_below (g := gb256) (o := .cells #[.int .u64 G0, .int .u64 G1, .int .u64 G2, .int .u64 G3, .int .i64 G4, .int .i64 G5, .int .i64 G6] 42 (0, 0)) (by (with_reducible repeat (first | refine blk_drewN ?_ _ | refine blk_drew ?_ | refine blk_alloc ?_ _)); refine blk_far ?_ NB256_265.out _; (with_reducible repeat (first | refine blk_drewN ?_ _ | refine blk_drew ?_ | refine blk_alloc ?_ _)); refine blk_far ?_ NB256_265.out _; (with_reducible repeat (first | refine blk_drewN ?_ _ | refine blk_drew ?_ | refine blk_alloc ?_ _)); refine blk_far ?_ NB256_265.out _; (with_reducible repeat (first | refine blk_drewN ?_ _ | refine blk_drew ?_ | refine blk_alloc ?_ _)); refine blk_far ?_ NB256_265.out _; (with_reducible repeat (first | refine blk_drewN ?_ _ | refine blk_drew ?_ | refine blk_alloc ?_ _)); exact BK256.out) hb); have n3_ := Aside0.mk (blk_below (g := gb264) (o := .cells #[.int .u64 D0, .int .u64 D1, .int .u64 t260, .int .u64 t261, .int .u64 t262, .int .u64 t263] 24 (0, 0)) (by (with_reducible repeat (first | refine blk_drewN ?_ _ | refine blk_drew ?_ | refine blk_alloc ?_ _)); refine blk_far ?_ NB264_265.out _; (with_reducible repeat (first | refine blk_drewN ?_ _ | refine blk_drew ?_ | refine blk_alloc ?_ _)); refine blk_far ?_ NB264_265.out _; (with_reducible repeat (first | refine blk_drewN ?_ _ | refine blk_drew ?_ | refine blk_alloc ?_ _)); refine blk_far ?_ NB264_265.out _; (with_reducible repeat (first | refine blk_drewN ?_ _ | refine blk_drew ?_ | refine blk_alloc ?_ _)); refine blk_far ?_ NB264_265.out _; (with_reducible repeat (first | refine blk_drewN ?_ _ | refine blk_drew ?_ | refine blk_alloc ?_ _)); exact BK264.out) hb); have n4_ := Aside0.mk (blk_below (g := gb265) (o := .cells #[.int .i64 E0, .int .i64 0, .int .i64 0, .int .i64 0] 35 (0, 0)) (by (with_reducible repeat (first | refine blk_drewN ?_ _ | refine blk_drew ?_ | refine blk_alloc ?_ _)); refine blk_put (cs := #[.int .i64 E0, .int .i64 0, .int .i64 0, .int .i64 0]) ?_ 3 _ rfl; (with_reducible repeat (first | refine blk_drewN ?_ _ | refine blk_drew ?_ | refine blk_alloc ?_ _)); refine blk_put (cs := #[.int .i64 E0, .int .i64 0, .int .i64 0, .int .i64 0]) ?_ 2 _ rfl; (with_reducible repeat (first | refine blk_drewN ?_ _ | refine blk_drew ?_ | refine blk_alloc ?_ _)); refine blk_put (cs := #[.int .i64 E0, .int .i64 0, .int .i64 0, .int .i64 0]) ?_ 1 _ rfl; (with_reducible repeat (first | refine blk_drewN ?_ _ | refine blk_drew ?_ | refine blk_alloc ?_ _)); refine blk_put (cs := #[.int .i64 0, .int .i64 0, .int .i64 0, .int .i64 0]) ?_ 0 _ rfl; (with_reducible repeat (first | refine blk_drewN ?_ _ | refine blk_drew ?_ | refine blk_alloc ?_ _)); exact BK265.out) hb); have n5_ := Aside0.mk (below_step (by repeat (first | (with_reducible first | exact HB.out | apply below_alloc | apply pw_below_drewN | apply below_drew1 | refine below_set ?_ GE254.out | refine below_set ?_ GE255.out | refine below_set ?_ GE256.out | refine below_set ?_ GE264.out | refine below_set ?_ GE265.out) | exact HB.out)) hb); clear BK254; clear BK255; clear BK256; clear BK264; clear BK265; clear HB; have BK254 := n0_; have BK255 := n1_; have BK256 := n2_; have BK264 := n3_; have BK265 := n4_; have HB := n5_; clear n0_ n1_ n2_ n3_ n4_ n5_; (try clear hb); (try clear hb2); (try clear hk); (try clear hi); have hcz53_0 : w52.cell? ⟨gb265, 0, none⟩ = some (.int .i64 E0) := (blk_cell BK265.out 0).trans rfl; have hcz53_1 : w52.cell? ⟨gb265, 1, none⟩ = some (.int .i64 0) := (blk_cell BK265.out 1).trans rfl; have hcz53_2 : w52.cell? ⟨gb265, 2, none⟩ = some (.int .i64 0) := (blk_cell BK265.out 2).trans rfl; have hcz53_3 : w52.cell? ⟨gb265, 3, none⟩ = some (.int .i64 0) := (blk_cell BK265.out 3).trans rfl; have hfz53_0 := blk_frozen BK265.out 0; have hfz53_1 := blk_frozen BK265.out 1; have hfz53_2 := blk_frozen BK265.out 2; have hfz53_3 := blk_frozen BK265.out 3; have hcz54_0 : w52.cell? ⟨gb255, 0, none⟩ = some (.int .i64 E0) := (blk_cell BK255.out 0).trans rfl; have hcz54_1 : w52.cell? ⟨gb255, 1, none⟩ = some (.int .i64 E1) := (blk_cell BK255.out 1).trans rfl; have hcz54_2 : w52.cell? ⟨gb255, 2, none⟩ = some (.int .i64 E2) := (blk_cell BK255.out 2).trans rfl; have hcz54_3 : w52.cell? ⟨gb255, 3, none⟩ = some (.int .i64 E3) := (blk_cell BK255.out 3).trans rfl; have hfz54_0 := blk_frozen BK255.out 0; have hfz54_1 := blk_frozen BK255.out 1; have hfz54_2 := blk_frozen BK255.out 2; have hfz54_3 := blk_frozen BK255.out 3; have hcz55_0 : w52.cell? ⟨gb256, 0, none⟩ = some (.int .u64 G0) := (blk_cell BK256.out 0).trans rfl; have hcz55_1 : w52.cell? ⟨gb256, 1, none⟩ = some (.int .u64 G1) := (blk_cell BK256.out 1).trans rfl; have hcz55_2 : w52.cell? ⟨gb256, 2, none⟩ = some (.int .u64 G2) := (blk_cell BK256.out 2).trans rfl; have hcz55_3 : w52.cell? ⟨gb256, 3, none⟩ = some (.int .u64 G3) := (blk_cell BK256.out 3).trans rfl; have hcz55_4 : w52.cell? ⟨gb256, 4, none⟩ = some (.int .i64 G4) := (blk_cell BK256.out 4).trans rfl; have hcz55_5 : w52.cell? ⟨gb256, 5, none⟩ = some (.int .i64 G5) := (blk_cell BK256.out 5).trans rfl; have hcz55_6 : w52.cell? ⟨gb256, 6, none⟩ = some (.int .i64 G6) := (blk_cell BK256.out 6).trans rfl; have hfz55_0 := blk_frozen BK256.out 0; have hfz55_1 := blk_frozen BK256.out 1; have hfz55_2 := blk_frozen BK256.out 2; have hfz55_3 := blk_frozen BK256.out 3; have hfz55_4 := blk_frozen BK256.out 4; have hfz55_5 := blk_frozen BK256.out 5; have hfz55_6 := blk_frozen BK256.out 6) | ((with_reducible refine gate_callee (f := 19) rfl ?_); refine goesL_ (some 72) rfl rfl Try.func19 (by kernel_rfl) rfl #[.int .u64 (IntKind.u64.wrap (E2)), .int .u64 (IntKind.u64.wrap (ji14)), .int .u64 5120] rfl (by (try simp only [List.map_toArray, List.map_cons, List.map_nil]); first | done | (simp only [hji14]; rfl) | rfl | (simp only [List.length_drop, List.length_take]; rfl)) ?_; (with_reducible refine (cofferdamlaw10_up.calls (IntKind.u64.wrap (E2)) (IntKind.u64.wrap (ji14)) 5120 t267 _ A15.out).mono ?_); rintro e w56 ⟨rfl, hb⟩; refine ⟨_, rfl, ?_⟩; have n0_ := Aside0.mk (blk_below (g := gb254) (o := .cells #[.int .u64 D0, .int .u64 D1, .int .u64 D2, .int .u64 D3, .int .u64 D4, .int .u64 D5] 24 (0, 0)) (by (with_reducible repeat (first | refine blk_drewN ?_ _ | refine blk_drew ?_ | refine blk_alloc ?_ _)); refine blk_far ?_ NB254_265.out _; (with_reducible repeat (first | refine blk_drewN ?_ _ | refine blk_drew ?_ | refine blk_alloc ?_ _)); exact BK254.out) hb); have n1_ := Aside0.mk (blk_below (g := gb255) (o := .cells #[.int .i64 E0, .int .i64 E1, .int .i64 E2, .int .i64 E3] 35 (0, 0)) (by (with_reducible repeat (first | refine blk_drewN ?_ _ | refine blk_drew ?_ | refine blk_alloc ?_ _)); refine blk_far ?_ NB255_265.out _; (with_reducible repeat (first | refine blk_drewN ?_ _ | refine blk_drew ?_ | refine blk_alloc ?_ _)); exact BK255.out) hb); have n2_ := Aside0.mk (blk_below (g := gb256) (o := .cells #[.int .u64 G0, .int .u64 G1, .int .u64 G2, .int .u64 G3, .int .i64 G4, .int .i64 G5, .int .i64 G6] 42 (0, 0)) (by (with_reducible repeat (first | refine blk_drewN ?_ _ | refine blk_drew ?_ | refine blk_alloc ?_ _)); refine blk_far ?_ NB256_265.out _; (with_reducible repeat (first | refine blk_drewN ?_ _ | refine blk_drew ?_ | refine blk_alloc ?_ _)); exact BK256.out) hb); have n3_ := Aside0.mk (blk_below (g := gb264) (o := .cells #[.int .u64 D0, .int .u64 D1, .int .u64 t260, .int .u64 t261, .int .u64 t262, .int .u64 t263] 24 (0, 0)) (by (with_reducible repeat (first | refine blk_drewN ?_ _ | refine blk_drew ?_ | refine blk_alloc ?_ _)); refine blk_far ?_ NB264_265.out _; (with_reducible repeat (first | refine blk_drewN ?_ _ | refine blk_drew ?_ | refine blk_alloc ?_ _)); exact BK264.out) hb); have n4_ := Aside0.mk (blk_below (g := gb265) (o := .cells #[.int .i64 E0, .int .i64 (wrap64 (t266)), .int .i64 0, .int .i64 0] 35 (0, 0)) (by (with_reducible repeat (first | refine blk_drewN ?_ _ | refine blk_drew ?_ | refine blk_alloc ?_ _)); refine blk_put (cs := #[.int .i64 E0, .int .i64 0, .int .i64 0, .int .i64 0]) ?_ 1 _ rfl; (with_reducible repeat (first | refine blk_drewN ?_ _ | refine blk_drew ?_ | refine blk_alloc ?_ _)); exact BK265.out) hb); have n5_ := Aside0.mk (below_step (by repeat (first | (with_reducible first | exact HB.out | apply below_alloc | apply pw_below_drewN | apply below_drew1 | refine below_set ?_ GE254.out | refine below_set ?_ GE255.out | refine below_set ?_ GE256.out | refine below_set ?_ GE264.out | refine below_set ?_ GE265.out) | exact HB.out)) hb); clear BK254; clear BK255; clear BK256; clear BK264; clear BK265; clear HB; have BK254 := n0_; have BK255 := n1_; have BK256 := n2_; have BK264 := n3_; have BK265 := n4_; have HB := n5_; clear n0_ n1_ n2_ n3_ n4_ n5_; (try clear hb); (try clear hb2); (try clear hk); (try clear hi); have hcz57_0 : w56.cell? ⟨gb265, 0, none⟩ = some (.int .i64 E0) := (blk_cell BK265.out 0).trans rfl; have hcz57_1 : w56.cell? ⟨gb265, 1, none⟩ = some (.int .i64 (wrap64 (t266))) := (blk_cell BK265.out 1).trans rfl; have hcz57_2 : w56.cell? ⟨gb265, 2, none⟩ = some (.int .i64 0) := (blk_cell BK265.out 2).trans rfl; have hcz57_3 : w56.cell? ⟨gb265, 3, none⟩ = some (.int .i64 0) := (blk_cell BK265.out 3).trans rfl; have hfz57_0 := blk_frozen BK265.out 0; have hfz57_1 := blk_frozen BK265.out 1; have hfz57_2 := blk_frozen BK265.out 2; have hfz57_3 := blk_frozen BK265.out 3; have hcz58_0 : w56.cell? ⟨gb255, 0, none⟩ = some (.int .i64 E0) := (blk_cell BK255.out 0).trans rfl; have hcz58_1 : w56.cell? ⟨gb255, 1, none⟩ = some (.int .i64 E1) := (blk_cell BK255.out 1).trans rfl; have hcz58_2 : w56.cell? ⟨gb255, 2, none⟩ = some (.int .i64 E2) := (blk_cell BK255.out 2).trans rfl; have hcz58_3 : w56.cell? ⟨gb255, 3, none⟩ = some (.int .i64 E3) := (blk_cell BK255.out 3).trans rfl; have hfz58_0 := blk_frozen BK255.out 0; have hfz58_1 := blk_frozen BK255.out 1; have hfz58_2 := blk_frozen BK255.out 2; have hfz58_3 := blk_frozen BK255.out 3; have hcz59_0 : w56.cell? ⟨gb256, 0, none⟩ = some (.int .u64 G0) := (blk_cell BK256.out 0).trans rfl; have hcz59_1 : w56.cell? ⟨gb256, 1, none⟩ = some (.int .u64 G1) := (blk_cell BK256.out 1).trans rfl; have hcz59_2 : w56.cell? ⟨gb256, 2, none⟩ = some (.int .u64 G2) := (blk_cell BK256.out 2).trans rfl; have hcz59_3 : w56.cell? ⟨gb256, 3, none⟩ = some (.int .u64 G3) := (blk_cell BK256.out 3).trans rfl; have hcz59_4 : w56.cell? ⟨gb256, 4, none⟩ = some (.int .i64 G4) := (blk_cell BK256.out 4).trans rfl; have hcz59_5 : w56.cell? ⟨gb256, 5, none⟩ = some (.int .i64 G5) := (blk_cell BK256.out 5).trans rfl; have hcz59_6 : w56.cell? ⟨gb256, 6, none⟩ = some (.int .i64 G6) := (blk_cell BK256.out 6).trans rfl; have hfz59_0 := blk_frozen BK256.out 0; have hfz59_1 := blk_frozen BK256.out 1; have hfz59_2 := blk_frozen BK256.out 2; have hfz59_3 := blk_frozen BK256.out 3; have hfz59_4 := blk_frozen BK256.out 4; have hfz59_5 := blk_frozen BK256.out 5; have hfz59_6 := blk_frozen BK256.out 6) | ((with_reducible refine gate_callee (f := 19) rfl ?_); refine goesL_ (some 82) rfl rfl Try.func19 (by kernel_rfl) rfl #[.int .u64 (IntKind.u64.wrap (E3)), .int .u64 (IntKind.u64.wrap (ji16)), .int .u64 4096] rfl (by (try simp only [List.map_toArray, List.map_cons, List.map_nil]); first | done | (simp only [hji16]; rfl) | rfl | (simp only [List.length_drop, List.length_take]; rfl)) ?_; (with_reducible refine (cofferdamlaw10_up.calls (IntKind.u64.wrap (E3)) (IntKind.u64.wrap (ji16)) 4096 t268 _ A17.out).mono ?_); rintro e w60 ⟨rfl, hb⟩; refine ⟨_, rfl, ?_⟩; have n0_ := Aside0.mk (blk_below (g := gb254) (o := .cells #[.int .u64 D0, .int .u64 D1, .int .u64 D2, .int .u64 D3, .int .u64 D4, .int .u64 D5] 24 (0, 0)) (by (with_reducible repeat (first | refine blk_drewN ?_ _ | refine blk_drew ?_ | refine blk_alloc ?_ _)); refine blk_far ?_ NB254_265.out _; (with_reducible repeat (first | refine blk_drewN ?_ _ | refine blk_drew ?_ | refine blk_alloc ?_ _)); exact BK254.out) hb); have n1_ := Aside0.mk (blk_below (g := gb255) (o := .cells #[.int .i64 E0, .int .i64 E1, .int .i64 E2, .int .i64 E3] 35 (0, 0)) (by (with_reducible repeat (first | refine blk_drewN ?_ _ | refine blk_drew ?_ | refine blk_alloc ?_ _)); refine blk_far ?_ NB255_265.out _; (with_reducible repeat (first | refine blk_drewN ?_ _ | refine blk_drew ?_ | refine blk_alloc ?_ _)); exact BK255.out) hb); have n2_ := Aside0.mk (blk_below (g := gb256) (o := .cells #[.int .u64 G0, .int .u64 G1, .int .u64 G2, .int .u64 G3, .int .i64 G4, .int .i64 G5, .int .i64 G6] 42 (0, 0)) (by (with_reducible repeat (first | refine blk_drewN ?_ _ | refine blk_drew ?_ | refine blk_alloc ?_ _)); refine blk_far ?_ NB256_265.out _; (with_reducible repeat (first | refine blk_drewN ?_ _ | refine blk_drew ?_ | refine blk_alloc ?_ _)); exact BK256.out) hb); have n3_ := Aside0.mk (blk_below (g := gb264) (o := .cells #[.int .u64 D0, .int .u64 D1, .int .u64 t260, .int .u64 t261, .int .u64 t262, .int .u64 t263] 24 (0, 0)) (by (with_reducible repeat (first | refine blk_drewN ?_ _ | refine blk_drew ?_ | refine blk_alloc ?_ _)); refine blk_far ?_ NB264_265.out _; (with_reducible repeat (first | refine blk_drewN ?_ _ | refine blk_drew ?_ | refine blk_alloc ?_ _)); exact BK264.out) hb); have n4_ := Aside0.mk (blk_below (g := gb265) (o := .cells #[.int .i64 E0, .int .i64 (wrap64 (t266)), .int .i64 (wrap64 (t267)), .int .i64 0] 35 (0, 0)) (by (with_reducible repeat (first | refine blk_drewN ?_ _ | refine blk_drew ?_ | refine blk_alloc ?_ _)); refine blk_put (cs := #[.int .i64 E0, .int .i64 (wrap64 (t266)), .int .i64 0, .int .i64 0]) ?_ 2 _ rfl; (with_reducible repeat (first | refine blk_drewN ?_ _ | refine blk_drew ?_ | refine blk_alloc ?_ _)); exact BK265.out) hb); have n5_ := Aside0.mk (below_step (by repeat (first | (with_reducible first | exact HB.out | apply below_alloc | apply pw_below_drewN | apply below_drew1 | refine below_set ?_ GE254.out | refine below_set ?_ GE255.out | refine below_set ?_ GE256.out | refine below_set ?_ GE264.out | refine below_set ?_ GE265.out) | exact HB.out)) hb); clear BK254; clear BK255; clear BK256; clear BK264; clear BK265; clear HB; have BK254 := n0_; have BK255 := n1_; have BK256 := n2_; have BK264 := n3_; have BK265 := n4_; have HB := n5_; clear n0_ n1_ n2_ n3_ n4_ n5_; (try clear hb); (try clear hb2); (try clear hk); (try clear hi); have hcz61_0 : w60.cell? ⟨gb265, 0, none⟩ = some (.int .i64 E0) := (blk_cell BK265.out 0).trans rfl; have hcz61_1 : w60.cell? ⟨gb265, 1, none⟩ = some (.int .i64 (wrap64 (t266))) := (blk_cell BK265.out 1).trans rfl; have hcz61_2 : w60.cell? ⟨gb265, 2, none⟩ = some (.int .i64 (wrap64 (t267))) := (blk_cell BK265.out 2).trans rfl; have hcz61_3 : w60.cell? ⟨gb265, 3, none⟩ = some (.int .i64 0) := (blk_cell BK265.out 3).trans rfl; have hfz61_0 := blk_frozen BK265.out 0; have hfz61_1 := blk_frozen BK265.out 1; have hfz61_2 := blk_frozen BK265.out 2; have hfz61_3 := blk_frozen BK265.out 3))
      go_loopg [11, 12] k (fun kq v11 v12 w' => ∃ (x11_1 : Bool) (x12_1 : Int), v11 = .bool x11_1 ∧ v12 = .int .i64 x12_1 ∧ Aside0 (Lw.l0 kq t258 x11_1 x12_1 D0 D1 D2 D3 D4 D5 E0 E1 E2 E3 D0 D1 t260 t261 t262 t263 E0 (wrap64 (t266)) (wrap64 (t267)) (wrap64 (t268)) = some r) ∧ Aside0 (kq ≤ k) ∧ Aside0 (w'.heap[gb254]? = some (.cells #[.int .u64 D0, .int .u64 D1, .int .u64 D2, .int .u64 D3, .int .u64 D4, .int .u64 D5] 24 (0, 0))) ∧ Aside0 (w'.heap[gb255]? = some (.cells #[.int .i64 E0, .int .i64 E1, .int .i64 E2, .int .i64 E3] 35 (0, 0))) ∧ Aside0 (w'.heap[gb256]? = some (.cells #[.int .u64 G0, .int .u64 G1, .int .u64 G2, .int .u64 G3, .int .i64 G4, .int .i64 G5, .int .i64 G6] 42 (0, 0))) ∧ Aside0 (w'.heap[gb264]? = some (.cells #[.int .u64 D0, .int .u64 D1, .int .u64 t260, .int .u64 t261, .int .u64 t262, .int .u64 t263] 24 (0, 0))) ∧ Aside0 (w'.heap[gb265]? = some (.cells #[.int .i64 E0, .int .i64 (wrap64 (t266)), .int .i64 (wrap64 (t267)), .int .i64 (wrap64 (t268))] 35 (0, 0))) ∧ Aside0 (Below w.heap.size w w'))
      case atStart => exact ⟨(false), (0), (by first | rfl | (simp; done) | (simp [*]; done)), (by first | rfl | (simp; done) | (simp [*]; done)), H', ⟨Nat.le_refl _⟩, ⟨by (with_reducible repeat (first | refine blk_drewN ?_ _ | refine blk_drew ?_ | refine blk_alloc ?_ _)); refine blk_far ?_ NB254_265.out _; (with_reducible repeat (first | refine blk_drewN ?_ _ | refine blk_drew ?_ | refine blk_alloc ?_ _)); exact BK254.out⟩, ⟨by (with_reducible repeat (first | refine blk_drewN ?_ _ | refine blk_drew ?_ | refine blk_alloc ?_ _)); refine blk_far ?_ NB255_265.out _; (with_reducible repeat (first | refine blk_drewN ?_ _ | refine blk_drew ?_ | refine blk_alloc ?_ _)); exact BK255.out⟩, ⟨by (with_reducible repeat (first | refine blk_drewN ?_ _ | refine blk_drew ?_ | refine blk_alloc ?_ _)); refine blk_far ?_ NB256_265.out _; (with_reducible repeat (first | refine blk_drewN ?_ _ | refine blk_drew ?_ | refine blk_alloc ?_ _)); exact BK256.out⟩, ⟨by (with_reducible repeat (first | refine blk_drewN ?_ _ | refine blk_drew ?_ | refine blk_alloc ?_ _)); refine blk_far ?_ NB264_265.out _; (with_reducible repeat (first | refine blk_drewN ?_ _ | refine blk_drew ?_ | refine blk_alloc ?_ _)); exact BK264.out⟩, ⟨by (with_reducible repeat (first | refine blk_drewN ?_ _ | refine blk_drew ?_ | refine blk_alloc ?_ _)); refine blk_put (cs := #[.int .i64 E0, .int .i64 (wrap64 (t266)), .int .i64 (wrap64 (t267)), .int .i64 0]) ?_ 3 _ rfl; (with_reducible repeat (first | refine blk_drewN ?_ _ | refine blk_drew ?_ | refine blk_alloc ?_ _)); exact BK265.out⟩, ⟨by repeat (first | (with_reducible first | exact HB.out | apply below_alloc | apply pw_below_drewN | apply below_drew1 | refine below_set ?_ GE254.out | refine below_set ?_ GE255.out | refine below_set ?_ GE256.out | refine below_set ?_ GE264.out | refine below_set ?_ GE265.out) | exact HB.out)⟩⟩
      case round =>
        clear H'
        try clear c1
        try clear p2
        try clear c4
        try clear c5
        try clear p6
        try clear c19
        try clear c41
        try clear c44
        try clear c45
        try clear c46
        try clear c47
        try clear c50
        try clear hcz42_0
        try clear hcz42_1
        try clear hcz42_2
        try clear hcz42_3
        try clear hcz48_0
        try clear hcz48_1
        try clear hcz48_2
        try clear hcz48_3
        try clear hcz49_0
        try clear hcz49_1
        try clear hcz49_2
        try clear hcz49_3
        try clear hcz51_0
        try clear hcz51_1
        try clear hcz51_2
        try clear hcz51_3
        try clear hcz51_4
        try clear hcz51_5
        try clear hcz51_6
        try clear hcz53_0
        try clear hcz53_1
        try clear hcz53_2
        try clear hcz53_3
        try clear hcz54_0
        try clear hcz54_1
        try clear hcz54_2
        try clear hcz54_3
        try clear hcz55_0
        try clear hcz55_1
        try clear hcz55_2
        try clear hcz55_3
        try clear hcz55_4
        try clear hcz55_5
        try clear hcz55_6
        try clear hcz57_0
        try clear hcz57_1
        try clear hcz57_2
        try clear hcz57_3
        try clear hcz58_0
        try clear hcz58_1
        try clear hcz58_2
        try clear hcz58_3
        try clear hcz59_0
        try clear hcz59_1
        try clear hcz59_2
        try clear hcz59_3
        try clear hcz59_4
        try clear hcz59_5
        try clear hcz59_6
        try clear hcz61_0
        try clear hcz61_1
        try clear hcz61_2
        try clear hcz61_3
        try clear hfz42_0
        try clear hfz42_1
        try clear hfz42_2
        try clear hfz42_3
        try clear hfz48_0
        try clear hfz48_1
        try clear hfz48_2
        try clear hfz48_3
        try clear hfz49_0
        try clear hfz49_1
        try clear hfz49_2
        try clear hfz49_3
        try clear hfz51_0
        try clear hfz51_1
        try clear hfz51_2
        try clear hfz51_3
        try clear hfz51_4
        try clear hfz51_5
        try clear hfz51_6
        try clear hfz53_0
        try clear hfz53_1
        try clear hfz53_2
        try clear hfz53_3
        try clear hfz54_0
        try clear hfz54_1
        try clear hfz54_2
        try clear hfz54_3
        try clear hfz55_0
        try clear hfz55_1
        try clear hfz55_2
        try clear hfz55_3
        try clear hfz55_4
        try clear hfz55_5
        try clear hfz55_6
        try clear hfz57_0
        try clear hfz57_1
        try clear hfz57_2
        try clear hfz57_3
        try clear hfz58_0
        try clear hfz58_1
        try clear hfz58_2
        try clear hfz58_3
        try clear hfz59_0
        try clear hfz59_1
        try clear hfz59_2
        try clear hfz59_3
        try clear hfz59_4
        try clear hfz59_5
        try clear hfz59_6
        try clear hfz61_0
        try clear hfz61_1
        try clear hfz61_2
        try clear hfz61_3
        obtain ⟨x11_1, x12_1, rfl, rfl, HA, HK1, BK254, BK255, BK256, BK264, BK265, HB⟩ := hrel
        cases gk with
        | zero => exact absurd HA.out (by simp [Lw.l0])
        | succ k1 =>
          have H := HA.out
          clear HA
          simp only [Lw.l0] at H
          by_cases c62 : x12_1 < 20
          · rw [if_pos c62] at H
            have c62b0 : decide (x12_1 < 20) = true := decide_eq_true c62
            clear c62
            replace H := Option.bind_eq_some_iff.mp H
            obtain ⟨⟨t269, t270⟩, A630, H⟩ := H
            replace H : ((cost_Worst.f k1 D0 D1 t260 t261 t262 t263 E0 (wrap64 (t266)) (wrap64 (t267)) (wrap64 (t268)) ((x12_1) % 256)).bind fun bt271 => (if t270 = 0 then (if bt271.2 = 0 then (if t269 > bt271.1 then (some false) else (if t269 > t258 then (some false) else (if t269 < (IntKind.u64.wrap ((IntKind.u64.wrap (E0)) * D2)) then (some false) else (if bt271.1 ≥ 1099511627776 then (some false) else (if x11_1 = true then (Lw.l0 k1 t258 true (wrap64 (x12_1 + 1)) D0 D1 D2 D3 D4 D5 E0 E1 E2 E3 D0 D1 t260 t261 t262 t263 E0 (wrap64 (t266)) (wrap64 (t267)) (wrap64 (t268))) else (Lw.l0 k1 t258 (t269 == t258) (wrap64 (x12_1 + 1)) D0 D1 D2 D3 D4 D5 E0 E1 E2 E3 D0 D1 t260 t261 t262 t263 E0 (wrap64 (t266)) (wrap64 (t267)) (wrap64 (t268)))))))) else (some false)) else (some false))) = some r := H
            have A63 := Aside0.mk A630
            clear A630
            replace H := Option.bind_eq_some_iff.mp H
            obtain ⟨⟨t271, t272⟩, A640, H⟩ := H
            replace H : (if t270 = 0 then (if t272 = 0 then (if t269 > t271 then (some false) else (if t269 > t258 then (some false) else (if t269 < (IntKind.u64.wrap ((IntKind.u64.wrap (E0)) * D2)) then (some false) else (if t271 ≥ 1099511627776 then (some false) else (if x11_1 = true then (Lw.l0 k1 t258 true (wrap64 (x12_1 + 1)) D0 D1 D2 D3 D4 D5 E0 E1 E2 E3 D0 D1 t260 t261 t262 t263 E0 (wrap64 (t266)) (wrap64 (t267)) (wrap64 (t268))) else (Lw.l0 k1 t258 (t269 == t258) (wrap64 (x12_1 + 1)) D0 D1 D2 D3 D4 D5 E0 E1 E2 E3 D0 D1 t260 t261 t262 t263 E0 (wrap64 (t266)) (wrap64 (t267)) (wrap64 (t268)))))))) else (some false)) else (some false)) = some r := H
            have A64 := Aside0.mk A640
            clear A640
            by_cases c65 : t270 = 0
            · rw [if_pos c65] at H
              have c65b0 : (t270 == 0) = true := beq_iff_eq.mpr c65
              have c65b1 : (t270 != 0) = false := bne_eq_false_iff_eq.mpr c65
              clear c65
              by_cases c66 : t272 = 0
              · rw [if_pos c66] at H
                have c66b0 : (t272 == 0) = true := beq_iff_eq.mpr c66
                have c66b1 : (t272 != 0) = false := bne_eq_false_iff_eq.mpr c66
                clear c66
                by_cases c67 : t269 > t271
                · rw [if_pos c67] at H
                  have c67b0 : decide (t271 < t269) = true := decide_eq_true c67
                  clear c67
                  obtain rfl := Option.some.inj H
                  have hnb68 := NB254_255.out
                  have hnc68 := NB255_254.out
                  have hnb69 := NB254_256.out
                  have hnc69 := NB256_254.out
                  have hnb70 := NB254_264.out
                  have hnc70 := NB264_254.out
                  have hnb71 := NB254_265.out
                  have hnc71 := NB265_254.out
                  have hcz72_0 : wr.cell? ⟨gb254, 0, none⟩ = some (.int .u64 D0) := (blk_cell BK254.out 0).trans rfl
                  have hcz72_1 : wr.cell? ⟨gb254, 1, none⟩ = some (.int .u64 D1) := (blk_cell BK254.out 1).trans rfl
                  have hcz72_2 : wr.cell? ⟨gb254, 2, none⟩ = some (.int .u64 D2) := (blk_cell BK254.out 2).trans rfl
                  have hcz72_3 : wr.cell? ⟨gb254, 3, none⟩ = some (.int .u64 D3) := (blk_cell BK254.out 3).trans rfl
                  have hcz72_4 : wr.cell? ⟨gb254, 4, none⟩ = some (.int .u64 D4) := (blk_cell BK254.out 4).trans rfl
                  have hcz72_5 : wr.cell? ⟨gb254, 5, none⟩ = some (.int .u64 D5) := (blk_cell BK254.out 5).trans rfl
                  have hfz72_0 := blk_frozen BK254.out 0
                  have hfz72_1 := blk_frozen BK254.out 1
                  have hfz72_2 := blk_frozen BK254.out 2
                  have hfz72_3 := blk_frozen BK254.out 3
                  have hfz72_4 := blk_frozen BK254.out 4
                  have hfz72_5 := blk_frozen BK254.out 5
                  have hnb73 := NB255_256.out
                  have hnc73 := NB256_255.out
                  have hnb74 := NB255_264.out
                  have hnc74 := NB264_255.out
                  have hnb75 := NB255_265.out
                  have hnc75 := NB265_255.out
                  have hcz76_0 : wr.cell? ⟨gb255, 0, none⟩ = some (.int .i64 E0) := (blk_cell BK255.out 0).trans rfl
                  have hcz76_1 : wr.cell? ⟨gb255, 1, none⟩ = some (.int .i64 E1) := (blk_cell BK255.out 1).trans rfl
                  have hcz76_2 : wr.cell? ⟨gb255, 2, none⟩ = some (.int .i64 E2) := (blk_cell BK255.out 2).trans rfl
                  have hcz76_3 : wr.cell? ⟨gb255, 3, none⟩ = some (.int .i64 E3) := (blk_cell BK255.out 3).trans rfl
                  have hfz76_0 := blk_frozen BK255.out 0
                  have hfz76_1 := blk_frozen BK255.out 1
                  have hfz76_2 := blk_frozen BK255.out 2
                  have hfz76_3 := blk_frozen BK255.out 3
                  go_wp2_with (first | ((with_reducible refine gate_callee (f := 15) rfl ?_); refine goesL_ (some 94) rfl rfl Try.func15 (by kernel_rfl) rfl #[.agg #[.int .u64 D0, .int .u64 D1, .int .u64 D2, .int .u64 D3, .int .u64 D4, .int .u64 D5], .agg #[.int .i64 E0, .int .i64 E1, .int .i64 E2, .int .i64 E3], .int .u8 ((x12_1) % 256)] rfl (by (try simp only [List.map_toArray, List.map_cons, List.map_nil]); first | done | rfl | (simp only [List.length_drop, List.length_take]; rfl)) ?_; (with_reducible refine (cost_Worst.calls k1 D0 D1 D2 D3 D4 D5 E0 E1 E2 E3 ((x12_1) % 256) t269 t270 _ A63.out).mono ?_); rintro e w77 ⟨rfl, hb⟩; refine ⟨_, rfl, ?_⟩; have n0_ := Aside0.mk (blk_below (g := gb254) (o := .cells #[.int .u64 D0, .int .u64 D1, .int .u64 D2, .int .u64 D3, .int .u64 D4, .int .u64 D5] 24 (0, 0)) (bk BK254.out) hb); have n1_ := Aside0.mk (blk_below (g := gb255) (o := .cells #[.int .i64 E0, .int .i64 E1, .int .i64 E2, .int .i64 E3] 35 (0, 0)) (bk BK255.out) hb); have n2_ := Aside0.mk (blk_below (g := gb256) (o := .cells #[.int .u64 G0, .int .u64 G1, .int .u64 G2, .int .u64 G3, .int .i64 G4, .int .i64 G5, .int .i64 G6] 42 (0, 0)) (bk BK256.out) hb); have n3_ := Aside0.mk (blk_below (g := gb264) (o := .cells #[.int .u64 D0, .int .u64 D1, .int .u64 t260, .int .u64 t261, .int .u64 t262, .int .u64 t263] 24 (0, 0)) (bk BK264.out) hb); have n4_ := Aside0.mk (blk_below (g := gb265) (o := .cells #[.int .i64 E0, .int .i64 (wrap64 (t266)), .int .i64 (wrap64 (t267)), .int .i64 (wrap64 (t268))] 35 (0, 0)) (bk BK265.out) hb); have n5_ := Aside0.mk (below_step (by repeat (first | (with_reducible first | exact HB.out | apply below_alloc | apply pw_below_drewN | apply below_drew1 | refine below_set ?_ GE254.out | refine below_set ?_ GE255.out | refine below_set ?_ GE256.out | refine below_set ?_ GE264.out | refine below_set ?_ GE265.out) | exact HB.out)) hb); clear BK254; clear BK255; clear BK256; clear BK264; clear BK265; clear HB; have BK254 := n0_; have BK255 := n1_; have BK256 := n2_; have BK264 := n3_; have BK265 := n4_; have HB := n5_; clear n0_ n1_ n2_ n3_ n4_ n5_; (try clear hb); (try clear hb2); (try clear hk); (try clear hi); have hnb78 := NB264_256.out; have hnc78 := NB256_264.out; have hnb79 := NB264_265.out; have hnc79 := NB265_264.out; have hcz80_0 : w77.cell? ⟨gb264, 0, none⟩ = some (.int .u64 D0) := (blk_cell BK264.out 0).trans rfl; have hcz80_1 : w77.cell? ⟨gb264, 1, none⟩ = some (.int .u64 D1) := (blk_cell BK264.out 1).trans rfl; have hcz80_2 : w77.cell? ⟨gb264, 2, none⟩ = some (.int .u64 t260) := (blk_cell BK264.out 2).trans rfl; have hcz80_3 : w77.cell? ⟨gb264, 3, none⟩ = some (.int .u64 t261) := (blk_cell BK264.out 3).trans rfl; have hcz80_4 : w77.cell? ⟨gb264, 4, none⟩ = some (.int .u64 t262) := (blk_cell BK264.out 4).trans rfl; have hcz80_5 : w77.cell? ⟨gb264, 5, none⟩ = some (.int .u64 t263) := (blk_cell BK264.out 5).trans rfl; have hfz80_0 := blk_frozen BK264.out 0; have hfz80_1 := blk_frozen BK264.out 1; have hfz80_2 := blk_frozen BK264.out 2; have hfz80_3 := blk_frozen BK264.out 3; have hfz80_4 := blk_frozen BK264.out 4; have hfz80_5 := blk_frozen BK264.out 5; have hnb81 := NB265_256.out; have hnc81 := NB256_265.out; have hcz82_0 : w77.cell? ⟨gb265, 0, none⟩ = some (.int .i64 E0) := (blk_cell BK265.out 0).trans rfl; have hcz82_1 : w77.cell? ⟨gb265, 1, none⟩ = some (.int .i64 (wrap64 (t266))) := (blk_cell BK265.out 1).trans rfl; have hcz82_2 : w77.cell? ⟨gb265, 2, none⟩ = some (.int .i64 (wrap64 (t267))) := (blk_cell BK265.out 2).trans rfl; have hcz82_3 : w77.cell? ⟨gb265, 3, none⟩ = some (.int .i64 (wrap64 (t268))) := (blk_cell BK265.out 3).trans rfl; have hfz82_0 := blk_frozen BK265.out 0; have hfz82_1 := blk_frozen BK265.out 1; have hfz82_2 := blk_frozen BK265.out 2; have hfz82_3 := blk_frozen BK265.out 3) | ((with_reducible refine gate_callee (f := 15) rfl ?_); refine goesL_ (some 102) rfl rfl Try.func15 (by kernel_rfl) rfl #[.agg #[.int .u64 D0, .int .u64 D1, .int .u64 t260, .int .u64 t261, .int .u64 t262, .int .u64 t263], .agg #[.int .i64 E0, .int .i64 (wrap64 (t266)), .int .i64 (wrap64 (t267)), .int .i64 (wrap64 (t268))], .int .u8 ((x12_1) % 256)] rfl (by (try simp only [List.map_toArray, List.map_cons, List.map_nil]); first | done | rfl | (simp only [List.length_drop, List.length_take]; rfl)) ?_; (with_reducible refine (cost_Worst.calls k1 D0 D1 t260 t261 t262 t263 E0 (wrap64 (t266)) (wrap64 (t267)) (wrap64 (t268)) ((x12_1) % 256) t271 t272 _ A64.out).mono ?_); rintro e w83 ⟨rfl, hb⟩; refine ⟨_, rfl, ?_⟩; have n0_ := Aside0.mk (blk_below (g := gb254) (o := .cells #[.int .u64 D0, .int .u64 D1, .int .u64 D2, .int .u64 D3, .int .u64 D4, .int .u64 D5] 24 (0, 0)) (bk BK254.out) hb); have n1_ := Aside0.mk (blk_below (g := gb255) (o := .cells #[.int .i64 E0, .int .i64 E1, .int .i64 E2, .int .i64 E3] 35 (0, 0)) (bk BK255.out) hb); have n2_ := Aside0.mk (blk_below (g := gb256) (o := .cells #[.int .u64 G0, .int .u64 G1, .int .u64 G2, .int .u64 G3, .int .i64 G4, .int .i64 G5, .int .i64 G6] 42 (0, 0)) (bk BK256.out) hb); have n3_ := Aside0.mk (blk_below (g := gb264) (o := .cells #[.int .u64 D0, .int .u64 D1, .int .u64 t260, .int .u64 t261, .int .u64 t262, .int .u64 t263] 24 (0, 0)) (bk BK264.out) hb); have n4_ := Aside0.mk (blk_below (g := gb265) (o := .cells #[.int .i64 E0, .int .i64 (wrap64 (t266)), .int .i64 (wrap64 (t267)), .int .i64 (wrap64 (t268))] 35 (0, 0)) (bk BK265.out) hb); have n5_ := Aside0.mk (below_step (by repeat (first | (with_reducible first | exact HB.out | apply below_alloc | apply pw_below_drewN | apply below_drew1 | refine below_set ?_ GE254.out | refine below_set ?_ GE255.out | refine below_set ?_ GE256.out | refine below_set ?_ GE264.out | refine below_set ?_ GE265.out) | exact HB.out)) hb); clear BK254; clear BK255; clear BK256; clear BK264; clear BK265; clear HB; have BK254 := n0_; have BK255 := n1_; have BK256 := n2_; have BK264 := n3_; have BK265 := n4_; have HB := n5_; clear n0_ n1_ n2_ n3_ n4_ n5_; (try clear hb); (try clear hb2); (try clear hk); (try clear hi)))
                  go_ret
                  exact ⟨by first | rfl | (simp [errW_none, errW_some] <;> rfl) | (simp only [← hji12, ← hji14, ← hji16]; first | rfl | (simp [errW_none, errW_some] <;> rfl)) | (simp [*, errW_none, errW_some] <;> rfl), by repeat (first | (with_reducible first | exact HB.out | apply below_alloc | apply pw_below_drewN | apply below_drew1 | refine below_set ?_ GE254.out | refine below_set ?_ GE255.out | refine below_set ?_ GE256.out | refine below_set ?_ GE264.out | refine below_set ?_ GE265.out) | exact HB.out)⟩
                · rw [if_neg c67] at H
                  have c67b0 : decide (t271 < t269) = false := decide_eq_false c67
                  clear c67
                  by_cases c84 : t269 > t258
                  · rw [if_pos c84] at H
                    have c84b0 : decide (t258 < t269) = true := decide_eq_true c84
                    clear c84
                    obtain rfl := Option.some.inj H
                    have hnb85 := NB254_255.out
                    have hnc85 := NB255_254.out
                    have hnb86 := NB254_256.out
                    have hnc86 := NB256_254.out
                    have hnb87 := NB254_264.out
                    have hnc87 := NB264_254.out
                    have hnb88 := NB254_265.out
                    have hnc88 := NB265_254.out
                    have hcz89_0 : wr.cell? ⟨gb254, 0, none⟩ = some (.int .u64 D0) := (blk_cell BK254.out 0).trans rfl
                    have hcz89_1 : wr.cell? ⟨gb254, 1, none⟩ = some (.int .u64 D1) := (blk_cell BK254.out 1).trans rfl
                    have hcz89_2 : wr.cell? ⟨gb254, 2, none⟩ = some (.int .u64 D2) := (blk_cell BK254.out 2).trans rfl
                    have hcz89_3 : wr.cell? ⟨gb254, 3, none⟩ = some (.int .u64 D3) := (blk_cell BK254.out 3).trans rfl
                    have hcz89_4 : wr.cell? ⟨gb254, 4, none⟩ = some (.int .u64 D4) := (blk_cell BK254.out 4).trans rfl
                    have hcz89_5 : wr.cell? ⟨gb254, 5, none⟩ = some (.int .u64 D5) := (blk_cell BK254.out 5).trans rfl
                    have hfz89_0 := blk_frozen BK254.out 0
                    have hfz89_1 := blk_frozen BK254.out 1
                    have hfz89_2 := blk_frozen BK254.out 2
                    have hfz89_3 := blk_frozen BK254.out 3
                    have hfz89_4 := blk_frozen BK254.out 4
                    have hfz89_5 := blk_frozen BK254.out 5
                    have hnb90 := NB255_256.out
                    have hnc90 := NB256_255.out
                    have hnb91 := NB255_264.out
                    have hnc91 := NB264_255.out
                    have hnb92 := NB255_265.out
                    have hnc92 := NB265_255.out
                    have hcz93_0 : wr.cell? ⟨gb255, 0, none⟩ = some (.int .i64 E0) := (blk_cell BK255.out 0).trans rfl
                    have hcz93_1 : wr.cell? ⟨gb255, 1, none⟩ = some (.int .i64 E1) := (blk_cell BK255.out 1).trans rfl
                    have hcz93_2 : wr.cell? ⟨gb255, 2, none⟩ = some (.int .i64 E2) := (blk_cell BK255.out 2).trans rfl
                    have hcz93_3 : wr.cell? ⟨gb255, 3, none⟩ = some (.int .i64 E3) := (blk_cell BK255.out 3).trans rfl
                    have hfz93_0 := blk_frozen BK255.out 0
                    have hfz93_1 := blk_frozen BK255.out 1
                    have hfz93_2 := blk_frozen BK255.out 2
                    have hfz93_3 := blk_frozen BK255.out 3
                    go_wp2_with (first | ((with_reducible refine gate_callee (f := 15) rfl ?_); refine goesL_ (some 94) rfl rfl Try.func15 (by kernel_rfl) rfl #[.agg #[.int .u64 D0, .int .u64 D1, .int .u64 D2, .int .u64 D3, .int .u64 D4, .int .u64 D5], .agg #[.int .i64 E0, .int .i64 E1, .int .i64 E2, .int .i64 E3], .int .u8 ((x12_1) % 256)] rfl (by (try simp only [List.map_toArray, List.map_cons, List.map_nil]); first | done | rfl | (simp only [List.length_drop, List.length_take]; rfl)) ?_; (with_reducible refine (cost_Worst.calls k1 D0 D1 D2 D3 D4 D5 E0 E1 E2 E3 ((x12_1) % 256) t269 t270 _ A63.out).mono ?_); rintro e w94 ⟨rfl, hb⟩; refine ⟨_, rfl, ?_⟩; have n0_ := Aside0.mk (blk_below (g := gb254) (o := .cells #[.int .u64 D0, .int .u64 D1, .int .u64 D2, .int .u64 D3, .int .u64 D4, .int .u64 D5] 24 (0, 0)) (bk BK254.out) hb); have n1_ := Aside0.mk (blk_below (g := gb255) (o := .cells #[.int .i64 E0, .int .i64 E1, .int .i64 E2, .int .i64 E3] 35 (0, 0)) (bk BK255.out) hb); have n2_ := Aside0.mk (blk_below (g := gb256) (o := .cells #[.int .u64 G0, .int .u64 G1, .int .u64 G2, .int .u64 G3, .int .i64 G4, .int .i64 G5, .int .i64 G6] 42 (0, 0)) (bk BK256.out) hb); have n3_ := Aside0.mk (blk_below (g := gb264) (o := .cells #[.int .u64 D0, .int .u64 D1, .int .u64 t260, .int .u64 t261, .int .u64 t262, .int .u64 t263] 24 (0, 0)) (bk BK264.out) hb); have n4_ := Aside0.mk (blk_below (g := gb265) (o := .cells #[.int .i64 E0, .int .i64 (wrap64 (t266)), .int .i64 (wrap64 (t267)), .int .i64 (wrap64 (t268))] 35 (0, 0)) (bk BK265.out) hb); have n5_ := Aside0.mk (below_step (by repeat (first | (with_reducible first | exact HB.out | apply below_alloc | apply pw_below_drewN | apply below_drew1 | refine below_set ?_ GE254.out | refine below_set ?_ GE255.out | refine below_set ?_ GE256.out | refine below_set ?_ GE264.out | refine below_set ?_ GE265.out) | exact HB.out)) hb); clear BK254; clear BK255; clear BK256; clear BK264; clear BK265; clear HB; have BK254 := n0_; have BK255 := n1_; have BK256 := n2_; have BK264 := n3_; have BK265 := n4_; have HB := n5_; clear n0_ n1_ n2_ n3_ n4_ n5_; (try clear hb); (try clear hb2); (try clear hk); (try clear hi); have hnb95 := NB264_256.out; have hnc95 := NB256_264.out; have hnb96 := NB264_265.out; have hnc96 := NB265_264.out; have hcz97_0 : w94.cell? ⟨gb264, 0, none⟩ = some (.int .u64 D0) := (blk_cell BK264.out 0).trans rfl; have hcz97_1 : w94.cell? ⟨gb264, 1, none⟩ = some (.int .u64 D1) := (blk_cell BK264.out 1).trans rfl; have hcz97_2 : w94.cell? ⟨gb264, 2, none⟩ = some (.int .u64 t260) := (blk_cell BK264.out 2).trans rfl; have hcz97_3 : w94.cell? ⟨gb264, 3, none⟩ = some (.int .u64 t261) := (blk_cell BK264.out 3).trans rfl; have hcz97_4 : w94.cell? ⟨gb264, 4, none⟩ = some (.int .u64 t262) := (blk_cell BK264.out 4).trans rfl; have hcz97_5 : w94.cell? ⟨gb264, 5, none⟩ = some (.int .u64 t263) := (blk_cell BK264.out 5).trans rfl; have hfz97_0 := blk_frozen BK264.out 0; have hfz97_1 := blk_frozen BK264.out 1; have hfz97_2 := blk_frozen BK264.out 2; have hfz97_3 := blk_frozen BK264.out 3; have hfz97_4 := blk_frozen BK264.out 4; have hfz97_5 := blk_frozen BK264.out 5; have hnb98 := NB265_256.out; have hnc98 := NB256_265.out; have hcz99_0 : w94.cell? ⟨gb265, 0, none⟩ = some (.int .i64 E0) := (blk_cell BK265.out 0).trans rfl; have hcz99_1 : w94.cell? ⟨gb265, 1, none⟩ = some (.int .i64 (wrap64 (t266))) := (blk_cell BK265.out 1).trans rfl; have hcz99_2 : w94.cell? ⟨gb265, 2, none⟩ = some (.int .i64 (wrap64 (t267))) := (blk_cell BK265.out 2).trans rfl; have hcz99_3 : w94.cell? ⟨gb265, 3, none⟩ = some (.int .i64 (wrap64 (t268))) := (blk_cell BK265.out 3).trans rfl; have hfz99_0 := blk_frozen BK265.out 0; have hfz99_1 := blk_frozen BK265.out 1; have hfz99_2 := blk_frozen BK265.out 2; have hfz99_3 := blk_frozen BK265.out 3) | ((with_reducible refine gate_callee (f := 15) rfl ?_); refine goesL_ (some 102) rfl rfl Try.func15 (by kernel_rfl) rfl #[.agg #[.int .u64 D0, .int .u64 D1, .int .u64 t260, .int .u64 t261, .int .u64 t262, .int .u64 t263], .agg #[.int .i64 E0, .int .i64 (wrap64 (t266)), .int .i64 (wrap64 (t267)), .int .i64 (wrap64 (t268))], .int .u8 ((x12_1) % 256)] rfl (by (try simp only [List.map_toArray, List.map_cons, List.map_nil]); first | done | rfl | (simp only [List.length_drop, List.length_take]; rfl)) ?_; (with_reducible refine (cost_Worst.calls k1 D0 D1 t260 t261 t262 t263 E0 (wrap64 (t266)) (wrap64 (t267)) (wrap64 (t268)) ((x12_1) % 256) t271 t272 _ A64.out).mono ?_); rintro e w100 ⟨rfl, hb⟩; refine ⟨_, rfl, ?_⟩; have n0_ := Aside0.mk (blk_below (g := gb254) (o := .cells #[.int .u64 D0, .int .u64 D1, .int .u64 D2, .int .u64 D3, .int .u64 D4, .int .u64 D5] 24 (0, 0)) (bk BK254.out) hb); have n1_ := Aside0.mk (blk_below (g := gb255) (o := .cells #[.int .i64 E0, .int .i64 E1, .int .i64 E2, .int .i64 E3] 35 (0, 0)) (bk BK255.out) hb); have n2_ := Aside0.mk (blk_below (g := gb256) (o := .cells #[.int .u64 G0, .int .u64 G1, .int .u64 G2, .int .u64 G3, .int .i64 G4, .int .i64 G5, .int .i64 G6] 42 (0, 0)) (bk BK256.out) hb); have n3_ := Aside0.mk (blk_below (g := gb264) (o := .cells #[.int .u64 D0, .int .u64 D1, .int .u64 t260, .int .u64 t261, .int .u64 t262, .int .u64 t263] 24 (0, 0)) (bk BK264.out) hb); have n4_ := Aside0.mk (blk_below (g := gb265) (o := .cells #[.int .i64 E0, .int .i64 (wrap64 (t266)), .int .i64 (wrap64 (t267)), .int .i64 (wrap64 (t268))] 35 (0, 0)) (bk BK265.out) hb); have n5_ := Aside0.mk (below_step (by repeat (first | (with_reducible first | exact HB.out | apply below_alloc | apply pw_below_drewN | apply below_drew1 | refine below_set ?_ GE254.out | refine below_set ?_ GE255.out | refine below_set ?_ GE256.out | refine below_set ?_ GE264.out | refine below_set ?_ GE265.out) | exact HB.out)) hb); clear BK254; clear BK255; clear BK256; clear BK264; clear BK265; clear HB; have BK254 := n0_; have BK255 := n1_; have BK256 := n2_; have BK264 := n3_; have BK265 := n4_; have HB := n5_; clear n0_ n1_ n2_ n3_ n4_ n5_; (try clear hb); (try clear hb2); (try clear hk); (try clear hi)))
                    go_ret
                    exact ⟨by first | rfl | (simp [errW_none, errW_some] <;> rfl) | (simp only [← hji12, ← hji14, ← hji16]; first | rfl | (simp [errW_none, errW_some] <;> rfl)) | (simp [*, errW_none, errW_some] <;> rfl), by repeat (first | (with_reducible first | exact HB.out | apply below_alloc | apply pw_below_drewN | apply below_drew1 | refine below_set ?_ GE254.out | refine below_set ?_ GE255.out | refine below_set ?_ GE256.out | refine below_set ?_ GE264.out | refine below_set ?_ GE265.out) | exact HB.out)⟩
                  · rw [if_neg c84] at H
                    have c84b0 : decide (t258 < t269) = false := decide_eq_false c84
                    clear c84
                    by_cases c101 : t269 < (IntKind.u64.wrap ((IntKind.u64.wrap (E0)) * D2))
                    · rw [if_pos c101] at H
                      have c101b0 : decide (t269 < (IntKind.u64.wrap ((IntKind.u64.wrap (E0)) * D2))) = true := decide_eq_true c101
                      clear c101
                      obtain rfl := Option.some.inj H
                      have hnb102 := NB254_255.out
                      have hnc102 := NB255_254.out
                      have hnb103 := NB254_256.out
                      have hnc103 := NB256_254.out
                      have hnb104 := NB254_264.out
                      have hnc104 := NB264_254.out
                      have hnb105 := NB254_265.out
                      have hnc105 := NB265_254.out
                      have hcz106_0 : wr.cell? ⟨gb254, 0, none⟩ = some (.int .u64 D0) := (blk_cell BK254.out 0).trans rfl
                      have hcz106_1 : wr.cell? ⟨gb254, 1, none⟩ = some (.int .u64 D1) := (blk_cell BK254.out 1).trans rfl
                      have hcz106_2 : wr.cell? ⟨gb254, 2, none⟩ = some (.int .u64 D2) := (blk_cell BK254.out 2).trans rfl
                      have hcz106_3 : wr.cell? ⟨gb254, 3, none⟩ = some (.int .u64 D3) := (blk_cell BK254.out 3).trans rfl
                      have hcz106_4 : wr.cell? ⟨gb254, 4, none⟩ = some (.int .u64 D4) := (blk_cell BK254.out 4).trans rfl
                      have hcz106_5 : wr.cell? ⟨gb254, 5, none⟩ = some (.int .u64 D5) := (blk_cell BK254.out 5).trans rfl
                      have hfz106_0 := blk_frozen BK254.out 0
                      have hfz106_1 := blk_frozen BK254.out 1
                      have hfz106_2 := blk_frozen BK254.out 2
                      have hfz106_3 := blk_frozen BK254.out 3
                      have hfz106_4 := blk_frozen BK254.out 4
                      have hfz106_5 := blk_frozen BK254.out 5
                      have hnb107 := NB255_256.out
                      have hnc107 := NB256_255.out
                      have hnb108 := NB255_264.out
                      have hnc108 := NB264_255.out
                      have hnb109 := NB255_265.out
                      have hnc109 := NB265_255.out
                      have hcz110_0 : wr.cell? ⟨gb255, 0, none⟩ = some (.int .i64 E0) := (blk_cell BK255.out 0).trans rfl
                      have hcz110_1 : wr.cell? ⟨gb255, 1, none⟩ = some (.int .i64 E1) := (blk_cell BK255.out 1).trans rfl
                      have hcz110_2 : wr.cell? ⟨gb255, 2, none⟩ = some (.int .i64 E2) := (blk_cell BK255.out 2).trans rfl
                      have hcz110_3 : wr.cell? ⟨gb255, 3, none⟩ = some (.int .i64 E3) := (blk_cell BK255.out 3).trans rfl
                      have hfz110_0 := blk_frozen BK255.out 0
                      have hfz110_1 := blk_frozen BK255.out 1
                      have hfz110_2 := blk_frozen BK255.out 2
                      have hfz110_3 := blk_frozen BK255.out 3
                      go_wp2_with (first | ((with_reducible refine gate_callee (f := 15) rfl ?_); refine goesL_ (some 94) rfl rfl Try.func15 (by kernel_rfl) rfl #[.agg #[.int .u64 D0, .int .u64 D1, .int .u64 D2, .int .u64 D3, .int .u64 D4, .int .u64 D5], .agg #[.int .i64 E0, .int .i64 E1, .int .i64 E2, .int .i64 E3], .int .u8 ((x12_1) % 256)] rfl (by (try simp only [List.map_toArray, List.map_cons, List.map_nil]); first | done | rfl | (simp only [List.length_drop, List.length_take]; rfl)) ?_; (with_reducible refine (cost_Worst.calls k1 D0 D1 D2 D3 D4 D5 E0 E1 E2 E3 ((x12_1) % 256) t269 t270 _ A63.out).mono ?_); rintro e w111 ⟨rfl, hb⟩; refine ⟨_, rfl, ?_⟩; have n0_ := Aside0.mk (blk_below (g := gb254) (o := .cells #[.int .u64 D0, .int .u64 D1, .int .u64 D2, .int .u64 D3, .int .u64 D4, .int .u64 D5] 24 (0, 0)) (bk BK254.out) hb); have n1_ := Aside0.mk (blk_below (g := gb255) (o := .cells #[.int .i64 E0, .int .i64 E1, .int .i64 E2, .int .i64 E3] 35 (0, 0)) (bk BK255.out) hb); have n2_ := Aside0.mk (blk_below (g := gb256) (o := .cells #[.int .u64 G0, .int .u64 G1, .int .u64 G2, .int .u64 G3, .int .i64 G4, .int .i64 G5, .int .i64 G6] 42 (0, 0)) (bk BK256.out) hb); have n3_ := Aside0.mk (blk_below (g := gb264) (o := .cells #[.int .u64 D0, .int .u64 D1, .int .u64 t260, .int .u64 t261, .int .u64 t262, .int .u64 t263] 24 (0, 0)) (bk BK264.out) hb); have n4_ := Aside0.mk (blk_below (g := gb265) (o := .cells #[.int .i64 E0, .int .i64 (wrap64 (t266)), .int .i64 (wrap64 (t267)), .int .i64 (wrap64 (t268))] 35 (0, 0)) (bk BK265.out) hb); have n5_ := Aside0.mk (below_step (by repeat (first | (with_reducible first | exact HB.out | apply below_alloc | apply pw_below_drewN | apply below_drew1 | refine below_set ?_ GE254.out | refine below_set ?_ GE255.out | refine below_set ?_ GE256.out | refine below_set ?_ GE264.out | refine below_set ?_ GE265.out) | exact HB.out)) hb); clear BK254; clear BK255; clear BK256; clear BK264; clear BK265; clear HB; have BK254 := n0_; have BK255 := n1_; have BK256 := n2_; have BK264 := n3_; have BK265 := n4_; have HB := n5_; clear n0_ n1_ n2_ n3_ n4_ n5_; (try clear hb); (try clear hb2); (try clear hk); (try clear hi); have hnb112 := NB264_256.out; have hnc112 := NB256_264.out; have hnb113 := NB264_265.out; have hnc113 := NB265_264.out; have hcz114_0 : w111.cell? ⟨gb264, 0, none⟩ = some (.int .u64 D0) := (blk_cell BK264.out 0).trans rfl; have hcz114_1 : w111.cell? ⟨gb264, 1, none⟩ = some (.int .u64 D1) := (blk_cell BK264.out 1).trans rfl; have hcz114_2 : w111.cell? ⟨gb264, 2, none⟩ = some (.int .u64 t260) := (blk_cell BK264.out 2).trans rfl; have hcz114_3 : w111.cell? ⟨gb264, 3, none⟩ = some (.int .u64 t261) := (blk_cell BK264.out 3).trans rfl; have hcz114_4 : w111.cell? ⟨gb264, 4, none⟩ = some (.int .u64 t262) := (blk_cell BK264.out 4).trans rfl; have hcz114_5 : w111.cell? ⟨gb264, 5, none⟩ = some (.int .u64 t263) := (blk_cell BK264.out 5).trans rfl; have hfz114_0 := blk_frozen BK264.out 0; have hfz114_1 := blk_frozen BK264.out 1; have hfz114_2 := blk_frozen BK264.out 2; have hfz114_3 := blk_frozen BK264.out 3; have hfz114_4 := blk_frozen BK264.out 4; have hfz114_5 := blk_frozen BK264.out 5; have hnb115 := NB265_256.out; have hnc115 := NB256_265.out; have hcz116_0 : w111.cell? ⟨gb265, 0, none⟩ = some (.int .i64 E0) := (blk_cell BK265.out 0).trans rfl; have hcz116_1 : w111.cell? ⟨gb265, 1, none⟩ = some (.int .i64 (wrap64 (t266))) := (blk_cell BK265.out 1).trans rfl; have hcz116_2 : w111.cell? ⟨gb265, 2, none⟩ = some (.int .i64 (wrap64 (t267))) := (blk_cell BK265.out 2).trans rfl; have hcz116_3 : w111.cell? ⟨gb265, 3, none⟩ = some (.int .i64 (wrap64 (t268))) := (blk_cell BK265.out 3).trans rfl; have hfz116_0 := blk_frozen BK265.out 0; have hfz116_1 := blk_frozen BK265.out 1; have hfz116_2 := blk_frozen BK265.out 2; have hfz116_3 := blk_frozen BK265.out 3) | ((with_reducible refine gate_callee (f := 15) rfl ?_); refine goesL_ (some 102) rfl rfl Try.func15 (by kernel_rfl) rfl #[.agg #[.int .u64 D0, .int .u64 D1, .int .u64 t260, .int .u64 t261, .int .u64 t262, .int .u64 t263], .agg #[.int .i64 E0, .int .i64 (wrap64 (t266)), .int .i64 (wrap64 (t267)), .int .i64 (wrap64 (t268))], .int .u8 ((x12_1) % 256)] rfl (by (try simp only [List.map_toArray, List.map_cons, List.map_nil]); first | done | rfl | (simp only [List.length_drop, List.length_take]; rfl)) ?_; (with_reducible refine (cost_Worst.calls k1 D0 D1 t260 t261 t262 t263 E0 (wrap64 (t266)) (wrap64 (t267)) (wrap64 (t268)) ((x12_1) % 256) t271 t272 _ A64.out).mono ?_); rintro e w117 ⟨rfl, hb⟩; refine ⟨_, rfl, ?_⟩; have n0_ := Aside0.mk (blk_below (g := gb254) (o := .cells #[.int .u64 D0, .int .u64 D1, .int .u64 D2, .int .u64 D3, .int .u64 D4, .int .u64 D5] 24 (0, 0)) (bk BK254.out) hb); have n1_ := Aside0.mk (blk_below (g := gb255) (o := .cells #[.int .i64 E0, .int .i64 E1, .int .i64 E2, .int .i64 E3] 35 (0, 0)) (bk BK255.out) hb); have n2_ := Aside0.mk (blk_below (g := gb256) (o := .cells #[.int .u64 G0, .int .u64 G1, .int .u64 G2, .int .u64 G3, .int .i64 G4, .int .i64 G5, .int .i64 G6] 42 (0, 0)) (bk BK256.out) hb); have n3_ := Aside0.mk (blk_below (g := gb264) (o := .cells #[.int .u64 D0, .int .u64 D1, .int .u64 t260, .int .u64 t261, .int .u64 t262, .int .u64 t263] 24 (0, 0)) (bk BK264.out) hb); have n4_ := Aside0.mk (blk_below (g := gb265) (o := .cells #[.int .i64 E0, .int .i64 (wrap64 (t266)), .int .i64 (wrap64 (t267)), .int .i64 (wrap64 (t268))] 35 (0, 0)) (bk BK265.out) hb); have n5_ := Aside0.mk (below_step (by repeat (first | (with_reducible first | exact HB.out | apply below_alloc | apply pw_below_drewN | apply below_drew1 | refine below_set ?_ GE254.out | refine below_set ?_ GE255.out | refine below_set ?_ GE256.out | refine below_set ?_ GE264.out | refine below_set ?_ GE265.out) | exact HB.out)) hb); clear BK254; clear BK255; clear BK256; clear BK264; clear BK265; clear HB; have BK254 := n0_; have BK255 := n1_; have BK256 := n2_; have BK264 := n3_; have BK265 := n4_; have HB := n5_; clear n0_ n1_ n2_ n3_ n4_ n5_; (try clear hb); (try clear hb2); (try clear hk); (try clear hi); have hcz118_0 : w117.cell? ⟨gb255, 0, none⟩ = some (.int .i64 E0) := (blk_cell BK255.out 0).trans rfl; have hcz118_1 : w117.cell? ⟨gb255, 1, none⟩ = some (.int .i64 E1) := (blk_cell BK255.out 1).trans rfl; have hcz118_2 : w117.cell? ⟨gb255, 2, none⟩ = some (.int .i64 E2) := (blk_cell BK255.out 2).trans rfl; have hcz118_3 : w117.cell? ⟨gb255, 3, none⟩ = some (.int .i64 E3) := (blk_cell BK255.out 3).trans rfl; have hfz118_0 := blk_frozen BK255.out 0; have hfz118_1 := blk_frozen BK255.out 1; have hfz118_2 := blk_frozen BK255.out 2; have hfz118_3 := blk_frozen BK255.out 3; have hcz119_0 : w117.cell? ⟨gb254, 0, none⟩ = some (.int .u64 D0) := (blk_cell BK254.out 0).trans rfl; have hcz119_1 : w117.cell? ⟨gb254, 1, none⟩ = some (.int .u64 D1) := (blk_cell BK254.out 1).trans rfl; have hcz119_2 : w117.cell? ⟨gb254, 2, none⟩ = some (.int .u64 D2) := (blk_cell BK254.out 2).trans rfl; have hcz119_3 : w117.cell? ⟨gb254, 3, none⟩ = some (.int .u64 D3) := (blk_cell BK254.out 3).trans rfl; have hcz119_4 : w117.cell? ⟨gb254, 4, none⟩ = some (.int .u64 D4) := (blk_cell BK254.out 4).trans rfl; have hcz119_5 : w117.cell? ⟨gb254, 5, none⟩ = some (.int .u64 D5) := (blk_cell BK254.out 5).trans rfl; have hfz119_0 := blk_frozen BK254.out 0; have hfz119_1 := blk_frozen BK254.out 1; have hfz119_2 := blk_frozen BK254.out 2; have hfz119_3 := blk_frozen BK254.out 3; have hfz119_4 := blk_frozen BK254.out 4; have hfz119_5 := blk_frozen BK254.out 5))
                      go_ret
                      exact ⟨by first | rfl | (simp [errW_none, errW_some] <;> rfl) | (simp only [← hji12, ← hji14, ← hji16]; first | rfl | (simp [errW_none, errW_some] <;> rfl)) | (simp [*, errW_none, errW_some] <;> rfl), by repeat (first | (with_reducible first | exact HB.out | apply below_alloc | apply pw_below_drewN | apply below_drew1 | refine below_set ?_ GE254.out | refine below_set ?_ GE255.out | refine below_set ?_ GE256.out | refine below_set ?_ GE264.out | refine below_set ?_ GE265.out) | exact HB.out)⟩
                    · rw [if_neg c101] at H
                      have c101b0 : decide (t269 < (IntKind.u64.wrap ((IntKind.u64.wrap (E0)) * D2))) = false := decide_eq_false c101
                      clear c101
                      by_cases c120 : t271 ≥ 1099511627776
                      · rw [if_pos c120] at H
                        have c120b0 : decide (1099511627776 ≤ t271) = true := decide_eq_true c120
                        clear c120
                        obtain rfl := Option.some.inj H
                        have hnb121 := NB254_255.out
                        have hnc121 := NB255_254.out
                        have hnb122 := NB254_256.out
                        have hnc122 := NB256_254.out
                        have hnb123 := NB254_264.out
                        have hnc123 := NB264_254.out
                        have hnb124 := NB254_265.out
                        have hnc124 := NB265_254.out
                        have hcz125_0 : wr.cell? ⟨gb254, 0, none⟩ = some (.int .u64 D0) := (blk_cell BK254.out 0).trans rfl
                        have hcz125_1 : wr.cell? ⟨gb254, 1, none⟩ = some (.int .u64 D1) := (blk_cell BK254.out 1).trans rfl
                        have hcz125_2 : wr.cell? ⟨gb254, 2, none⟩ = some (.int .u64 D2) := (blk_cell BK254.out 2).trans rfl
                        have hcz125_3 : wr.cell? ⟨gb254, 3, none⟩ = some (.int .u64 D3) := (blk_cell BK254.out 3).trans rfl
                        have hcz125_4 : wr.cell? ⟨gb254, 4, none⟩ = some (.int .u64 D4) := (blk_cell BK254.out 4).trans rfl
                        have hcz125_5 : wr.cell? ⟨gb254, 5, none⟩ = some (.int .u64 D5) := (blk_cell BK254.out 5).trans rfl
                        have hfz125_0 := blk_frozen BK254.out 0
                        have hfz125_1 := blk_frozen BK254.out 1
                        have hfz125_2 := blk_frozen BK254.out 2
                        have hfz125_3 := blk_frozen BK254.out 3
                        have hfz125_4 := blk_frozen BK254.out 4
                        have hfz125_5 := blk_frozen BK254.out 5
                        have hnb126 := NB255_256.out
                        have hnc126 := NB256_255.out
                        have hnb127 := NB255_264.out
                        have hnc127 := NB264_255.out
                        have hnb128 := NB255_265.out
                        have hnc128 := NB265_255.out
                        have hcz129_0 : wr.cell? ⟨gb255, 0, none⟩ = some (.int .i64 E0) := (blk_cell BK255.out 0).trans rfl
                        have hcz129_1 : wr.cell? ⟨gb255, 1, none⟩ = some (.int .i64 E1) := (blk_cell BK255.out 1).trans rfl
                        have hcz129_2 : wr.cell? ⟨gb255, 2, none⟩ = some (.int .i64 E2) := (blk_cell BK255.out 2).trans rfl
                        have hcz129_3 : wr.cell? ⟨gb255, 3, none⟩ = some (.int .i64 E3) := (blk_cell BK255.out 3).trans rfl
                        have hfz129_0 := blk_frozen BK255.out 0
                        have hfz129_1 := blk_frozen BK255.out 1
                        have hfz129_2 := blk_frozen BK255.out 2
                        have hfz129_3 := blk_frozen BK255.out 3
                        go_wp2_with (first | ((with_reducible refine gate_callee (f := 15) rfl ?_); refine goesL_ (some 94) rfl rfl Try.func15 (by kernel_rfl) rfl #[.agg #[.int .u64 D0, .int .u64 D1, .int .u64 D2, .int .u64 D3, .int .u64 D4, .int .u64 D5], .agg #[.int .i64 E0, .int .i64 E1, .int .i64 E2, .int .i64 E3], .int .u8 ((x12_1) % 256)] rfl (by (try simp only [List.map_toArray, List.map_cons, List.map_nil]); first | done | rfl | (simp only [List.length_drop, List.length_take]; rfl)) ?_; (with_reducible refine (cost_Worst.calls k1 D0 D1 D2 D3 D4 D5 E0 E1 E2 E3 ((x12_1) % 256) t269 t270 _ A63.out).mono ?_); rintro e w130 ⟨rfl, hb⟩; refine ⟨_, rfl, ?_⟩; have n0_ := Aside0.mk (blk_below (g := gb254) (o := .cells #[.int .u64 D0, .int .u64 D1, .int .u64 D2, .int .u64 D3, .int .u64 D4, .int .u64 D5] 24 (0, 0)) (bk BK254.out) hb); have n1_ := Aside0.mk (blk_below (g := gb255) (o := .cells #[.int .i64 E0, .int .i64 E1, .int .i64 E2, .int .i64 E3] 35 (0, 0)) (bk BK255.out) hb); have n2_ := Aside0.mk (blk_below (g := gb256) (o := .cells #[.int .u64 G0, .int .u64 G1, .int .u64 G2, .int .u64 G3, .int .i64 G4, .int .i64 G5, .int .i64 G6] 42 (0, 0)) (bk BK256.out) hb); have n3_ := Aside0.mk (blk_below (g := gb264) (o := .cells #[.int .u64 D0, .int .u64 D1, .int .u64 t260, .int .u64 t261, .int .u64 t262, .int .u64 t263] 24 (0, 0)) (bk BK264.out) hb); have n4_ := Aside0.mk (blk_below (g := gb265) (o := .cells #[.int .i64 E0, .int .i64 (wrap64 (t266)), .int .i64 (wrap64 (t267)), .int .i64 (wrap64 (t268))] 35 (0, 0)) (bk BK265.out) hb); have n5_ := Aside0.mk (below_step (by repeat (first | (with_reducible first | exact HB.out | apply below_alloc | apply pw_below_drewN | apply below_drew1 | refine below_set ?_ GE254.out | refine below_set ?_ GE255.out | refine below_set ?_ GE256.out | refine below_set ?_ GE264.out | refine below_set ?_ GE265.out) | exact HB.out)) hb); clear BK254; clear BK255; clear BK256; clear BK264; clear BK265; clear HB; have BK254 := n0_; have BK255 := n1_; have BK256 := n2_; have BK264 := n3_; have BK265 := n4_; have HB := n5_; clear n0_ n1_ n2_ n3_ n4_ n5_; (try clear hb); (try clear hb2); (try clear hk); (try clear hi); have hnb131 := NB264_256.out; have hnc131 := NB256_264.out; have hnb132 := NB264_265.out; have hnc132 := NB265_264.out; have hcz133_0 : w130.cell? ⟨gb264, 0, none⟩ = some (.int .u64 D0) := (blk_cell BK264.out 0).trans rfl; have hcz133_1 : w130.cell? ⟨gb264, 1, none⟩ = some (.int .u64 D1) := (blk_cell BK264.out 1).trans rfl; have hcz133_2 : w130.cell? ⟨gb264, 2, none⟩ = some (.int .u64 t260) := (blk_cell BK264.out 2).trans rfl; have hcz133_3 : w130.cell? ⟨gb264, 3, none⟩ = some (.int .u64 t261) := (blk_cell BK264.out 3).trans rfl; have hcz133_4 : w130.cell? ⟨gb264, 4, none⟩ = some (.int .u64 t262) := (blk_cell BK264.out 4).trans rfl; have hcz133_5 : w130.cell? ⟨gb264, 5, none⟩ = some (.int .u64 t263) := (blk_cell BK264.out 5).trans rfl; have hfz133_0 := blk_frozen BK264.out 0; have hfz133_1 := blk_frozen BK264.out 1; have hfz133_2 := blk_frozen BK264.out 2; have hfz133_3 := blk_frozen BK264.out 3; have hfz133_4 := blk_frozen BK264.out 4; have hfz133_5 := blk_frozen BK264.out 5; have hnb134 := NB265_256.out; have hnc134 := NB256_265.out; have hcz135_0 : w130.cell? ⟨gb265, 0, none⟩ = some (.int .i64 E0) := (blk_cell BK265.out 0).trans rfl; have hcz135_1 : w130.cell? ⟨gb265, 1, none⟩ = some (.int .i64 (wrap64 (t266))) := (blk_cell BK265.out 1).trans rfl; have hcz135_2 : w130.cell? ⟨gb265, 2, none⟩ = some (.int .i64 (wrap64 (t267))) := (blk_cell BK265.out 2).trans rfl; have hcz135_3 : w130.cell? ⟨gb265, 3, none⟩ = some (.int .i64 (wrap64 (t268))) := (blk_cell BK265.out 3).trans rfl; have hfz135_0 := blk_frozen BK265.out 0; have hfz135_1 := blk_frozen BK265.out 1; have hfz135_2 := blk_frozen BK265.out 2; have hfz135_3 := blk_frozen BK265.out 3) | ((with_reducible refine gate_callee (f := 15) rfl ?_); refine goesL_ (some 102) rfl rfl Try.func15 (by kernel_rfl) rfl #[.agg #[.int .u64 D0, .int .u64 D1, .int .u64 t260, .int .u64 t261, .int .u64 t262, .int .u64 t263], .agg #[.int .i64 E0, .int .i64 (wrap64 (t266)), .int .i64 (wrap64 (t267)), .int .i64 (wrap64 (t268))], .int .u8 ((x12_1) % 256)] rfl (by (try simp only [List.map_toArray, List.map_cons, List.map_nil]); first | done | rfl | (simp only [List.length_drop, List.length_take]; rfl)) ?_; (with_reducible refine (cost_Worst.calls k1 D0 D1 t260 t261 t262 t263 E0 (wrap64 (t266)) (wrap64 (t267)) (wrap64 (t268)) ((x12_1) % 256) t271 t272 _ A64.out).mono ?_); rintro e w136 ⟨rfl, hb⟩; refine ⟨_, rfl, ?_⟩; have n0_ := Aside0.mk (blk_below (g := gb254) (o := .cells #[.int .u64 D0, .int .u64 D1, .int .u64 D2, .int .u64 D3, .int .u64 D4, .int .u64 D5] 24 (0, 0)) (bk BK254.out) hb); have n1_ := Aside0.mk (blk_below (g := gb255) (o := .cells #[.int .i64 E0, .int .i64 E1, .int .i64 E2, .int .i64 E3] 35 (0, 0)) (bk BK255.out) hb); have n2_ := Aside0.mk (blk_below (g := gb256) (o := .cells #[.int .u64 G0, .int .u64 G1, .int .u64 G2, .int .u64 G3, .int .i64 G4, .int .i64 G5, .int .i64 G6] 42 (0, 0)) (bk BK256.out) hb); have n3_ := Aside0.mk (blk_below (g := gb264) (o := .cells #[.int .u64 D0, .int .u64 D1, .int .u64 t260, .int .u64 t261, .int .u64 t262, .int .u64 t263] 24 (0, 0)) (bk BK264.out) hb); have n4_ := Aside0.mk (blk_below (g := gb265) (o := .cells #[.int .i64 E0, .int .i64 (wrap64 (t266)), .int .i64 (wrap64 (t267)), .int .i64 (wrap64 (t268))] 35 (0, 0)) (bk BK265.out) hb); have n5_ := Aside0.mk (below_step (by repeat (first | (with_reducible first | exact HB.out | apply below_alloc | apply pw_below_drewN | apply below_drew1 | refine below_set ?_ GE254.out | refine below_set ?_ GE255.out | refine below_set ?_ GE256.out | refine below_set ?_ GE264.out | refine below_set ?_ GE265.out) | exact HB.out)) hb); clear BK254; clear BK255; clear BK256; clear BK264; clear BK265; clear HB; have BK254 := n0_; have BK255 := n1_; have BK256 := n2_; have BK264 := n3_; have BK265 := n4_; have HB := n5_; clear n0_ n1_ n2_ n3_ n4_ n5_; (try clear hb); (try clear hb2); (try clear hk); (try clear hi); have hcz137_0 : w136.cell? ⟨gb255, 0, none⟩ = some (.int .i64 E0) := (blk_cell BK255.out 0).trans rfl; have hcz137_1 : w136.cell? ⟨gb255, 1, none⟩ = some (.int .i64 E1) := (blk_cell BK255.out 1).trans rfl; have hcz137_2 : w136.cell? ⟨gb255, 2, none⟩ = some (.int .i64 E2) := (blk_cell BK255.out 2).trans rfl; have hcz137_3 : w136.cell? ⟨gb255, 3, none⟩ = some (.int .i64 E3) := (blk_cell BK255.out 3).trans rfl; have hfz137_0 := blk_frozen BK255.out 0; have hfz137_1 := blk_frozen BK255.out 1; have hfz137_2 := blk_frozen BK255.out 2; have hfz137_3 := blk_frozen BK255.out 3; have hcz138_0 : w136.cell? ⟨gb254, 0, none⟩ = some (.int .u64 D0) := (blk_cell BK254.out 0).trans rfl; have hcz138_1 : w136.cell? ⟨gb254, 1, none⟩ = some (.int .u64 D1) := (blk_cell BK254.out 1).trans rfl; have hcz138_2 : w136.cell? ⟨gb254, 2, none⟩ = some (.int .u64 D2) := (blk_cell BK254.out 2).trans rfl; have hcz138_3 : w136.cell? ⟨gb254, 3, none⟩ = some (.int .u64 D3) := (blk_cell BK254.out 3).trans rfl; have hcz138_4 : w136.cell? ⟨gb254, 4, none⟩ = some (.int .u64 D4) := (blk_cell BK254.out 4).trans rfl; have hcz138_5 : w136.cell? ⟨gb254, 5, none⟩ = some (.int .u64 D5) := (blk_cell BK254.out 5).trans rfl; have hfz138_0 := blk_frozen BK254.out 0; have hfz138_1 := blk_frozen BK254.out 1; have hfz138_2 := blk_frozen BK254.out 2; have hfz138_3 := blk_frozen BK254.out 3; have hfz138_4 := blk_frozen BK254.out 4; have hfz138_5 := blk_frozen BK254.out 5))
                        go_ret
                        exact ⟨by first | rfl | (simp [errW_none, errW_some] <;> rfl) | (simp only [← hji12, ← hji14, ← hji16]; first | rfl | (simp [errW_none, errW_some] <;> rfl)) | (simp [*, errW_none, errW_some] <;> rfl), by repeat (first | (with_reducible first | exact HB.out | apply below_alloc | apply pw_below_drewN | apply below_drew1 | refine below_set ?_ GE254.out | refine below_set ?_ GE255.out | refine below_set ?_ GE256.out | refine below_set ?_ GE264.out | refine below_set ?_ GE265.out) | exact HB.out)⟩
                      · rw [if_neg c120] at H
                        have c120b0 : decide (1099511627776 ≤ t271) = false := decide_eq_false c120
                        clear c120
                        by_cases c139 : x11_1 = true
                        · subst c139
                          have H1 : (Lw.l0 k1 t258 true (wrap64 (x12_1 + 1)) D0 D1 D2 D3 D4 D5 E0 E1 E2 E3 D0 D1 t260 t261 t262 t263 E0 (wrap64 (t266)) (wrap64 (t267)) (wrap64 (t268))) = some r := by rw [if_pos rfl] at H; exact H
                          clear H
                          have H := H1
                          clear H1
                          have H' := Aside0.mk H
                          clear H
                          have hnb140 := NB254_255.out
                          have hnc140 := NB255_254.out
                          have hnb141 := NB254_256.out
                          have hnc141 := NB256_254.out
                          have hnb142 := NB254_264.out
                          have hnc142 := NB264_254.out
                          have hnb143 := NB254_265.out
                          have hnc143 := NB265_254.out
                          have hcz144_0 : wr.cell? ⟨gb254, 0, none⟩ = some (.int .u64 D0) := (blk_cell BK254.out 0).trans rfl
                          have hcz144_1 : wr.cell? ⟨gb254, 1, none⟩ = some (.int .u64 D1) := (blk_cell BK254.out 1).trans rfl
                          have hcz144_2 : wr.cell? ⟨gb254, 2, none⟩ = some (.int .u64 D2) := (blk_cell BK254.out 2).trans rfl
                          have hcz144_3 : wr.cell? ⟨gb254, 3, none⟩ = some (.int .u64 D3) := (blk_cell BK254.out 3).trans rfl
                          have hcz144_4 : wr.cell? ⟨gb254, 4, none⟩ = some (.int .u64 D4) := (blk_cell BK254.out 4).trans rfl
                          have hcz144_5 : wr.cell? ⟨gb254, 5, none⟩ = some (.int .u64 D5) := (blk_cell BK254.out 5).trans rfl
                          have hfz144_0 := blk_frozen BK254.out 0
                          have hfz144_1 := blk_frozen BK254.out 1
                          have hfz144_2 := blk_frozen BK254.out 2
                          have hfz144_3 := blk_frozen BK254.out 3
                          have hfz144_4 := blk_frozen BK254.out 4
                          have hfz144_5 := blk_frozen BK254.out 5
                          have hnb145 := NB255_256.out
                          have hnc145 := NB256_255.out
                          have hnb146 := NB255_264.out
                          have hnc146 := NB264_255.out
                          have hnb147 := NB255_265.out
                          have hnc147 := NB265_255.out
                          have hcz148_0 : wr.cell? ⟨gb255, 0, none⟩ = some (.int .i64 E0) := (blk_cell BK255.out 0).trans rfl
                          have hcz148_1 : wr.cell? ⟨gb255, 1, none⟩ = some (.int .i64 E1) := (blk_cell BK255.out 1).trans rfl
                          have hcz148_2 : wr.cell? ⟨gb255, 2, none⟩ = some (.int .i64 E2) := (blk_cell BK255.out 2).trans rfl
                          have hcz148_3 : wr.cell? ⟨gb255, 3, none⟩ = some (.int .i64 E3) := (blk_cell BK255.out 3).trans rfl
                          have hfz148_0 := blk_frozen BK255.out 0
                          have hfz148_1 := blk_frozen BK255.out 1
                          have hfz148_2 := blk_frozen BK255.out 2
                          have hfz148_3 := blk_frozen BK255.out 3
                          go_wp2_with (first | ((with_reducible refine gate_callee (f := 15) rfl ?_); refine goesL_ (some 94) rfl rfl Try.func15 (by kernel_rfl) rfl #[.agg #[.int .u64 D0, .int .u64 D1, .int .u64 D2, .int .u64 D3, .int .u64 D4, .int .u64 D5], .agg #[.int .i64 E0, .int .i64 E1, .int .i64 E2, .int .i64 E3], .int .u8 ((x12_1) % 256)] rfl (by (try simp only [List.map_toArray, List.map_cons, List.map_nil]); first | done | rfl | (simp only [List.length_drop, List.length_take]; rfl)) ?_; (with_reducible refine (cost_Worst.calls k1 D0 D1 D2 D3 D4 D5 E0 E1 E2 E3 ((x12_1) % 256) t269 t270 _ A63.out).mono ?_); rintro e w149 ⟨rfl, hb⟩; refine ⟨_, rfl, ?_⟩; have n0_ := Aside0.mk (blk_below (g := gb254) (o := .cells #[.int .u64 D0, .int .u64 D1, .int .u64 D2, .int .u64 D3, .int .u64 D4, .int .u64 D5] 24 (0, 0)) (bk BK254.out) hb); have n1_ := Aside0.mk (blk_below (g := gb255) (o := .cells #[.int .i64 E0, .int .i64 E1, .int .i64 E2, .int .i64 E3] 35 (0, 0)) (bk BK255.out) hb); have n2_ := Aside0.mk (blk_below (g := gb256) (o := .cells #[.int .u64 G0, .int .u64 G1, .int .u64 G2, .int .u64 G3, .int .i64 G4, .int .i64 G5, .int .i64 G6] 42 (0, 0)) (bk BK256.out) hb); have n3_ := Aside0.mk (blk_below (g := gb264) (o := .cells #[.int .u64 D0, .int .u64 D1, .int .u64 t260, .int .u64 t261, .int .u64 t262, .int .u64 t263] 24 (0, 0)) (bk BK264.out) hb); have n4_ := Aside0.mk (blk_below (g := gb265) (o := .cells #[.int .i64 E0, .int .i64 (wrap64 (t266)), .int .i64 (wrap64 (t267)), .int .i64 (wrap64 (t268))] 35 (0, 0)) (bk BK265.out) hb); have n5_ := Aside0.mk (below_step (by repeat (first | (with_reducible first | exact HB.out | apply below_alloc | apply pw_below_drewN | apply below_drew1 | refine below_set ?_ GE254.out | refine below_set ?_ GE255.out | refine below_set ?_ GE256.out | refine below_set ?_ GE264.out | refine below_set ?_ GE265.out) | exact HB.out)) hb); clear BK254; clear BK255; clear BK256; clear BK264; clear BK265; clear HB; have BK254 := n0_; have BK255 := n1_; have BK256 := n2_; have BK264 := n3_; have BK265 := n4_; have HB := n5_; clear n0_ n1_ n2_ n3_ n4_ n5_; (try clear hb); (try clear hb2); (try clear hk); (try clear hi); have hnb150 := NB264_256.out; have hnc150 := NB256_264.out; have hnb151 := NB264_265.out; have hnc151 := NB265_264.out; have hcz152_0 : w149.cell? ⟨gb264, 0, none⟩ = some (.int .u64 D0) := (blk_cell BK264.out 0).trans rfl; have hcz152_1 : w149.cell? ⟨gb264, 1, none⟩ = some (.int .u64 D1) := (blk_cell BK264.out 1).trans rfl; have hcz152_2 : w149.cell? ⟨gb264, 2, none⟩ = some (.int .u64 t260) := (blk_cell BK264.out 2).trans rfl; have hcz152_3 : w149.cell? ⟨gb264, 3, none⟩ = some (.int .u64 t261) := (blk_cell BK264.out 3).trans rfl; have hcz152_4 : w149.cell? ⟨gb264, 4, none⟩ = some (.int .u64 t262) := (blk_cell BK264.out 4).trans rfl; have hcz152_5 : w149.cell? ⟨gb264, 5, none⟩ = some (.int .u64 t263) := (blk_cell BK264.out 5).trans rfl; have hfz152_0 := blk_frozen BK264.out 0; have hfz152_1 := blk_frozen BK264.out 1; have hfz152_2 := blk_frozen BK264.out 2; have hfz152_3 := blk_frozen BK264.out 3; have hfz152_4 := blk_frozen BK264.out 4; have hfz152_5 := blk_frozen BK264.out 5; have hnb153 := NB265_256.out; have hnc153 := NB256_265.out; have hcz154_0 : w149.cell? ⟨gb265, 0, none⟩ = some (.int .i64 E0) := (blk_cell BK265.out 0).trans rfl; have hcz154_1 : w149.cell? ⟨gb265, 1, none⟩ = some (.int .i64 (wrap64 (t266))) := (blk_cell BK265.out 1).trans rfl; have hcz154_2 : w149.cell? ⟨gb265, 2, none⟩ = some (.int .i64 (wrap64 (t267))) := (blk_cell BK265.out 2).trans rfl; have hcz154_3 : w149.cell? ⟨gb265, 3, none⟩ = some (.int .i64 (wrap64 (t268))) := (blk_cell BK265.out 3).trans rfl; have hfz154_0 := blk_frozen BK265.out 0; have hfz154_1 := blk_frozen BK265.out 1; have hfz154_2 := blk_frozen BK265.out 2; have hfz154_3 := blk_frozen BK265.out 3) | ((with_reducible refine gate_callee (f := 15) rfl ?_); refine goesL_ (some 102) rfl rfl Try.func15 (by kernel_rfl) rfl #[.agg #[.int .u64 D0, .int .u64 D1, .int .u64 t260, .int .u64 t261, .int .u64 t262, .int .u64 t263], .agg #[.int .i64 E0, .int .i64 (wrap64 (t266)), .int .i64 (wrap64 (t267)), .int .i64 (wrap64 (t268))], .int .u8 ((x12_1) % 256)] rfl (by (try simp only [List.map_toArray, List.map_cons, List.map_nil]); first | done | rfl | (simp only [List.length_drop, List.length_take]; rfl)) ?_; (with_reducible refine (cost_Worst.calls k1 D0 D1 t260 t261 t262 t263 E0 (wrap64 (t266)) (wrap64 (t267)) (wrap64 (t268)) ((x12_1) % 256) t271 t272 _ A64.out).mono ?_); rintro e w155 ⟨rfl, hb⟩; refine ⟨_, rfl, ?_⟩; have n0_ := Aside0.mk (blk_below (g := gb254) (o := .cells #[.int .u64 D0, .int .u64 D1, .int .u64 D2, .int .u64 D3, .int .u64 D4, .int .u64 D5] 24 (0, 0)) (bk BK254.out) hb); have n1_ := Aside0.mk (blk_below (g := gb255) (o := .cells #[.int .i64 E0, .int .i64 E1, .int .i64 E2, .int .i64 E3] 35 (0, 0)) (bk BK255.out) hb); have n2_ := Aside0.mk (blk_below (g := gb256) (o := .cells #[.int .u64 G0, .int .u64 G1, .int .u64 G2, .int .u64 G3, .int .i64 G4, .int .i64 G5, .int .i64 G6] 42 (0, 0)) (bk BK256.out) hb); have n3_ := Aside0.mk (blk_below (g := gb264) (o := .cells #[.int .u64 D0, .int .u64 D1, .int .u64 t260, .int .u64 t261, .int .u64 t262, .int .u64 t263] 24 (0, 0)) (bk BK264.out) hb); have n4_ := Aside0.mk (blk_below (g := gb265) (o := .cells #[.int .i64 E0, .int .i64 (wrap64 (t266)), .int .i64 (wrap64 (t267)), .int .i64 (wrap64 (t268))] 35 (0, 0)) (bk BK265.out) hb); have n5_ := Aside0.mk (below_step (by repeat (first | (with_reducible first | exact HB.out | apply below_alloc | apply pw_below_drewN | apply below_drew1 | refine below_set ?_ GE254.out | refine below_set ?_ GE255.out | refine below_set ?_ GE256.out | refine below_set ?_ GE264.out | refine below_set ?_ GE265.out) | exact HB.out)) hb); clear BK254; clear BK255; clear BK256; clear BK264; clear BK265; clear HB; have BK254 := n0_; have BK255 := n1_; have BK256 := n2_; have BK264 := n3_; have BK265 := n4_; have HB := n5_; clear n0_ n1_ n2_ n3_ n4_ n5_; (try clear hb); (try clear hb2); (try clear hk); (try clear hi); have hcz156_0 : w155.cell? ⟨gb255, 0, none⟩ = some (.int .i64 E0) := (blk_cell BK255.out 0).trans rfl; have hcz156_1 : w155.cell? ⟨gb255, 1, none⟩ = some (.int .i64 E1) := (blk_cell BK255.out 1).trans rfl; have hcz156_2 : w155.cell? ⟨gb255, 2, none⟩ = some (.int .i64 E2) := (blk_cell BK255.out 2).trans rfl; have hcz156_3 : w155.cell? ⟨gb255, 3, none⟩ = some (.int .i64 E3) := (blk_cell BK255.out 3).trans rfl; have hfz156_0 := blk_frozen BK255.out 0; have hfz156_1 := blk_frozen BK255.out 1; have hfz156_2 := blk_frozen BK255.out 2; have hfz156_3 := blk_frozen BK255.out 3; have hcz157_0 : w155.cell? ⟨gb254, 0, none⟩ = some (.int .u64 D0) := (blk_cell BK254.out 0).trans rfl; have hcz157_1 : w155.cell? ⟨gb254, 1, none⟩ = some (.int .u64 D1) := (blk_cell BK254.out 1).trans rfl; have hcz157_2 : w155.cell? ⟨gb254, 2, none⟩ = some (.int .u64 D2) := (blk_cell BK254.out 2).trans rfl; have hcz157_3 : w155.cell? ⟨gb254, 3, none⟩ = some (.int .u64 D3) := (blk_cell BK254.out 3).trans rfl; have hcz157_4 : w155.cell? ⟨gb254, 4, none⟩ = some (.int .u64 D4) := (blk_cell BK254.out 4).trans rfl; have hcz157_5 : w155.cell? ⟨gb254, 5, none⟩ = some (.int .u64 D5) := (blk_cell BK254.out 5).trans rfl; have hfz157_0 := blk_frozen BK254.out 0; have hfz157_1 := blk_frozen BK254.out 1; have hfz157_2 := blk_frozen BK254.out 2; have hfz157_3 := blk_frozen BK254.out 3; have hfz157_4 := blk_frozen BK254.out 4; have hfz157_5 := blk_frozen BK254.out 5))
                          go_roundg k1
                          case measure => have := HK1.out; omega
                          case rel => exact ⟨(true), (wrap64 (x12_1 + 1)), (by first | rfl | (simp; done) | (simp [*]; done)), (by first | rfl | (simp; done) | (simp [*]; done)), H', ⟨by have := HK1.out; omega⟩, ⟨by (with_reducible repeat (first | refine blk_drewN ?_ _ | refine blk_drew ?_ | refine blk_alloc ?_ _)); exact BK254.out⟩, ⟨by (with_reducible repeat (first | refine blk_drewN ?_ _ | refine blk_drew ?_ | refine blk_alloc ?_ _)); exact BK255.out⟩, ⟨by (with_reducible repeat (first | refine blk_drewN ?_ _ | refine blk_drew ?_ | refine blk_alloc ?_ _)); exact BK256.out⟩, ⟨by (with_reducible repeat (first | refine blk_drewN ?_ _ | refine blk_drew ?_ | refine blk_alloc ?_ _)); exact BK264.out⟩, ⟨by (with_reducible repeat (first | refine blk_drewN ?_ _ | refine blk_drew ?_ | refine blk_alloc ?_ _)); exact BK265.out⟩, ⟨by repeat (first | (with_reducible first | exact HB.out | apply below_alloc | apply pw_below_drewN | apply below_drew1 | refine below_set ?_ GE254.out | refine below_set ?_ GE255.out | refine below_set ?_ GE256.out | refine below_set ?_ GE264.out | refine below_set ?_ GE265.out) | exact HB.out)⟩⟩
                        · replace c139 := Bool.eq_false_iff.mpr c139
                          subst c139
                          have H1 : (Lw.l0 k1 t258 (t269 == t258) (wrap64 (x12_1 + 1)) D0 D1 D2 D3 D4 D5 E0 E1 E2 E3 D0 D1 t260 t261 t262 t263 E0 (wrap64 (t266)) (wrap64 (t267)) (wrap64 (t268))) = some r := by rw [if_neg (show ¬ (false = true) by decide)] at H; exact H
                          clear H
                          have H := H1
                          clear H1
                          have H' := Aside0.mk H
                          clear H
                          have hnb158 := NB254_255.out
                          have hnc158 := NB255_254.out
                          have hnb159 := NB254_256.out
                          have hnc159 := NB256_254.out
                          have hnb160 := NB254_264.out
                          have hnc160 := NB264_254.out
                          have hnb161 := NB254_265.out
                          have hnc161 := NB265_254.out
                          have hcz162_0 : wr.cell? ⟨gb254, 0, none⟩ = some (.int .u64 D0) := (blk_cell BK254.out 0).trans rfl
                          have hcz162_1 : wr.cell? ⟨gb254, 1, none⟩ = some (.int .u64 D1) := (blk_cell BK254.out 1).trans rfl
                          have hcz162_2 : wr.cell? ⟨gb254, 2, none⟩ = some (.int .u64 D2) := (blk_cell BK254.out 2).trans rfl
                          have hcz162_3 : wr.cell? ⟨gb254, 3, none⟩ = some (.int .u64 D3) := (blk_cell BK254.out 3).trans rfl
                          have hcz162_4 : wr.cell? ⟨gb254, 4, none⟩ = some (.int .u64 D4) := (blk_cell BK254.out 4).trans rfl
                          have hcz162_5 : wr.cell? ⟨gb254, 5, none⟩ = some (.int .u64 D5) := (blk_cell BK254.out 5).trans rfl
                          have hfz162_0 := blk_frozen BK254.out 0
                          have hfz162_1 := blk_frozen BK254.out 1
                          have hfz162_2 := blk_frozen BK254.out 2
                          have hfz162_3 := blk_frozen BK254.out 3
                          have hfz162_4 := blk_frozen BK254.out 4
                          have hfz162_5 := blk_frozen BK254.out 5
                          have hnb163 := NB255_256.out
                          have hnc163 := NB256_255.out
                          have hnb164 := NB255_264.out
                          have hnc164 := NB264_255.out
                          have hnb165 := NB255_265.out
                          have hnc165 := NB265_255.out
                          have hcz166_0 : wr.cell? ⟨gb255, 0, none⟩ = some (.int .i64 E0) := (blk_cell BK255.out 0).trans rfl
                          have hcz166_1 : wr.cell? ⟨gb255, 1, none⟩ = some (.int .i64 E1) := (blk_cell BK255.out 1).trans rfl
                          have hcz166_2 : wr.cell? ⟨gb255, 2, none⟩ = some (.int .i64 E2) := (blk_cell BK255.out 2).trans rfl
                          have hcz166_3 : wr.cell? ⟨gb255, 3, none⟩ = some (.int .i64 E3) := (blk_cell BK255.out 3).trans rfl
                          have hfz166_0 := blk_frozen BK255.out 0
                          have hfz166_1 := blk_frozen BK255.out 1
                          have hfz166_2 := blk_frozen BK255.out 2
                          have hfz166_3 := blk_frozen BK255.out 3
                          go_wp2_with (first | ((with_reducible refine gate_callee (f := 15) rfl ?_); refine goesL_ (some 94) rfl rfl Try.func15 (by kernel_rfl) rfl #[.agg #[.int .u64 D0, .int .u64 D1, .int .u64 D2, .int .u64 D3, .int .u64 D4, .int .u64 D5], .agg #[.int .i64 E0, .int .i64 E1, .int .i64 E2, .int .i64 E3], .int .u8 ((x12_1) % 256)] rfl (by (try simp only [List.map_toArray, List.map_cons, List.map_nil]); first | done | rfl | (simp only [List.length_drop, List.length_take]; rfl)) ?_; (with_reducible refine (cost_Worst.calls k1 D0 D1 D2 D3 D4 D5 E0 E1 E2 E3 ((x12_1) % 256) t269 t270 _ A63.out).mono ?_); rintro e w167 ⟨rfl, hb⟩; refine ⟨_, rfl, ?_⟩; have n0_ := Aside0.mk (blk_below (g := gb254) (o := .cells #[.int .u64 D0, .int .u64 D1, .int .u64 D2, .int .u64 D3, .int .u64 D4, .int .u64 D5] 24 (0, 0)) (bk BK254.out) hb); have n1_ := Aside0.mk (blk_below (g := gb255) (o := .cells #[.int .i64 E0, .int .i64 E1, .int .i64 E2, .int .i64 E3] 35 (0, 0)) (bk BK255.out) hb); have n2_ := Aside0.mk (blk_below (g := gb256) (o := .cells #[.int .u64 G0, .int .u64 G1, .int .u64 G2, .int .u64 G3, .int .i64 G4, .int .i64 G5, .int .i64 G6] 42 (0, 0)) (bk BK256.out) hb); have n3_ := Aside0.mk (blk_below (g := gb264) (o := .cells #[.int .u64 D0, .int .u64 D1, .int .u64 t260, .int .u64 t261, .int .u64 t262, .int .u64 t263] 24 (0, 0)) (bk BK264.out) hb); have n4_ := Aside0.mk (blk_below (g := gb265) (o := .cells #[.int .i64 E0, .int .i64 (wrap64 (t266)), .int .i64 (wrap64 (t267)), .int .i64 (wrap64 (t268))] 35 (0, 0)) (bk BK265.out) hb); have n5_ := Aside0.mk (below_step (by repeat (first | (with_reducible first | exact HB.out | apply below_alloc | apply pw_below_drewN | apply below_drew1 | refine below_set ?_ GE254.out | refine below_set ?_ GE255.out | refine below_set ?_ GE256.out | refine below_set ?_ GE264.out | refine below_set ?_ GE265.out) | exact HB.out)) hb); clear BK254; clear BK255; clear BK256; clear BK264; clear BK265; clear HB; have BK254 := n0_; have BK255 := n1_; have BK256 := n2_; have BK264 := n3_; have BK265 := n4_; have HB := n5_; clear n0_ n1_ n2_ n3_ n4_ n5_; (try clear hb); (try clear hb2); (try clear hk); (try clear hi); have hnb168 := NB264_256.out; have hnc168 := NB256_264.out; have hnb169 := NB264_265.out; have hnc169 := NB265_264.out; have hcz170_0 : w167.cell? ⟨gb264, 0, none⟩ = some (.int .u64 D0) := (blk_cell BK264.out 0).trans rfl; have hcz170_1 : w167.cell? ⟨gb264, 1, none⟩ = some (.int .u64 D1) := (blk_cell BK264.out 1).trans rfl; have hcz170_2 : w167.cell? ⟨gb264, 2, none⟩ = some (.int .u64 t260) := (blk_cell BK264.out 2).trans rfl; have hcz170_3 : w167.cell? ⟨gb264, 3, none⟩ = some (.int .u64 t261) := (blk_cell BK264.out 3).trans rfl; have hcz170_4 : w167.cell? ⟨gb264, 4, none⟩ = some (.int .u64 t262) := (blk_cell BK264.out 4).trans rfl; have hcz170_5 : w167.cell? ⟨gb264, 5, none⟩ = some (.int .u64 t263) := (blk_cell BK264.out 5).trans rfl; have hfz170_0 := blk_frozen BK264.out 0; have hfz170_1 := blk_frozen BK264.out 1; have hfz170_2 := blk_frozen BK264.out 2; have hfz170_3 := blk_frozen BK264.out 3; have hfz170_4 := blk_frozen BK264.out 4; have hfz170_5 := blk_frozen BK264.out 5; have hnb171 := NB265_256.out; have hnc171 := NB256_265.out; have hcz172_0 : w167.cell? ⟨gb265, 0, none⟩ = some (.int .i64 E0) := (blk_cell BK265.out 0).trans rfl; have hcz172_1 : w167.cell? ⟨gb265, 1, none⟩ = some (.int .i64 (wrap64 (t266))) := (blk_cell BK265.out 1).trans rfl; have hcz172_2 : w167.cell? ⟨gb265, 2, none⟩ = some (.int .i64 (wrap64 (t267))) := (blk_cell BK265.out 2).trans rfl; have hcz172_3 : w167.cell? ⟨gb265, 3, none⟩ = some (.int .i64 (wrap64 (t268))) := (blk_cell BK265.out 3).trans rfl; have hfz172_0 := blk_frozen BK265.out 0; have hfz172_1 := blk_frozen BK265.out 1; have hfz172_2 := blk_frozen BK265.out 2; have hfz172_3 := blk_frozen BK265.out 3) | ((with_reducible refine gate_callee (f := 15) rfl ?_); refine goesL_ (some 102) rfl rfl Try.func15 (by kernel_rfl) rfl #[.agg #[.int .u64 D0, .int .u64 D1, .int .u64 t260, .int .u64 t261, .int .u64 t262, .int .u64 t263], .agg #[.int .i64 E0, .int .i64 (wrap64 (t266)), .int .i64 (wrap64 (t267)), .int .i64 (wrap64 (t268))], .int .u8 ((x12_1) % 256)] rfl (by (try simp only [List.map_toArray, List.map_cons, List.map_nil]); first | done | rfl | (simp only [List.length_drop, List.length_take]; rfl)) ?_; (with_reducible refine (cost_Worst.calls k1 D0 D1 t260 t261 t262 t263 E0 (wrap64 (t266)) (wrap64 (t267)) (wrap64 (t268)) ((x12_1) % 256) t271 t272 _ A64.out).mono ?_); rintro e w173 ⟨rfl, hb⟩; refine ⟨_, rfl, ?_⟩; have n0_ := Aside0.mk (blk_below (g := gb254) (o := .cells #[.int .u64 D0, .int .u64 D1, .int .u64 D2, .int .u64 D3, .int .u64 D4, .int .u64 D5] 24 (0, 0)) (bk BK254.out) hb); have n1_ := Aside0.mk (blk_below (g := gb255) (o := .cells #[.int .i64 E0, .int .i64 E1, .int .i64 E2, .int .i64 E3] 35 (0, 0)) (bk BK255.out) hb); have n2_ := Aside0.mk (blk_below (g := gb256) (o := .cells #[.int .u64 G0, .int .u64 G1, .int .u64 G2, .int .u64 G3, .int .i64 G4, .int .i64 G5, .int .i64 G6] 42 (0, 0)) (bk BK256.out) hb); have n3_ := Aside0.mk (blk_below (g := gb264) (o := .cells #[.int .u64 D0, .int .u64 D1, .int .u64 t260, .int .u64 t261, .int .u64 t262, .int .u64 t263] 24 (0, 0)) (bk BK264.out) hb); have n4_ := Aside0.mk (blk_below (g := gb265) (o := .cells #[.int .i64 E0, .int .i64 (wrap64 (t266)), .int .i64 (wrap64 (t267)), .int .i64 (wrap64 (t268))] 35 (0, 0)) (bk BK265.out) hb); have n5_ := Aside0.mk (below_step (by repeat (first | (with_reducible first | exact HB.out | apply below_alloc | apply pw_below_drewN | apply below_drew1 | refine below_set ?_ GE254.out | refine below_set ?_ GE255.out | refine below_set ?_ GE256.out | refine below_set ?_ GE264.out | refine below_set ?_ GE265.out) | exact HB.out)) hb); clear BK254; clear BK255; clear BK256; clear BK264; clear BK265; clear HB; have BK254 := n0_; have BK255 := n1_; have BK256 := n2_; have BK264 := n3_; have BK265 := n4_; have HB := n5_; clear n0_ n1_ n2_ n3_ n4_ n5_; (try clear hb); (try clear hb2); (try clear hk); (try clear hi); have hcz174_0 : w173.cell? ⟨gb255, 0, none⟩ = some (.int .i64 E0) := (blk_cell BK255.out 0).trans rfl; have hcz174_1 : w173.cell? ⟨gb255, 1, none⟩ = some (.int .i64 E1) := (blk_cell BK255.out 1).trans rfl; have hcz174_2 : w173.cell? ⟨gb255, 2, none⟩ = some (.int .i64 E2) := (blk_cell BK255.out 2).trans rfl; have hcz174_3 : w173.cell? ⟨gb255, 3, none⟩ = some (.int .i64 E3) := (blk_cell BK255.out 3).trans rfl; have hfz174_0 := blk_frozen BK255.out 0; have hfz174_1 := blk_frozen BK255.out 1; have hfz174_2 := blk_frozen BK255.out 2; have hfz174_3 := blk_frozen BK255.out 3; have hcz175_0 : w173.cell? ⟨gb254, 0, none⟩ = some (.int .u64 D0) := (blk_cell BK254.out 0).trans rfl; have hcz175_1 : w173.cell? ⟨gb254, 1, none⟩ = some (.int .u64 D1) := (blk_cell BK254.out 1).trans rfl; have hcz175_2 : w173.cell? ⟨gb254, 2, none⟩ = some (.int .u64 D2) := (blk_cell BK254.out 2).trans rfl; have hcz175_3 : w173.cell? ⟨gb254, 3, none⟩ = some (.int .u64 D3) := (blk_cell BK254.out 3).trans rfl; have hcz175_4 : w173.cell? ⟨gb254, 4, none⟩ = some (.int .u64 D4) := (blk_cell BK254.out 4).trans rfl; have hcz175_5 : w173.cell? ⟨gb254, 5, none⟩ = some (.int .u64 D5) := (blk_cell BK254.out 5).trans rfl; have hfz175_0 := blk_frozen BK254.out 0; have hfz175_1 := blk_frozen BK254.out 1; have hfz175_2 := blk_frozen BK254.out 2; have hfz175_3 := blk_frozen BK254.out 3; have hfz175_4 := blk_frozen BK254.out 4; have hfz175_5 := blk_frozen BK254.out 5))
                          go_roundg k1
                          case measure => have := HK1.out; omega
                          case rel => exact ⟨((t269 == t258)), (wrap64 (x12_1 + 1)), (by first | rfl | (simp; done) | (simp [*]; done)), (by first | rfl | (simp; done) | (simp [*]; done)), H', ⟨by have := HK1.out; omega⟩, ⟨by (with_reducible repeat (first | refine blk_drewN ?_ _ | refine blk_drew ?_ | refine blk_alloc ?_ _)); exact BK254.out⟩, ⟨by (with_reducible repeat (first | refine blk_drewN ?_ _ | refine blk_drew ?_ | refine blk_alloc ?_ _)); exact BK255.out⟩, ⟨by (with_reducible repeat (first | refine blk_drewN ?_ _ | refine blk_drew ?_ | refine blk_alloc ?_ _)); exact BK256.out⟩, ⟨by (with_reducible repeat (first | refine blk_drewN ?_ _ | refine blk_drew ?_ | refine blk_alloc ?_ _)); exact BK264.out⟩, ⟨by (with_reducible repeat (first | refine blk_drewN ?_ _ | refine blk_drew ?_ | refine blk_alloc ?_ _)); exact BK265.out⟩, ⟨by repeat (first | (with_reducible first | exact HB.out | apply below_alloc | apply pw_below_drewN | apply below_drew1 | refine below_set ?_ GE254.out | refine below_set ?_ GE255.out | refine below_set ?_ GE256.out | refine below_set ?_ GE264.out | refine below_set ?_ GE265.out) | exact HB.out)⟩⟩
              · rw [if_neg c66] at H
                have c66b0 : (t272 == 0) = false := beq_eq_false_iff_ne.mpr c66
                have c66b1 : (t272 != 0) = true := bne_iff_ne.mpr c66
                obtain rfl := Option.some.inj H
                have hnb176 := NB254_255.out
                have hnc176 := NB255_254.out
                have hnb177 := NB254_256.out
                have hnc177 := NB256_254.out
                have hnb178 := NB254_264.out
                have hnc178 := NB264_254.out
                have hnb179 := NB254_265.out
                have hnc179 := NB265_254.out
                have hcz180_0 : wr.cell? ⟨gb254, 0, none⟩ = some (.int .u64 D0) := (blk_cell BK254.out 0).trans rfl
                have hcz180_1 : wr.cell? ⟨gb254, 1, none⟩ = some (.int .u64 D1) := (blk_cell BK254.out 1).trans rfl
                have hcz180_2 : wr.cell? ⟨gb254, 2, none⟩ = some (.int .u64 D2) := (blk_cell BK254.out 2).trans rfl
                have hcz180_3 : wr.cell? ⟨gb254, 3, none⟩ = some (.int .u64 D3) := (blk_cell BK254.out 3).trans rfl
                have hcz180_4 : wr.cell? ⟨gb254, 4, none⟩ = some (.int .u64 D4) := (blk_cell BK254.out 4).trans rfl
                have hcz180_5 : wr.cell? ⟨gb254, 5, none⟩ = some (.int .u64 D5) := (blk_cell BK254.out 5).trans rfl
                have hfz180_0 := blk_frozen BK254.out 0
                have hfz180_1 := blk_frozen BK254.out 1
                have hfz180_2 := blk_frozen BK254.out 2
                have hfz180_3 := blk_frozen BK254.out 3
                have hfz180_4 := blk_frozen BK254.out 4
                have hfz180_5 := blk_frozen BK254.out 5
                have hnb181 := NB255_256.out
                have hnc181 := NB256_255.out
                have hnb182 := NB255_264.out
                have hnc182 := NB264_255.out
                have hnb183 := NB255_265.out
                have hnc183 := NB265_255.out
                have hcz184_0 : wr.cell? ⟨gb255, 0, none⟩ = some (.int .i64 E0) := (blk_cell BK255.out 0).trans rfl
                have hcz184_1 : wr.cell? ⟨gb255, 1, none⟩ = some (.int .i64 E1) := (blk_cell BK255.out 1).trans rfl
                have hcz184_2 : wr.cell? ⟨gb255, 2, none⟩ = some (.int .i64 E2) := (blk_cell BK255.out 2).trans rfl
                have hcz184_3 : wr.cell? ⟨gb255, 3, none⟩ = some (.int .i64 E3) := (blk_cell BK255.out 3).trans rfl
                have hfz184_0 := blk_frozen BK255.out 0
                have hfz184_1 := blk_frozen BK255.out 1
                have hfz184_2 := blk_frozen BK255.out 2
                have hfz184_3 := blk_frozen BK255.out 3
                go_wp2_with (first | ((with_reducible refine gate_callee (f := 15) rfl ?_); refine goesL_ (some 94) rfl rfl Try.func15 (by kernel_rfl) rfl #[.agg #[.int .u64 D0, .int .u64 D1, .int .u64 D2, .int .u64 D3, .int .u64 D4, .int .u64 D5], .agg #[.int .i64 E0, .int .i64 E1, .int .i64 E2, .int .i64 E3], .int .u8 ((x12_1) % 256)] rfl (by (try simp only [List.map_toArray, List.map_cons, List.map_nil]); first | done | rfl | (simp only [List.length_drop, List.length_take]; rfl)) ?_; (with_reducible refine (cost_Worst.calls k1 D0 D1 D2 D3 D4 D5 E0 E1 E2 E3 ((x12_1) % 256) t269 t270 _ A63.out).mono ?_); rintro e w185 ⟨rfl, hb⟩; refine ⟨_, rfl, ?_⟩; have n0_ := Aside0.mk (blk_below (g := gb254) (o := .cells #[.int .u64 D0, .int .u64 D1, .int .u64 D2, .int .u64 D3, .int .u64 D4, .int .u64 D5] 24 (0, 0)) (bk BK254.out) hb); have n1_ := Aside0.mk (blk_below (g := gb255) (o := .cells #[.int .i64 E0, .int .i64 E1, .int .i64 E2, .int .i64 E3] 35 (0, 0)) (bk BK255.out) hb); have n2_ := Aside0.mk (blk_below (g := gb256) (o := .cells #[.int .u64 G0, .int .u64 G1, .int .u64 G2, .int .u64 G3, .int .i64 G4, .int .i64 G5, .int .i64 G6] 42 (0, 0)) (bk BK256.out) hb); have n3_ := Aside0.mk (blk_below (g := gb264) (o := .cells #[.int .u64 D0, .int .u64 D1, .int .u64 t260, .int .u64 t261, .int .u64 t262, .int .u64 t263] 24 (0, 0)) (bk BK264.out) hb); have n4_ := Aside0.mk (blk_below (g := gb265) (o := .cells #[.int .i64 E0, .int .i64 (wrap64 (t266)), .int .i64 (wrap64 (t267)), .int .i64 (wrap64 (t268))] 35 (0, 0)) (bk BK265.out) hb); have n5_ := Aside0.mk (below_step (by repeat (first | (with_reducible first | exact HB.out | apply below_alloc | apply pw_below_drewN | apply below_drew1 | refine below_set ?_ GE254.out | refine below_set ?_ GE255.out | refine below_set ?_ GE256.out | refine below_set ?_ GE264.out | refine below_set ?_ GE265.out) | exact HB.out)) hb); clear BK254; clear BK255; clear BK256; clear BK264; clear BK265; clear HB; have BK254 := n0_; have BK255 := n1_; have BK256 := n2_; have BK264 := n3_; have BK265 := n4_; have HB := n5_; clear n0_ n1_ n2_ n3_ n4_ n5_; (try clear hb); (try clear hb2); (try clear hk); (try clear hi); have hnb186 := NB264_256.out; have hnc186 := NB256_264.out; have hnb187 := NB264_265.out; have hnc187 := NB265_264.out; have hcz188_0 : w185.cell? ⟨gb264, 0, none⟩ = some (.int .u64 D0) := (blk_cell BK264.out 0).trans rfl; have hcz188_1 : w185.cell? ⟨gb264, 1, none⟩ = some (.int .u64 D1) := (blk_cell BK264.out 1).trans rfl; have hcz188_2 : w185.cell? ⟨gb264, 2, none⟩ = some (.int .u64 t260) := (blk_cell BK264.out 2).trans rfl; have hcz188_3 : w185.cell? ⟨gb264, 3, none⟩ = some (.int .u64 t261) := (blk_cell BK264.out 3).trans rfl; have hcz188_4 : w185.cell? ⟨gb264, 4, none⟩ = some (.int .u64 t262) := (blk_cell BK264.out 4).trans rfl; have hcz188_5 : w185.cell? ⟨gb264, 5, none⟩ = some (.int .u64 t263) := (blk_cell BK264.out 5).trans rfl; have hfz188_0 := blk_frozen BK264.out 0; have hfz188_1 := blk_frozen BK264.out 1; have hfz188_2 := blk_frozen BK264.out 2; have hfz188_3 := blk_frozen BK264.out 3; have hfz188_4 := blk_frozen BK264.out 4; have hfz188_5 := blk_frozen BK264.out 5; have hnb189 := NB265_256.out; have hnc189 := NB256_265.out; have hcz190_0 : w185.cell? ⟨gb265, 0, none⟩ = some (.int .i64 E0) := (blk_cell BK265.out 0).trans rfl; have hcz190_1 : w185.cell? ⟨gb265, 1, none⟩ = some (.int .i64 (wrap64 (t266))) := (blk_cell BK265.out 1).trans rfl; have hcz190_2 : w185.cell? ⟨gb265, 2, none⟩ = some (.int .i64 (wrap64 (t267))) := (blk_cell BK265.out 2).trans rfl; have hcz190_3 : w185.cell? ⟨gb265, 3, none⟩ = some (.int .i64 (wrap64 (t268))) := (blk_cell BK265.out 3).trans rfl; have hfz190_0 := blk_frozen BK265.out 0; have hfz190_1 := blk_frozen BK265.out 1; have hfz190_2 := blk_frozen BK265.out 2; have hfz190_3 := blk_frozen BK265.out 3) | ((with_reducible refine gate_callee (f := 15) rfl ?_); refine goesL_ (some 102) rfl rfl Try.func15 (by kernel_rfl) rfl #[.agg #[.int .u64 D0, .int .u64 D1, .int .u64 t260, .int .u64 t261, .int .u64 t262, .int .u64 t263], .agg #[.int .i64 E0, .int .i64 (wrap64 (t266)), .int .i64 (wrap64 (t267)), .int .i64 (wrap64 (t268))], .int .u8 ((x12_1) % 256)] rfl (by (try simp only [List.map_toArray, List.map_cons, List.map_nil]); first | done | rfl | (simp only [List.length_drop, List.length_take]; rfl)) ?_; (with_reducible refine (cost_Worst.calls k1 D0 D1 t260 t261 t262 t263 E0 (wrap64 (t266)) (wrap64 (t267)) (wrap64 (t268)) ((x12_1) % 256) t271 t272 _ A64.out).mono ?_); rintro e w191 ⟨rfl, hb⟩; refine ⟨_, rfl, ?_⟩; have n0_ := Aside0.mk (blk_below (g := gb254) (o := .cells #[.int .u64 D0, .int .u64 D1, .int .u64 D2, .int .u64 D3, .int .u64 D4, .int .u64 D5] 24 (0, 0)) (bk BK254.out) hb); have n1_ := Aside0.mk (blk_below (g := gb255) (o := .cells #[.int .i64 E0, .int .i64 E1, .int .i64 E2, .int .i64 E3] 35 (0, 0)) (bk BK255.out) hb); have n2_ := Aside0.mk (blk_below (g := gb256) (o := .cells #[.int .u64 G0, .int .u64 G1, .int .u64 G2, .int .u64 G3, .int .i64 G4, .int .i64 G5, .int .i64 G6] 42 (0, 0)) (bk BK256.out) hb); have n3_ := Aside0.mk (blk_below (g := gb264) (o := .cells #[.int .u64 D0, .int .u64 D1, .int .u64 t260, .int .u64 t261, .int .u64 t262, .int .u64 t263] 24 (0, 0)) (bk BK264.out) hb); have n4_ := Aside0.mk (blk_below (g := gb265) (o := .cells #[.int .i64 E0, .int .i64 (wrap64 (t266)), .int .i64 (wrap64 (t267)), .int .i64 (wrap64 (t268))] 35 (0, 0)) (bk BK265.out) hb); have n5_ := Aside0.mk (below_step (by repeat (first | (with_reducible first | exact HB.out | apply below_alloc | apply pw_below_drewN | apply below_drew1 | refine below_set ?_ GE254.out | refine below_set ?_ GE255.out | refine below_set ?_ GE256.out | refine below_set ?_ GE264.out | refine below_set ?_ GE265.out) | exact HB.out)) hb); clear BK254; clear BK255; clear BK256; clear BK264; clear BK265; clear HB; have BK254 := n0_; have BK255 := n1_; have BK256 := n2_; have BK264 := n3_; have BK265 := n4_; have HB := n5_; clear n0_ n1_ n2_ n3_ n4_ n5_; (try clear hb); (try clear hb2); (try clear hk); (try clear hi)))
                go_ret
                exact ⟨by first | rfl | (simp [errW_none, errW_some] <;> rfl) | (simp only [← hji12, ← hji14, ← hji16]; first | rfl | (simp [errW_none, errW_some] <;> rfl)) | (simp [*, errW_none, errW_some] <;> rfl), by repeat (first | (with_reducible first | exact HB.out | apply below_alloc | apply pw_below_drewN | apply below_drew1 | refine below_set ?_ GE254.out | refine below_set ?_ GE255.out | refine below_set ?_ GE256.out | refine below_set ?_ GE264.out | refine below_set ?_ GE265.out) | exact HB.out)⟩
            · rw [if_neg c65] at H
              have c65b0 : (t270 == 0) = false := beq_eq_false_iff_ne.mpr c65
              have c65b1 : (t270 != 0) = true := bne_iff_ne.mpr c65
              obtain rfl := Option.some.inj H
              have hnb192 := NB254_255.out
              have hnc192 := NB255_254.out
              have hnb193 := NB254_256.out
              have hnc193 := NB256_254.out
              have hnb194 := NB254_264.out
              have hnc194 := NB264_254.out
              have hnb195 := NB254_265.out
              have hnc195 := NB265_254.out
              have hcz196_0 : wr.cell? ⟨gb254, 0, none⟩ = some (.int .u64 D0) := (blk_cell BK254.out 0).trans rfl
              have hcz196_1 : wr.cell? ⟨gb254, 1, none⟩ = some (.int .u64 D1) := (blk_cell BK254.out 1).trans rfl
              have hcz196_2 : wr.cell? ⟨gb254, 2, none⟩ = some (.int .u64 D2) := (blk_cell BK254.out 2).trans rfl
              have hcz196_3 : wr.cell? ⟨gb254, 3, none⟩ = some (.int .u64 D3) := (blk_cell BK254.out 3).trans rfl
              have hcz196_4 : wr.cell? ⟨gb254, 4, none⟩ = some (.int .u64 D4) := (blk_cell BK254.out 4).trans rfl
              have hcz196_5 : wr.cell? ⟨gb254, 5, none⟩ = some (.int .u64 D5) := (blk_cell BK254.out 5).trans rfl
              have hfz196_0 := blk_frozen BK254.out 0
              have hfz196_1 := blk_frozen BK254.out 1
              have hfz196_2 := blk_frozen BK254.out 2
              have hfz196_3 := blk_frozen BK254.out 3
              have hfz196_4 := blk_frozen BK254.out 4
              have hfz196_5 := blk_frozen BK254.out 5
              have hnb197 := NB255_256.out
              have hnc197 := NB256_255.out
              have hnb198 := NB255_264.out
              have hnc198 := NB264_255.out
              have hnb199 := NB255_265.out
              have hnc199 := NB265_255.out
              have hcz200_0 : wr.cell? ⟨gb255, 0, none⟩ = some (.int .i64 E0) := (blk_cell BK255.out 0).trans rfl
              have hcz200_1 : wr.cell? ⟨gb255, 1, none⟩ = some (.int .i64 E1) := (blk_cell BK255.out 1).trans rfl
              have hcz200_2 : wr.cell? ⟨gb255, 2, none⟩ = some (.int .i64 E2) := (blk_cell BK255.out 2).trans rfl
              have hcz200_3 : wr.cell? ⟨gb255, 3, none⟩ = some (.int .i64 E3) := (blk_cell BK255.out 3).trans rfl
              have hfz200_0 := blk_frozen BK255.out 0
              have hfz200_1 := blk_frozen BK255.out 1
              have hfz200_2 := blk_frozen BK255.out 2
              have hfz200_3 := blk_frozen BK255.out 3
              go_wp2_with (first | ((with_reducible refine gate_callee (f := 15) rfl ?_); refine goesL_ (some 94) rfl rfl Try.func15 (by kernel_rfl) rfl #[.agg #[.int .u64 D0, .int .u64 D1, .int .u64 D2, .int .u64 D3, .int .u64 D4, .int .u64 D5], .agg #[.int .i64 E0, .int .i64 E1, .int .i64 E2, .int .i64 E3], .int .u8 ((x12_1) % 256)] rfl (by (try simp only [List.map_toArray, List.map_cons, List.map_nil]); first | done | rfl | (simp only [List.length_drop, List.length_take]; rfl)) ?_; (with_reducible refine (cost_Worst.calls k1 D0 D1 D2 D3 D4 D5 E0 E1 E2 E3 ((x12_1) % 256) t269 t270 _ A63.out).mono ?_); rintro e w201 ⟨rfl, hb⟩; refine ⟨_, rfl, ?_⟩; have n0_ := Aside0.mk (blk_below (g := gb254) (o := .cells #[.int .u64 D0, .int .u64 D1, .int .u64 D2, .int .u64 D3, .int .u64 D4, .int .u64 D5] 24 (0, 0)) (bk BK254.out) hb); have n1_ := Aside0.mk (blk_below (g := gb255) (o := .cells #[.int .i64 E0, .int .i64 E1, .int .i64 E2, .int .i64 E3] 35 (0, 0)) (bk BK255.out) hb); have n2_ := Aside0.mk (blk_below (g := gb256) (o := .cells #[.int .u64 G0, .int .u64 G1, .int .u64 G2, .int .u64 G3, .int .i64 G4, .int .i64 G5, .int .i64 G6] 42 (0, 0)) (bk BK256.out) hb); have n3_ := Aside0.mk (blk_below (g := gb264) (o := .cells #[.int .u64 D0, .int .u64 D1, .int .u64 t260, .int .u64 t261, .int .u64 t262, .int .u64 t263] 24 (0, 0)) (bk BK264.out) hb); have n4_ := Aside0.mk (blk_below (g := gb265) (o := .cells #[.int .i64 E0, .int .i64 (wrap64 (t266)), .int .i64 (wrap64 (t267)), .int .i64 (wrap64 (t268))] 35 (0, 0)) (bk BK265.out) hb); have n5_ := Aside0.mk (below_step (by repeat (first | (with_reducible first | exact HB.out | apply below_alloc | apply pw_below_drewN | apply below_drew1 | refine below_set ?_ GE254.out | refine below_set ?_ GE255.out | refine below_set ?_ GE256.out | refine below_set ?_ GE264.out | refine below_set ?_ GE265.out) | exact HB.out)) hb); clear BK254; clear BK255; clear BK256; clear BK264; clear BK265; clear HB; have BK254 := n0_; have BK255 := n1_; have BK256 := n2_; have BK264 := n3_; have BK265 := n4_; have HB := n5_; clear n0_ n1_ n2_ n3_ n4_ n5_; (try clear hb); (try clear hb2); (try clear hk); (try clear hi); have hnb202 := NB264_256.out; have hnc202 := NB256_264.out; have hnb203 := NB264_265.out; have hnc203 := NB265_264.out; have hcz204_0 : w201.cell? ⟨gb264, 0, none⟩ = some (.int .u64 D0) := (blk_cell BK264.out 0).trans rfl; have hcz204_1 : w201.cell? ⟨gb264, 1, none⟩ = some (.int .u64 D1) := (blk_cell BK264.out 1).trans rfl; have hcz204_2 : w201.cell? ⟨gb264, 2, none⟩ = some (.int .u64 t260) := (blk_cell BK264.out 2).trans rfl; have hcz204_3 : w201.cell? ⟨gb264, 3, none⟩ = some (.int .u64 t261) := (blk_cell BK264.out 3).trans rfl; have hcz204_4 : w201.cell? ⟨gb264, 4, none⟩ = some (.int .u64 t262) := (blk_cell BK264.out 4).trans rfl; have hcz204_5 : w201.cell? ⟨gb264, 5, none⟩ = some (.int .u64 t263) := (blk_cell BK264.out 5).trans rfl; have hfz204_0 := blk_frozen BK264.out 0; have hfz204_1 := blk_frozen BK264.out 1; have hfz204_2 := blk_frozen BK264.out 2; have hfz204_3 := blk_frozen BK264.out 3; have hfz204_4 := blk_frozen BK264.out 4; have hfz204_5 := blk_frozen BK264.out 5; have hnb205 := NB265_256.out; have hnc205 := NB256_265.out; have hcz206_0 : w201.cell? ⟨gb265, 0, none⟩ = some (.int .i64 E0) := (blk_cell BK265.out 0).trans rfl; have hcz206_1 : w201.cell? ⟨gb265, 1, none⟩ = some (.int .i64 (wrap64 (t266))) := (blk_cell BK265.out 1).trans rfl; have hcz206_2 : w201.cell? ⟨gb265, 2, none⟩ = some (.int .i64 (wrap64 (t267))) := (blk_cell BK265.out 2).trans rfl; have hcz206_3 : w201.cell? ⟨gb265, 3, none⟩ = some (.int .i64 (wrap64 (t268))) := (blk_cell BK265.out 3).trans rfl; have hfz206_0 := blk_frozen BK265.out 0; have hfz206_1 := blk_frozen BK265.out 1; have hfz206_2 := blk_frozen BK265.out 2; have hfz206_3 := blk_frozen BK265.out 3) | ((with_reducible refine gate_callee (f := 15) rfl ?_); refine goesL_ (some 102) rfl rfl Try.func15 (by kernel_rfl) rfl #[.agg #[.int .u64 D0, .int .u64 D1, .int .u64 t260, .int .u64 t261, .int .u64 t262, .int .u64 t263], .agg #[.int .i64 E0, .int .i64 (wrap64 (t266)), .int .i64 (wrap64 (t267)), .int .i64 (wrap64 (t268))], .int .u8 ((x12_1) % 256)] rfl (by (try simp only [List.map_toArray, List.map_cons, List.map_nil]); first | done | rfl | (simp only [List.length_drop, List.length_take]; rfl)) ?_; (with_reducible refine (cost_Worst.calls k1 D0 D1 t260 t261 t262 t263 E0 (wrap64 (t266)) (wrap64 (t267)) (wrap64 (t268)) ((x12_1) % 256) t271 t272 _ A64.out).mono ?_); rintro e w207 ⟨rfl, hb⟩; refine ⟨_, rfl, ?_⟩; have n0_ := Aside0.mk (blk_below (g := gb254) (o := .cells #[.int .u64 D0, .int .u64 D1, .int .u64 D2, .int .u64 D3, .int .u64 D4, .int .u64 D5] 24 (0, 0)) (bk BK254.out) hb); have n1_ := Aside0.mk (blk_below (g := gb255) (o := .cells #[.int .i64 E0, .int .i64 E1, .int .i64 E2, .int .i64 E3] 35 (0, 0)) (bk BK255.out) hb); have n2_ := Aside0.mk (blk_below (g := gb256) (o := .cells #[.int .u64 G0, .int .u64 G1, .int .u64 G2, .int .u64 G3, .int .i64 G4, .int .i64 G5, .int .i64 G6] 42 (0, 0)) (bk BK256.out) hb); have n3_ := Aside0.mk (blk_below (g := gb264) (o := .cells #[.int .u64 D0, .int .u64 D1, .int .u64 t260, .int .u64 t261, .int .u64 t262, .int .u64 t263] 24 (0, 0)) (bk BK264.out) hb); have n4_ := Aside0.mk (blk_below (g := gb265) (o := .cells #[.int .i64 E0, .int .i64 (wrap64 (t266)), .int .i64 (wrap64 (t267)), .int .i64 (wrap64 (t268))] 35 (0, 0)) (bk BK265.out) hb); have n5_ := Aside0.mk (below_step (by repeat (first | (with_reducible first | exact HB.out | apply below_alloc | apply pw_below_drewN | apply below_drew1 | refine below_set ?_ GE254.out | refine below_set ?_ GE255.out | refine below_set ?_ GE256.out | refine below_set ?_ GE264.out | refine below_set ?_ GE265.out) | exact HB.out)) hb); clear BK254; clear BK255; clear BK256; clear BK264; clear BK265; clear HB; have BK254 := n0_; have BK255 := n1_; have BK256 := n2_; have BK264 := n3_; have BK265 := n4_; have HB := n5_; clear n0_ n1_ n2_ n3_ n4_ n5_; (try clear hb); (try clear hb2); (try clear hk); (try clear hi)))
              go_ret
              exact ⟨by first | rfl | (simp [errW_none, errW_some] <;> rfl) | (simp only [← hji12, ← hji14, ← hji16]; first | rfl | (simp [errW_none, errW_some] <;> rfl)) | (simp [*, errW_none, errW_some] <;> rfl), by repeat (first | (with_reducible first | exact HB.out | apply below_alloc | apply pw_below_drewN | apply below_drew1 | refine below_set ?_ GE254.out | refine below_set ?_ GE255.out | refine below_set ?_ GE256.out | refine below_set ?_ GE264.out | refine below_set ?_ GE265.out) | exact HB.out)⟩
          · rw [if_neg c62] at H
            have c62b0 : decide (x12_1 < 20) = false := decide_eq_false c62
            clear c62
            obtain rfl := Option.some.inj H
            go_wp2
            go_ret
            exact ⟨by first | rfl | (simp [errW_none, errW_some] <;> rfl) | (simp only [← hji12, ← hji14, ← hji16]; first | rfl | (simp [errW_none, errW_some] <;> rfl)) | (simp [*, errW_none, errW_some] <;> rfl), by repeat (first | (with_reducible first | exact HB.out | apply below_alloc | apply pw_below_drewN | apply below_drew1 | refine below_set ?_ GE254.out | refine below_set ?_ GE255.out | refine below_set ?_ GE256.out | refine below_set ?_ GE264.out | refine below_set ?_ GE265.out) | exact HB.out)⟩
    · rw [if_neg c7] at H
      have c7b0 : (t259 == 0) = false := beq_eq_false_iff_ne.mpr c7
      have c7b1 : (t259 != 0) = true := bne_iff_ne.mpr c7
      obtain rfl := Option.some.inj H
      go_enter Try.func6, Try.ntmps6
      go_wp2_with (first | ((with_reducible refine gate_dst (N := 3) rfl ?_); refine box_event ?hg (N := 3) ?hd (cs := #[.int .u64 D0, .int .u64 D1, .int .u64 D2, .int .u64 D3, .int .u64 D4, .int .u64 D5]) (t := 24) ?hr ?_; (case hd => rfl); (case hg => rfl); (case hr => first | (go_simp; done) | (go_simp; rfl)); intro gb254 hg w208 hbox hb; have n0_ := Aside0.mk (below_step (by repeat (first | (with_reducible first | exact HB.out | apply below_alloc | apply pw_below_drewN | apply below_drew1) | exact HB.out)) hb); have n1_ := Aside0.mk (hbox); have n2_ := Aside0.mk ((by rw [hg]; exact (below_size (by repeat (first | (with_reducible first | exact HB.out | apply below_alloc | apply pw_below_drewN | apply below_drew1) | exact HB.out))) : w.heap.size ≤ gb254)); have n3_ := Aside0.mk ((by rw [hg]; exact (below_size (by repeat (first | (with_reducible first | exact HB.out | apply below_alloc | apply pw_below_drewN | apply below_drew1) | exact HB.out))) : w.heap.size ≤ gb254)); clear HB; have HB := n0_; have BK254 := n1_; have GW254 := n2_; have GE254 := n3_; clear n0_ n1_ n2_ n3_; clear hb hbox hg) | ((with_reducible refine gate_dst (N := 4) rfl ?_); refine box_event ?hg (N := 4) ?hd (cs := #[.int .i64 E0, .int .i64 E1, .int .i64 E2, .int .i64 E3]) (t := 35) ?hr ?_; (case hd => rfl); (case hg => rfl); (case hr => first | (go_simp; done) | (go_simp; rfl)); intro gb255 hg w209 hbox hb; have n0_ := Aside0.mk (blk_below (g := gb254) (o := .cells #[.int .u64 D0, .int .u64 D1, .int .u64 D2, .int .u64 D3, .int .u64 D4, .int .u64 D5] 24 (0, 0)) (bk BK254.out) hb); have n1_ := Aside0.mk (below_step (by repeat (first | (with_reducible first | exact HB.out | apply below_alloc | apply pw_below_drewN | apply below_drew1 | refine below_set ?_ GE254.out) | exact HB.out)) hb); have n2_ := Aside0.mk (hbox); have n3_ := Aside0.mk ((by rw [hg]; exact (below_size (by repeat (first | (with_reducible first | exact HB.out | apply below_alloc | apply pw_below_drewN | apply below_drew1 | refine below_set ?_ GE254.out) | exact HB.out))) : w.heap.size ≤ gb255)); have n4_ := Aside0.mk ((by rw [hg]; exact (below_size (by repeat (first | (with_reducible first | exact HB.out | apply below_alloc | apply pw_below_drewN | apply below_drew1 | refine below_set ?_ GE254.out) | exact HB.out))) : w.heap.size ≤ gb255)); have n5_ := Aside0.mk ((by rw [hg]; exact Nat.ne_of_lt (blk_lt (g := gb254) (o := .cells #[.int .u64 D0, .int .u64 D1, .int .u64 D2, .int .u64 D3, .int .u64 D4, .int .u64 D5] 24 (0, 0)) (bk BK254.out)) : gb254 ≠ gb255)); have n6_ := Aside0.mk ((by rw [hg]; exact Nat.ne_of_gt (blk_lt (g := gb254) (o := .cells #[.int .u64 D0, .int .u64 D1, .int .u64 D2, .int .u64 D3, .int .u64 D4, .int .u64 D5] 24 (0, 0)) (bk BK254.out)) : gb255 ≠ gb254)); clear BK254; clear HB; have BK254 := n0_; have HB := n1_; have BK255 := n2_; have GW255 := n3_; have GE255 := n4_; have NB254_255 := n5_; have NB255_254 := n6_; clear n0_ n1_ n2_ n3_ n4_ n5_ n6_; clear hb hbox hg) | ((with_reducible refine gate_dst (N := 5) rfl ?_); refine box_event ?hg (N := 5) ?hd (cs := #[.int .u64 G0, .int .u64 G1, .int .u64 G2, .int .u64 G3, .int .i64 G4, .int .i64 G5, .int .i64 G6]) (t := 42) ?hr ?_; (case hd => rfl); (case hg => rfl); (case hr => first | (go_simp; done) | (go_simp; rfl)); intro gb256 hg w210 hbox hb; have n0_ := Aside0.mk (blk_below (g := gb254) (o := .cells #[.int .u64 D0, .int .u64 D1, .int .u64 D2, .int .u64 D3, .int .u64 D4, .int .u64 D5] 24 (0, 0)) (bk BK254.out) hb); have n1_ := Aside0.mk (blk_below (g := gb255) (o := .cells #[.int .i64 E0, .int .i64 E1, .int .i64 E2, .int .i64 E3] 35 (0, 0)) (bk BK255.out) hb); have n2_ := Aside0.mk (below_step (by repeat (first | (with_reducible first | exact HB.out | apply below_alloc | apply pw_below_drewN | apply below_drew1 | refine below_set ?_ GE254.out | refine below_set ?_ GE255.out) | exact HB.out)) hb); have n3_ := Aside0.mk (hbox); have n4_ := Aside0.mk ((by rw [hg]; exact (below_size (by repeat (first | (with_reducible first | exact HB.out | apply below_alloc | apply pw_below_drewN | apply below_drew1 | refine below_set ?_ GE254.out | refine below_set ?_ GE255.out) | exact HB.out))) : w.heap.size ≤ gb256)); have n5_ := Aside0.mk ((by rw [hg]; exact (below_size (by repeat (first | (with_reducible first | exact HB.out | apply below_alloc | apply pw_below_drewN | apply below_drew1 | refine below_set ?_ GE254.out | refine below_set ?_ GE255.out) | exact HB.out))) : w.heap.size ≤ gb256)); have n6_ := Aside0.mk ((by rw [hg]; exact Nat.ne_of_lt (blk_lt (g := gb254) (o := .cells #[.int .u64 D0, .int .u64 D1, .int .u64 D2, .int .u64 D3, .int .u64 D4, .int .u64 D5] 24 (0, 0)) (bk BK254.out)) : gb254 ≠ gb256)); have n7_ := Aside0.mk ((by rw [hg]; exact Nat.ne_of_gt (blk_lt (g := gb254) (o := .cells #[.int .u64 D0, .int .u64 D1, .int .u64 D2, .int .u64 D3, .int .u64 D4, .int .u64 D5] 24 (0, 0)) (bk BK254.out)) : gb256 ≠ gb254)); have n8_ := Aside0.mk ((by rw [hg]; exact Nat.ne_of_lt (blk_lt (g := gb255) (o := .cells #[.int .i64 E0, .int .i64 E1, .int .i64 E2, .int .i64 E3] 35 (0, 0)) (bk BK255.out)) : gb255 ≠ gb256)); have n9_ := Aside0.mk ((by rw [hg]; exact Nat.ne_of_gt (blk_lt (g := gb255) (o := .cells #[.int .i64 E0, .int .i64 E1, .int .i64 E2, .int .i64 E3] 35 (0, 0)) (bk BK255.out)) : gb256 ≠ gb255)); clear BK254; clear BK255; clear HB; have BK254 := n0_; have BK255 := n1_; have HB := n2_; have BK256 := n3_; have GW256 := n4_; have GE256 := n5_; have NB254_256 := n6_; have NB256_254 := n7_; have NB255_256 := n8_; have NB256_255 := n9_; clear n0_ n1_ n2_ n3_ n4_ n5_ n6_ n7_ n8_ n9_; clear hb hbox hg) | ((with_reducible refine gate_callee (f := 14) rfl ?_); refine goesL_ (some 17) rfl rfl Try.func14 (by kernel_rfl) rfl #[] rfl (by (try simp only [List.map_toArray, List.map_cons, List.map_nil]); first | done | rfl | (simp only [List.length_drop, List.length_take]; rfl)) ?_; (with_reducible refine (cofferdamlaw10_works.calls k  true _ A4.out).mono ?_); rintro e w211 ⟨rfl, hb⟩; refine ⟨_, rfl, ?_⟩; have n0_ := Aside0.mk (blk_below (g := gb254) (o := .cells #[.int .u64 D0, .int .u64 D1, .int .u64 D2, .int .u64 D3, .int .u64 D4, .int .u64 D5] 24 (0, 0)) (bk BK254.out) hb); have n1_ := Aside0.mk (blk_below (g := gb255) (o := .cells #[.int .i64 E0, .int .i64 E1, .int .i64 E2, .int .i64 E3] 35 (0, 0)) (bk BK255.out) hb); have n2_ := Aside0.mk (blk_below (g := gb256) (o := .cells #[.int .u64 G0, .int .u64 G1, .int .u64 G2, .int .u64 G3, .int .i64 G4, .int .i64 G5, .int .i64 G6] 42 (0, 0)) (bk BK256.out) hb); have n3_ := Aside0.mk (below_step (by repeat (first | (with_reducible first | exact HB.out | apply below_alloc | apply pw_below_drewN | apply below_drew1 | refine below_set ?_ GE254.out | refine below_set ?_ GE255.out | refine below_set ?_ GE256.out) | exact HB.out)) hb); clear BK254; clear BK255; clear BK256; clear HB; have BK254 := n0_; have BK255 := n1_; have BK256 := n2_; have HB := n3_; clear n0_ n1_ n2_ n3_; (try clear hb); (try clear hb2); (try clear hk); (try clear hi); have hnb212 := NB254_255.out; have hnc212 := NB255_254.out; have hnb213 := NB254_256.out; have hnc213 := NB256_254.out; have hcz214_0 : w211.cell? ⟨gb254, 0, none⟩ = some (.int .u64 D0) := (blk_cell BK254.out 0).trans rfl; have hcz214_1 : w211.cell? ⟨gb254, 1, none⟩ = some (.int .u64 D1) := (blk_cell BK254.out 1).trans rfl; have hcz214_2 : w211.cell? ⟨gb254, 2, none⟩ = some (.int .u64 D2) := (blk_cell BK254.out 2).trans rfl; have hcz214_3 : w211.cell? ⟨gb254, 3, none⟩ = some (.int .u64 D3) := (blk_cell BK254.out 3).trans rfl; have hcz214_4 : w211.cell? ⟨gb254, 4, none⟩ = some (.int .u64 D4) := (blk_cell BK254.out 4).trans rfl; have hcz214_5 : w211.cell? ⟨gb254, 5, none⟩ = some (.int .u64 D5) := (blk_cell BK254.out 5).trans rfl; have hfz214_0 := blk_frozen BK254.out 0; have hfz214_1 := blk_frozen BK254.out 1; have hfz214_2 := blk_frozen BK254.out 2; have hfz214_3 := blk_frozen BK254.out 3; have hfz214_4 := blk_frozen BK254.out 4; have hfz214_5 := blk_frozen BK254.out 5; have hnb215 := NB255_256.out; have hnc215 := NB256_255.out; have hcz216_0 : w211.cell? ⟨gb255, 0, none⟩ = some (.int .i64 E0) := (blk_cell BK255.out 0).trans rfl; have hcz216_1 : w211.cell? ⟨gb255, 1, none⟩ = some (.int .i64 E1) := (blk_cell BK255.out 1).trans rfl; have hcz216_2 : w211.cell? ⟨gb255, 2, none⟩ = some (.int .i64 E2) := (blk_cell BK255.out 2).trans rfl; have hcz216_3 : w211.cell? ⟨gb255, 3, none⟩ = some (.int .i64 E3) := (blk_cell BK255.out 3).trans rfl; have hfz216_0 := blk_frozen BK255.out 0; have hfz216_1 := blk_frozen BK255.out 1; have hfz216_2 := blk_frozen BK255.out 2; have hfz216_3 := blk_frozen BK255.out 3) | ((with_reducible refine gate_callee (f := 17) rfl ?_); refine goesL_ (some 22) rfl rfl Try.func17 (by kernel_rfl) rfl #[.agg #[.int .u64 D0, .int .u64 D1, .int .u64 D2, .int .u64 D3, .int .u64 D4, .int .u64 D5], .agg #[.int .i64 E0, .int .i64 E1, .int .i64 E2, .int .i64 E3]] rfl (by (try simp only [List.map_toArray, List.map_cons, List.map_nil]); first | done | rfl | (simp only [List.length_drop, List.length_take]; rfl)) ?_; (with_reducible refine (cost_Most.calls k D0 D1 D2 D3 D4 D5 E0 E1 E2 E3 t258 t259 _ A6.out).mono ?_); rintro e w217 ⟨rfl, hb⟩; refine ⟨_, rfl, ?_⟩; have n0_ := Aside0.mk (blk_below (g := gb254) (o := .cells #[.int .u64 D0, .int .u64 D1, .int .u64 D2, .int .u64 D3, .int .u64 D4, .int .u64 D5] 24 (0, 0)) (bk BK254.out) hb); have n1_ := Aside0.mk (blk_below (g := gb255) (o := .cells #[.int .i64 E0, .int .i64 E1, .int .i64 E2, .int .i64 E3] 35 (0, 0)) (bk BK255.out) hb); have n2_ := Aside0.mk (blk_below (g := gb256) (o := .cells #[.int .u64 G0, .int .u64 G1, .int .u64 G2, .int .u64 G3, .int .i64 G4, .int .i64 G5, .int .i64 G6] 42 (0, 0)) (bk BK256.out) hb); have n3_ := Aside0.mk (below_step (by repeat (first | (with_reducible first | exact HB.out | apply below_alloc | apply pw_below_drewN | apply below_drew1 | refine below_set ?_ GE254.out | refine below_set ?_ GE255.out | refine below_set ?_ GE256.out) | exact HB.out)) hb); clear BK254; clear BK255; clear BK256; clear HB; have BK254 := n0_; have BK255 := n1_; have BK256 := n2_; have HB := n3_; clear n0_ n1_ n2_ n3_; (try clear hb); (try clear hb2); (try clear hk); (try clear hi)))
      go_ret
      exact ⟨by first | rfl | (simp [errW_none, errW_some] <;> rfl) | (simp [*, errW_none, errW_some] <;> rfl), by repeat (first | (with_reducible first | exact HB.out | apply below_alloc | apply pw_below_drewN | apply below_drew1 | refine below_set ?_ GE254.out | refine below_set ?_ GE255.out | refine below_set ?_ GE256.out) | exact HB.out)⟩
  · replace c5 := Bool.eq_false_iff.mpr c5
    subst c5
    have H1 : (some false) = some r := by rw [if_neg (show ¬ (false = true) by decide)] at H; exact H
    clear H
    have H := H1
    clear H1
    obtain rfl := Option.some.inj H
    go_enter Try.func6, Try.ntmps6
    go_wp2_with (first | ((with_reducible refine gate_dst (N := 3) rfl ?_); refine box_event ?hg (N := 3) ?hd (cs := #[.int .u64 D0, .int .u64 D1, .int .u64 D2, .int .u64 D3, .int .u64 D4, .int .u64 D5]) (t := 24) ?hr ?_; (case hd => rfl); (case hg => rfl); (case hr => first | (go_simp; done) | (go_simp; rfl)); intro gb254 hg w218 hbox hb; have n0_ := Aside0.mk (below_step (by repeat (first | (with_reducible first | exact HB.out | apply below_alloc | apply pw_below_drewN | apply below_drew1) | exact HB.out)) hb); have n1_ := Aside0.mk (hbox); have n2_ := Aside0.mk ((by rw [hg]; exact (below_size (by repeat (first | (with_reducible first | exact HB.out | apply below_alloc | apply pw_below_drewN | apply below_drew1) | exact HB.out))) : w.heap.size ≤ gb254)); have n3_ := Aside0.mk ((by rw [hg]; exact (below_size (by repeat (first | (with_reducible first | exact HB.out | apply below_alloc | apply pw_below_drewN | apply below_drew1) | exact HB.out))) : w.heap.size ≤ gb254)); clear HB; have HB := n0_; have BK254 := n1_; have GW254 := n2_; have GE254 := n3_; clear n0_ n1_ n2_ n3_; clear hb hbox hg) | ((with_reducible refine gate_dst (N := 4) rfl ?_); refine box_event ?hg (N := 4) ?hd (cs := #[.int .i64 E0, .int .i64 E1, .int .i64 E2, .int .i64 E3]) (t := 35) ?hr ?_; (case hd => rfl); (case hg => rfl); (case hr => first | (go_simp; done) | (go_simp; rfl)); intro gb255 hg w219 hbox hb; have n0_ := Aside0.mk (blk_below (g := gb254) (o := .cells #[.int .u64 D0, .int .u64 D1, .int .u64 D2, .int .u64 D3, .int .u64 D4, .int .u64 D5] 24 (0, 0)) (bk BK254.out) hb); have n1_ := Aside0.mk (below_step (by repeat (first | (with_reducible first | exact HB.out | apply below_alloc | apply pw_below_drewN | apply below_drew1 | refine below_set ?_ GE254.out) | exact HB.out)) hb); have n2_ := Aside0.mk (hbox); have n3_ := Aside0.mk ((by rw [hg]; exact (below_size (by repeat (first | (with_reducible first | exact HB.out | apply below_alloc | apply pw_below_drewN | apply below_drew1 | refine below_set ?_ GE254.out) | exact HB.out))) : w.heap.size ≤ gb255)); have n4_ := Aside0.mk ((by rw [hg]; exact (below_size (by repeat (first | (with_reducible first | exact HB.out | apply below_alloc | apply pw_below_drewN | apply below_drew1 | refine below_set ?_ GE254.out) | exact HB.out))) : w.heap.size ≤ gb255)); have n5_ := Aside0.mk ((by rw [hg]; exact Nat.ne_of_lt (blk_lt (g := gb254) (o := .cells #[.int .u64 D0, .int .u64 D1, .int .u64 D2, .int .u64 D3, .int .u64 D4, .int .u64 D5] 24 (0, 0)) (bk BK254.out)) : gb254 ≠ gb255)); have n6_ := Aside0.mk ((by rw [hg]; exact Nat.ne_of_gt (blk_lt (g := gb254) (o := .cells #[.int .u64 D0, .int .u64 D1, .int .u64 D2, .int .u64 D3, .int .u64 D4, .int .u64 D5] 24 (0, 0)) (bk BK254.out)) : gb255 ≠ gb254)); clear BK254; clear HB; have BK254 := n0_; have HB := n1_; have BK255 := n2_; have GW255 := n3_; have GE255 := n4_; have NB254_255 := n5_; have NB255_254 := n6_; clear n0_ n1_ n2_ n3_ n4_ n5_ n6_; clear hb hbox hg) | ((with_reducible refine gate_dst (N := 5) rfl ?_); refine box_event ?hg (N := 5) ?hd (cs := #[.int .u64 G0, .int .u64 G1, .int .u64 G2, .int .u64 G3, .int .i64 G4, .int .i64 G5, .int .i64 G6]) (t := 42) ?hr ?_; (case hd => rfl); (case hg => rfl); (case hr => first | (go_simp; done) | (go_simp; rfl)); intro gb256 hg w220 hbox hb; have n0_ := Aside0.mk (blk_below (g := gb254) (o := .cells #[.int .u64 D0, .int .u64 D1, .int .u64 D2, .int .u64 D3, .int .u64 D4, .int .u64 D5] 24 (0, 0)) (bk BK254.out) hb); have n1_ := Aside0.mk (blk_below (g := gb255) (o := .cells #[.int .i64 E0, .int .i64 E1, .int .i64 E2, .int .i64 E3] 35 (0, 0)) (bk BK255.out) hb); have n2_ := Aside0.mk (below_step (by repeat (first | (with_reducible first | exact HB.out | apply below_alloc | apply pw_below_drewN | apply below_drew1 | refine below_set ?_ GE254.out | refine below_set ?_ GE255.out) | exact HB.out)) hb); have n3_ := Aside0.mk (hbox); have n4_ := Aside0.mk ((by rw [hg]; exact (below_size (by repeat (first | (with_reducible first | exact HB.out | apply below_alloc | apply pw_below_drewN | apply below_drew1 | refine below_set ?_ GE254.out | refine below_set ?_ GE255.out) | exact HB.out))) : w.heap.size ≤ gb256)); have n5_ := Aside0.mk ((by rw [hg]; exact (below_size (by repeat (first | (with_reducible first | exact HB.out | apply below_alloc | apply pw_below_drewN | apply below_drew1 | refine below_set ?_ GE254.out | refine below_set ?_ GE255.out) | exact HB.out))) : w.heap.size ≤ gb256)); have n6_ := Aside0.mk ((by rw [hg]; exact Nat.ne_of_lt (blk_lt (g := gb254) (o := .cells #[.int .u64 D0, .int .u64 D1, .int .u64 D2, .int .u64 D3, .int .u64 D4, .int .u64 D5] 24 (0, 0)) (bk BK254.out)) : gb254 ≠ gb256)); have n7_ := Aside0.mk ((by rw [hg]; exact Nat.ne_of_gt (blk_lt (g := gb254) (o := .cells #[.int .u64 D0, .int .u64 D1, .int .u64 D2, .int .u64 D3, .int .u64 D4, .int .u64 D5] 24 (0, 0)) (bk BK254.out)) : gb256 ≠ gb254)); have n8_ := Aside0.mk ((by rw [hg]; exact Nat.ne_of_lt (blk_lt (g := gb255) (o := .cells #[.int .i64 E0, .int .i64 E1, .int .i64 E2, .int .i64 E3] 35 (0, 0)) (bk BK255.out)) : gb255 ≠ gb256)); have n9_ := Aside0.mk ((by rw [hg]; exact Nat.ne_of_gt (blk_lt (g := gb255) (o := .cells #[.int .i64 E0, .int .i64 E1, .int .i64 E2, .int .i64 E3] 35 (0, 0)) (bk BK255.out)) : gb256 ≠ gb255)); clear BK254; clear BK255; clear HB; have BK254 := n0_; have BK255 := n1_; have HB := n2_; have BK256 := n3_; have GW256 := n4_; have GE256 := n5_; have NB254_256 := n6_; have NB256_254 := n7_; have NB255_256 := n8_; have NB256_255 := n9_; clear n0_ n1_ n2_ n3_ n4_ n5_ n6_ n7_ n8_ n9_; clear hb hbox hg) | ((with_reducible refine gate_callee (f := 14) rfl ?_); refine goesL_ (some 17) rfl rfl Try.func14 (by kernel_rfl) rfl #[] rfl (by (try simp only [List.map_toArray, List.map_cons, List.map_nil]); first | done | rfl | (simp only [List.length_drop, List.length_take]; rfl)) ?_; (with_reducible refine (cofferdamlaw10_works.calls k  false _ A4.out).mono ?_); rintro e w221 ⟨rfl, hb⟩; refine ⟨_, rfl, ?_⟩; have n0_ := Aside0.mk (blk_below (g := gb254) (o := .cells #[.int .u64 D0, .int .u64 D1, .int .u64 D2, .int .u64 D3, .int .u64 D4, .int .u64 D5] 24 (0, 0)) (bk BK254.out) hb); have n1_ := Aside0.mk (blk_below (g := gb255) (o := .cells #[.int .i64 E0, .int .i64 E1, .int .i64 E2, .int .i64 E3] 35 (0, 0)) (bk BK255.out) hb); have n2_ := Aside0.mk (blk_below (g := gb256) (o := .cells #[.int .u64 G0, .int .u64 G1, .int .u64 G2, .int .u64 G3, .int .i64 G4, .int .i64 G5, .int .i64 G6] 42 (0, 0)) (bk BK256.out) hb); have n3_ := Aside0.mk (below_step (by repeat (first | (with_reducible first | exact HB.out | apply below_alloc | apply pw_below_drewN | apply below_drew1 | refine below_set ?_ GE254.out | refine below_set ?_ GE255.out | refine below_set ?_ GE256.out) | exact HB.out)) hb); clear BK254; clear BK255; clear BK256; clear HB; have BK254 := n0_; have BK255 := n1_; have BK256 := n2_; have HB := n3_; clear n0_ n1_ n2_ n3_; (try clear hb); (try clear hb2); (try clear hk); (try clear hi)))
    go_ret
    exact ⟨by first | rfl | (simp [errW_none, errW_some] <;> rfl) | (simp [*, errW_none, errW_some] <;> rfl), by repeat (first | (with_reducible first | exact HB.out | apply below_alloc | apply pw_below_drewN | apply below_drew1 | refine below_set ?_ GE254.out | refine below_set ?_ GE255.out | refine below_set ?_ GE256.out) | exact HB.out)⟩

end Go.Proofs.Ytpodcbaechlejaa.H
