-- Written by hprint.py, a program of this session's, over the kit's printer.
import Derived.Test.YtkihoeacojcdlaaHx0
import Derived.Test.YtkihoeacojcdlaaHx1
import Derived.Test.YtkihoeacojcdlaaHx2
namespace Go.Proofs.Ytkihoeacojcdlaa.H
open Go.RowKit Go.Proofs.YtkihoeacojcdlaaW.PrintWords Go.Proofs.YtkihoeacojcdlaaW.PrintLast Go.Proofs.YtkihoeacojcdlaaW.PrintMore
attribute [local go_sem] max2_int min2_int max_two min_two max_three min_three max_four min_four   -- for this text's walks alone
set_option linter.unusedVariables false
set_option linter.unusedSimpArgs false

/-! ### cofferdamlaw08_ColourFrames: function 5 -/
mutual
def cofferdamlaw08_ColourFrames.l0 : Nat → Int → Int → List Int → List Int → Int → Option (Bool)
  | 0, _, _, _, _, _ => none
  | k + 1, x0, x1, x2, x7, x8 => if x8 < (x7.length : Int) then (if 0 ≤ x8 then ((some (x7.set (x8 : Int).toNat (-77) : List Int)).bind fun y177 => (if x8 < (x2.length : Int) then (cofferdamlaw08_ColourFrames.l0 k x0 x1 x2 (y177.set (x8 : Int).toNat (rd x2 x8)) (wrap64 (x8 + 1))) else (cofferdamlaw08_ColourFrames.l0 k x0 x1 x2 y177 (wrap64 (x8 + 1))))) else (none)) else (if 0 ≤ (x2.length : Int) then (if (x2.length : Int) ≤ (x7.length : Int) then ((colour_Frames.f x0 x1 (x7.take ((x2.length : Int) : Int).toNat)).bind fun bt184 => ((colour_Frames.f x0 x1 (x7.take ((x2.length : Int) : Int).toNat)).bind fun bt192 => ((cofferdamref08_Frames.f x0 x1 x2).bind fun bt196 => (if bt184.2 = bt196.2 then (if bt192.2 = bt196.2 then ((cofferdamref00_EqInts.f k bt184.1 bt196.1).bind fun t200 => (if t200 = true then ((cofferdamref00_EqInts.f k (x7.take ((x2.length : Int) : Int).toNat) x2).bind fun t205 => (if t205 = true then (if (x2.length : Int) < (x7.length : Int) then (if (rd x7 (x2.length : Int)) = (-77) then (if 0 ≤ (wrap64 ((x2.length : Int) + 2)) then (if (wrap64 ((x2.length : Int) + 2)) < (x7.length : Int) then (cofferdamlaw08_ColourFrames.j1 k x0 x1 x2 bt184.1 bt192.1 bt196.1 ((rd x7 (wrap64 ((x2.length : Int) + 2))) != (-77))) else (none)) else (none)) else (cofferdamlaw08_ColourFrames.j1 k x0 x1 x2 bt184.1 bt192.1 bt196.1 true)) else (none)) else (cofferdamlaw08_ColourFrames.j1 k x0 x1 x2 bt184.1 bt192.1 bt196.1 true))) else (cofferdamlaw08_ColourFrames.j1 k x0 x1 x2 bt184.1 bt192.1 bt196.1 true))) else (cofferdamlaw08_ColourFrames.j1 k x0 x1 x2 bt184.1 bt192.1 bt196.1 true)) else (cofferdamlaw08_ColourFrames.j1 k x0 x1 x2 bt184.1 bt192.1 bt196.1 true))))) else (none)) else (none))
def cofferdamlaw08_ColourFrames.j1 : Nat → Int → Int → List Int → List Int → List Int → List Int → Bool → Option (Bool)
  | 0, _, _, _, _, _, _, _ => none
  | k + 1, x0, x1, x2, x9, x11, x13, x112 => if x112 = true then (some false) else (cofferdamlaw08_ColourFrames.l1 k x0 x1 x2 x9 x11 x13 0)
def cofferdamlaw08_ColourFrames.l1 : Nat → Int → Int → List Int → List Int → List Int → List Int → Int → Option (Bool)
  | 0, _, _, _, _, _, _, _ => none
  | k + 1, x0, x1, x2, x9, x11, x13, x15 => if x15 < (x9.length : Int) then (if 0 ≤ x15 then (cofferdamlaw08_ColourFrames.l1 k x0 x1 x2 (x9.set (x15 : Int).toNat (-5)) x11 x13 (wrap64 (x15 + 1))) else (none)) else (cofferdamlaw08_ColourFrames.l2 k x0 x1 x2 x9 x11 x13 0)
def cofferdamlaw08_ColourFrames.l2 : Nat → Int → Int → List Int → List Int → List Int → List Int → Int → Option (Bool)
  | 0, _, _, _, _, _, _, _ => none
  | k + 1, x0, x1, x2, x9, x11, x13, x16 => if x16 < 10 then (if x9.length < 17592186044416 then (cofferdamlaw08_ColourFrames.l2 k x0 x1 x2 (x9 ++ [(-6)]) x11 x13 (wrap64 (x16 + 1))) else (none)) else (cofferdamlaw08_ColourFrames.l3 k x0 x1 x2 x11 x13 0)
def cofferdamlaw08_ColourFrames.l3 : Nat → Int → Int → List Int → List Int → List Int → Int → Option (Bool)
  | 0, _, _, _, _, _, _ => none
  | k + 1, x0, x1, x2, x11, x13, x17 => if x17 < (x2.length : Int) then (cofferdamlaw08_ColourFrames.j5 k x0 x1 x2 x11 x13 x17 (decide (x17 < 20))) else (cofferdamlaw08_ColourFrames.j5 k x0 x1 x2 x11 x13 x17 false)
def cofferdamlaw08_ColourFrames.j5 : Nat → Int → Int → List Int → List Int → List Int → Int → Bool → Option (Bool)
  | 0, _, _, _, _, _, _, _ => none
  | k + 1, x0, x1, x2, x11, x13, x17, x136 => if x136 = true then (if 0 ≤ x17 then (if x17 < (x2.length : Int) then ((colour_Count.f x0 x1 (rd x2 x17)).bind fun bt215 => ((cofferdamref08_Count.f x0 x1 (rd x2 x17)).bind fun bt218 => (if bt215.1 = bt218.1 then (if bt215.2 = bt218.2 then (cofferdamlaw08_ColourFrames.l3 k x0 x1 x2 x11 x13 (wrap64 (x17 + 1))) else (some false)) else (some false)))) else (none)) else (none)) else ((cofferdamref00_EqInts.f k x11 x13).bind fun t212 => (if t212 = true then ((cofferdamlaw08_works.f k).bind fun t213 => (some t213)) else (some false)))
end
def cofferdamlaw08_ColourFrames.f (k : Nat) (a0 : Int) (a1 : Int) (l2 : List Int) : Option (Bool) := if 0 ≤ (wrap64 ((l2.length : Int) + 3)) then (if (wrap64 ((l2.length : Int) + 3) : Int).toNat ≤ 35184372088832 then (cofferdamlaw08_ColourFrames.l0 k a0 a1 l2 (List.replicate (wrap64 ((l2.length : Int) + 3) : Int).toNat 0) 0) else (none)) else (none)
theorem cofferdamlaw08_ColourFrames.mono_l : ∀ k, (∀ y0 y1 y2 y3 y4, LeO (cofferdamlaw08_ColourFrames.l0 k y0 y1 y2 y3 y4) (cofferdamlaw08_ColourFrames.l0 (k + 1) y0 y1 y2 y3 y4)) ∧ (∀ y0 y1 y2 y3 y4 y5 y6, LeO (cofferdamlaw08_ColourFrames.j1 k y0 y1 y2 y3 y4 y5 y6) (cofferdamlaw08_ColourFrames.j1 (k + 1) y0 y1 y2 y3 y4 y5 y6)) ∧ (∀ y0 y1 y2 y3 y4 y5 y6, LeO (cofferdamlaw08_ColourFrames.l1 k y0 y1 y2 y3 y4 y5 y6) (cofferdamlaw08_ColourFrames.l1 (k + 1) y0 y1 y2 y3 y4 y5 y6)) ∧ (∀ y0 y1 y2 y3 y4 y5 y6, LeO (cofferdamlaw08_ColourFrames.l2 k y0 y1 y2 y3 y4 y5 y6) (cofferdamlaw08_ColourFrames.l2 (k + 1) y0 y1 y2 y3 y4 y5 y6)) ∧ (∀ y0 y1 y2 y3 y4 y5, LeO (cofferdamlaw08_ColourFrames.l3 k y0 y1 y2 y3 y4 y5) (cofferdamlaw08_ColourFrames.l3 (k + 1) y0 y1 y2 y3 y4 y5)) ∧ (∀ y0 y1 y2 y3 y4 y5 y6, LeO (cofferdamlaw08_ColourFrames.j5 k y0 y1 y2 y3 y4 y5 y6) (cofferdamlaw08_ColourFrames.j5 (k + 1) y0 y1 y2 y3 y4 y5 y6))
  | 0 => ⟨fun _ _ _ _ _ r h => by simp [cofferdamlaw08_ColourFrames.l0] at h, fun _ _ _ _ _ _ _ r h => by simp [cofferdamlaw08_ColourFrames.j1] at h, fun _ _ _ _ _ _ _ r h => by simp [cofferdamlaw08_ColourFrames.l1] at h, fun _ _ _ _ _ _ _ r h => by simp [cofferdamlaw08_ColourFrames.l2] at h, fun _ _ _ _ _ _ r h => by simp [cofferdamlaw08_ColourFrames.l3] at h, fun _ _ _ _ _ _ _ r h => by simp [cofferdamlaw08_ColourFrames.j5] at h⟩
  | k + 1 => by
    obtain ⟨ih0, ih1, ih2, ih3, ih4, ih5⟩ := cofferdamlaw08_ColourFrames.mono_l k
    refine ⟨?_, ?_, ?_, ?_, ?_, ?_⟩
    · intro y0 y1 y2 y3 y4
      unfold cofferdamlaw08_ColourFrames.l0
      repeat' first
      | (with_reducible exact ih0 _ _ _ _ _)
      | (with_reducible exact ih1 _ _ _ _ _ _ _)
      | (with_reducible exact ih2 _ _ _ _ _ _ _)
      | (with_reducible exact ih3 _ _ _ _ _ _ _)
      | (with_reducible exact ih4 _ _ _ _ _ _)
      | (with_reducible exact ih5 _ _ _ _ _ _ _)
      | (with_reducible exact cofferdamlaw08_works.mono _)
      | (with_reducible exact cofferdamref00_EqInts.mono _ _ _)
      | (with_reducible exact LeO.refl _)
      | (with_reducible exact LeO.none _)
      | (with_reducible refine LeO.ite ?_ ?_)
      | (with_reducible refine LeO.bind ?_ (fun _ => ?_))
      | exact ih0 _ _ _ _ _
      | exact ih1 _ _ _ _ _ _ _
      | exact ih2 _ _ _ _ _ _ _
      | exact ih3 _ _ _ _ _ _ _
      | exact ih4 _ _ _ _ _ _
      | exact ih5 _ _ _ _ _ _ _
      | exact cofferdamlaw08_works.mono _
      | exact cofferdamref00_EqInts.mono _ _ _
      | exact LeO.none _
      | refine LeO.ite ?_ ?_
      | refine LeO.bind ?_ (fun _ => ?_)
    · intro y0 y1 y2 y3 y4 y5 y6
      unfold cofferdamlaw08_ColourFrames.j1
      repeat' first
      | (with_reducible exact ih0 _ _ _ _ _)
      | (with_reducible exact ih1 _ _ _ _ _ _ _)
      | (with_reducible exact ih2 _ _ _ _ _ _ _)
      | (with_reducible exact ih3 _ _ _ _ _ _ _)
      | (with_reducible exact ih4 _ _ _ _ _ _)
      | (with_reducible exact ih5 _ _ _ _ _ _ _)
      | (with_reducible exact cofferdamlaw08_works.mono _)
      | (with_reducible exact cofferdamref00_EqInts.mono _ _ _)
      | (with_reducible exact LeO.refl _)
      | (with_reducible exact LeO.none _)
      | (with_reducible refine LeO.ite ?_ ?_)
      | (with_reducible refine LeO.bind ?_ (fun _ => ?_))
      | exact ih0 _ _ _ _ _
      | exact ih1 _ _ _ _ _ _ _
      | exact ih2 _ _ _ _ _ _ _
      | exact ih3 _ _ _ _ _ _ _
      | exact ih4 _ _ _ _ _ _
      | exact ih5 _ _ _ _ _ _ _
      | exact cofferdamlaw08_works.mono _
      | exact cofferdamref00_EqInts.mono _ _ _
      | exact LeO.none _
      | refine LeO.ite ?_ ?_
      | refine LeO.bind ?_ (fun _ => ?_)
    · intro y0 y1 y2 y3 y4 y5 y6
      unfold cofferdamlaw08_ColourFrames.l1
      repeat' first
      | (with_reducible exact ih0 _ _ _ _ _)
      | (with_reducible exact ih1 _ _ _ _ _ _ _)
      | (with_reducible exact ih2 _ _ _ _ _ _ _)
      | (with_reducible exact ih3 _ _ _ _ _ _ _)
      | (with_reducible exact ih4 _ _ _ _ _ _)
      | (with_reducible exact ih5 _ _ _ _ _ _ _)
      | (with_reducible exact cofferdamlaw08_works.mono _)
      | (with_reducible exact cofferdamref00_EqInts.mono _ _ _)
      | (with_reducible exact LeO.refl _)
      | (with_reducible exact LeO.none _)
      | (with_reducible refine LeO.ite ?_ ?_)
      | (with_reducible refine LeO.bind ?_ (fun _ => ?_))
      | exact ih0 _ _ _ _ _
      | exact ih1 _ _ _ _ _ _ _
      | exact ih2 _ _ _ _ _ _ _
      | exact ih3 _ _ _ _ _ _ _
      | exact ih4 _ _ _ _ _ _
      | exact ih5 _ _ _ _ _ _ _
      | exact cofferdamlaw08_works.mono _
      | exact cofferdamref00_EqInts.mono _ _ _
      | exact LeO.none _
      | refine LeO.ite ?_ ?_
      | refine LeO.bind ?_ (fun _ => ?_)
    · intro y0 y1 y2 y3 y4 y5 y6
      unfold cofferdamlaw08_ColourFrames.l2
      repeat' first
      | (with_reducible exact ih0 _ _ _ _ _)
      | (with_reducible exact ih1 _ _ _ _ _ _ _)
      | (with_reducible exact ih2 _ _ _ _ _ _ _)
      | (with_reducible exact ih3 _ _ _ _ _ _ _)
      | (with_reducible exact ih4 _ _ _ _ _ _)
      | (with_reducible exact ih5 _ _ _ _ _ _ _)
      | (with_reducible exact cofferdamlaw08_works.mono _)
      | (with_reducible exact cofferdamref00_EqInts.mono _ _ _)
      | (with_reducible exact LeO.refl _)
      | (with_reducible exact LeO.none _)
      | (with_reducible refine LeO.ite ?_ ?_)
      | (with_reducible refine LeO.bind ?_ (fun _ => ?_))
      | exact ih0 _ _ _ _ _
      | exact ih1 _ _ _ _ _ _ _
      | exact ih2 _ _ _ _ _ _ _
      | exact ih3 _ _ _ _ _ _ _
      | exact ih4 _ _ _ _ _ _
      | exact ih5 _ _ _ _ _ _ _
      | exact cofferdamlaw08_works.mono _
      | exact cofferdamref00_EqInts.mono _ _ _
      | exact LeO.none _
      | refine LeO.ite ?_ ?_
      | refine LeO.bind ?_ (fun _ => ?_)
    · intro y0 y1 y2 y3 y4 y5
      unfold cofferdamlaw08_ColourFrames.l3
      repeat' first
      | (with_reducible exact ih0 _ _ _ _ _)
      | (with_reducible exact ih1 _ _ _ _ _ _ _)
      | (with_reducible exact ih2 _ _ _ _ _ _ _)
      | (with_reducible exact ih3 _ _ _ _ _ _ _)
      | (with_reducible exact ih4 _ _ _ _ _ _)
      | (with_reducible exact ih5 _ _ _ _ _ _ _)
      | (with_reducible exact cofferdamlaw08_works.mono _)
      | (with_reducible exact cofferdamref00_EqInts.mono _ _ _)
      | (with_reducible exact LeO.refl _)
      | (with_reducible exact LeO.none _)
      | (with_reducible refine LeO.ite ?_ ?_)
      | (with_reducible refine LeO.bind ?_ (fun _ => ?_))
      | exact ih0 _ _ _ _ _
      | exact ih1 _ _ _ _ _ _ _
      | exact ih2 _ _ _ _ _ _ _
      | exact ih3 _ _ _ _ _ _ _
      | exact ih4 _ _ _ _ _ _
      | exact ih5 _ _ _ _ _ _ _
      | exact cofferdamlaw08_works.mono _
      | exact cofferdamref00_EqInts.mono _ _ _
      | exact LeO.none _
      | refine LeO.ite ?_ ?_
      | refine LeO.bind ?_ (fun _ => ?_)
    · intro y0 y1 y2 y3 y4 y5 y6
      unfold cofferdamlaw08_ColourFrames.j5
      repeat' first
      | (with_reducible exact ih0 _ _ _ _ _)
      | (with_reducible exact ih1 _ _ _ _ _ _ _)
      | (with_reducible exact ih2 _ _ _ _ _ _ _)
      | (with_reducible exact ih3 _ _ _ _ _ _ _)
      | (with_reducible exact ih4 _ _ _ _ _ _)
      | (with_reducible exact ih5 _ _ _ _ _ _ _)
      | (with_reducible exact cofferdamlaw08_works.mono _)
      | (with_reducible exact cofferdamref00_EqInts.mono _ _ _)
      | (with_reducible exact LeO.refl _)
      | (with_reducible exact LeO.none _)
      | (with_reducible refine LeO.ite ?_ ?_)
      | (with_reducible refine LeO.bind ?_ (fun _ => ?_))
      | exact ih0 _ _ _ _ _
      | exact ih1 _ _ _ _ _ _ _
      | exact ih2 _ _ _ _ _ _ _
      | exact ih3 _ _ _ _ _ _ _
      | exact ih4 _ _ _ _ _ _
      | exact ih5 _ _ _ _ _ _ _
      | exact cofferdamlaw08_works.mono _
      | exact cofferdamref00_EqInts.mono _ _ _
      | exact LeO.none _
      | refine LeO.ite ?_ ?_
      | refine LeO.bind ?_ (fun _ => ?_)
theorem cofferdamlaw08_ColourFrames.mono : ∀ a0 a1 a2 k, LeO (cofferdamlaw08_ColourFrames.f k a0 a1 a2) (cofferdamlaw08_ColourFrames.f (k + 1) a0 a1 a2) := by
  intro a0 a1 a2 k
  obtain ⟨ih0, ih1, ih2, ih3, ih4, ih5⟩ := cofferdamlaw08_ColourFrames.mono_l k
  unfold cofferdamlaw08_ColourFrames.f
  repeat' first
      | (with_reducible exact ih0 _ _ _ _ _)
      | (with_reducible exact ih1 _ _ _ _ _ _ _)
      | (with_reducible exact ih2 _ _ _ _ _ _ _)
      | (with_reducible exact ih3 _ _ _ _ _ _ _)
      | (with_reducible exact ih4 _ _ _ _ _ _)
      | (with_reducible exact ih5 _ _ _ _ _ _ _)
      | (with_reducible exact cofferdamlaw08_works.mono _)
      | (with_reducible exact cofferdamref00_EqInts.mono _ _ _)
      | (with_reducible exact LeO.refl _)
      | (with_reducible exact LeO.none _)
      | (with_reducible refine LeO.ite ?_ ?_)
      | (with_reducible refine LeO.bind ?_ (fun _ => ?_))
      | exact ih0 _ _ _ _ _
      | exact ih1 _ _ _ _ _ _ _
      | exact ih2 _ _ _ _ _ _ _
      | exact ih3 _ _ _ _ _ _ _
      | exact ih4 _ _ _ _ _ _
      | exact ih5 _ _ _ _ _ _ _
      | exact cofferdamlaw08_works.mono _
      | exact cofferdamref00_EqInts.mono _ _ _
      | exact LeO.none _
      | refine LeO.ite ?_ ?_
      | refine LeO.bind ?_ (fun _ => ?_)
set_option maxHeartbeats 8000000 in
set_option maxRecDepth 100000 in
theorem cofferdamlaw08_ColourFrames.calls (k : Nat) (a0 : Int) (a1 : Int) (A2 : Option Addr) (c2 : Nat) (l2 : List Int) (r : Bool) (w : World) (hr2 : Kd.C (Kd.int .i64) w A2 l2.length l2) (hc2 : l2.length ≤ c2) (h : cofferdamlaw08_ColourFrames.f k a0 a1 l2 = some r) :
    Calls Try.prog 5 #[.int .i64 a0, .int .i64 a1, .slice A2 l2.length c2] w fun e w' => e = .returned (.bool r) ∧ Below w.heap.size w w' := by
  have HR2 := Aside0.mk hr2
  have HC2 := Aside0.mk hc2
  clear hr2 hc2
  have HB := Aside0.mk (Below.refl w.heap.size w)
  have H : (if 0 ≤ (wrap64 ((l2.length : Int) + 3)) then (if (wrap64 ((l2.length : Int) + 3) : Int).toNat ≤ 35184372088832 then (cofferdamlaw08_ColourFrames.l0 k a0 a1 l2 (List.replicate (wrap64 ((l2.length : Int) + 3) : Int).toNat 0) 0) else (none)) else (none)) = some r := h
  clear h
  obtain ⟨ji4, hji4⟩ : ∃ j_ : Int, (wrap64 ((l2.length : Int) + 3)) = j_ := ⟨_, rfl⟩
  replace H : (if 0 ≤ (ji4) then (if (ji4 : Int).toNat ≤ 35184372088832 then (cofferdamlaw08_ColourFrames.l0 k a0 a1 l2 (List.replicate (ji4 : Int).toNat 0) 0) else (none)) else (none)) = some r := by first | (rw [hji4] at H; exact H) | (simp only [hji4] at H ⊢; exact H)
  have hji4w : (IntKind.i64.wrap ((l2.length : Int) + 3)) = ji4 := (i64_w _).trans hji4
  by_cases c5 : 0 ≤ (ji4)
  · rw [if_pos c5] at H
    have c5b0 := eq_true c5
    have c5b1 : decide (0 ≤ (ji4)) = true := decide_eq_true c5
    clear c5
    by_cases c6 : (ji4 : Int).toNat ≤ 35184372088832
    · rw [if_pos c6] at H
      have c6b0 := eq_true c6
      have c6b1 : decide ((ji4 : Int).toNat ≤ 35184372088832) = true := decide_eq_true c6
      clear c6
      obtain ⟨y174, hy174⟩ : ∃ y_ : List Int, y_ = (List.replicate (ji4 : Int).toNat 0) := ⟨_, rfl⟩
      replace H : (cofferdamlaw08_ColourFrames.l0 k a0 a1 l2 y174 0) = some r := by first | (rw [hy174]; with_reducible exact H) | (have H2_ := (Option.bind_some _ _).symm.trans H; rw [hy174]; with_reducible exact H2_) | (have H2_ := (Option.bind_some _ _).symm.trans H; with_reducible exact H2_) | with_reducible exact H | (rw [hy174]; exact H) | exact H
      have Ny174 := Aside0.mk hy174
      clear hy174
      have H' := Aside0.mk H
      clear H
      go_enter Try.func5, Try.ntmps5
      go_wp2_with (first | ((with_reducible refine gate_dst (N := 25) rfl ?_); (try (refine gate_guard (by rfl) ?_; dsimp only)); refine Kd.R_make (Kd.int .i64) _ 3 rfl (N := 25) rfl 31 _ _ rfl ji4 rfl rfl Try.underlying31 (.int .i64 0) 8 info3 rfl (by decide) (by omega) 0 (ok := fun _ => True) (okp := fun _ => True) rfl (fun _ hk => hk) trivial (of_decide_eq_true (by first | (with_reducible assumption) | assumption)) (Nat.le_trans (Nat.mul_le_mul_right _ (of_decide_eq_true (by first | (with_reducible assumption) | assumption) : ji4.toNat ≤ 35184372088832)) (by omega)) (Below.refl _ _) (Nat.le_refl _) ?_; intro v175 w7 ho8 hb hg_ hnew_; clear hg_ hnew_; (first | rw [← Ny174.out] at ho8 | (simp only [Int.reduceToNat] at ho8; rw [← Ny174.out] at ho8)); have n0_ := Aside0.mk (Kd.R_lower ho8 (below_size (by repeat (first | (with_reducible first | exact HB.out | apply below_alloc | apply pw_below_drewN | apply below_drew1) | exact HB.out)))); have n1_ := Aside0.mk (below_step (by repeat (first | (with_reducible first | exact HB.out | apply below_alloc | apply pw_below_drewN | apply below_drew1) | exact HB.out)) hb); clear HB; have HO176 := n0_; have HB := n1_; clear n0_ n1_; clear hb ho8))
      go_loopg [8] k (fun kq v8 w' => ∃ (x7_1 : List Int) (x8_1 : Int), v8 = .int .i64 x8_1 ∧ Aside0 (cofferdamlaw08_ColourFrames.l0 kq a0 a1 l2 x7_1 x8_1 = some r) ∧ Aside0 (kq ≤ k) ∧ Aside0 (Kd.R (Kd.int .i64) 3 w' w.heap.size (fun _ => True) v175 x7_1) ∧ Aside0 (Below w.heap.size w w'))
      case atStart => exact ⟨(y174), (0), (by first | rfl | (simp; done) | (simp [*]; done)), H', ⟨Nat.le_refl _⟩, ⟨by (with_reducible repeat (first | apply Kd.R_alloc | apply Kd.R_drewN | apply Kd.R_drew)); exact HO176.out⟩, ⟨by repeat (first | (with_reducible first | exact HB.out | apply below_alloc | apply pw_below_drewN | apply below_drew1) | exact HB.out)⟩⟩
      case round =>
        clear H'
        try clear c2
        try clear p2
        try clear c5
        try clear c5b0
        try clear c5b1
        try clear c6
        try clear c6b0
        try clear c6b1
        try clear p6
        obtain ⟨x7_1, x8_1, rfl, HA, HK1, HO_7, HB⟩ := hrel
        cases gk with
        | zero => exact absurd HA.out (by simp [cofferdamlaw08_ColourFrames.l0])
        | succ k1 =>
          have H := HA.out
          clear HA
          simp only [cofferdamlaw08_ColourFrames.l0] at H
          by_cases c9 : x8_1 < (x7_1.length : Int)
          · rw [if_pos c9] at H
            have c9b0 : decide (x8_1 < (x7_1.length : Int)) = true := decide_eq_true c9
            clear c9
            by_cases c10 : 0 ≤ x8_1
            · rw [if_pos c10] at H
              have c10b0 : decide (0 ≤ x8_1) = true := decide_eq_true c10
              clear c10
              obtain ⟨y177, hy177⟩ : ∃ y_ : List Int, y_ = (x7_1.set (x8_1 : Int).toNat (-77)) := ⟨_, rfl⟩
              replace H : (if x8_1 < (l2.length : Int) then (cofferdamlaw08_ColourFrames.l0 k1 a0 a1 l2 (y177.set (x8_1 : Int).toNat (rd l2 x8_1)) (wrap64 (x8_1 + 1))) else (cofferdamlaw08_ColourFrames.l0 k1 a0 a1 l2 y177 (wrap64 (x8_1 + 1)))) = some r := by first | (rw [hy177]; with_reducible exact H) | (have H2_ := (Option.bind_some _ _).symm.trans H; rw [hy177]; with_reducible exact H2_) | (have H2_ := (Option.bind_some _ _).symm.trans H; with_reducible exact H2_) | with_reducible exact H | (rw [hy177]; exact H) | exact H
              have Ny177 := Aside0.mk hy177
              clear hy177
              by_cases c12 : x8_1 < (l2.length : Int)
              · rw [if_pos c12] at H
                have c12b0 : decide (x8_1 < (l2.length : Int)) = true := decide_eq_true c12
                clear c12
                obtain ⟨y179, hy179⟩ : ∃ y_ : List Int, y_ = (y177.set (x8_1 : Int).toNat (rd l2 x8_1)) := ⟨_, rfl⟩
                replace H : (cofferdamlaw08_ColourFrames.l0 k1 a0 a1 l2 y179 (wrap64 (x8_1 + 1))) = some r := by first | (rw [hy179]; with_reducible exact H) | (have H2_ := (Option.bind_some _ _).symm.trans H; rw [hy179]; with_reducible exact H2_) | (have H2_ := (Option.bind_some _ _).symm.trans H; with_reducible exact H2_) | with_reducible exact H | (rw [hy179]; exact H) | exact H
                have Ny179 := Aside0.mk hy179
                clear hy179
                have H' := Aside0.mk H
                clear H
                obtain ⟨Ao14, co14, eo14⟩ := Kd.R_slice HO_7.out
                subst eo14
                have p11 : 0 ≤ (x8_1 : Int) := of_decide_eq_true (by first | (with_reducible assumption) | assumption)
                have q11 : (x8_1 : Int) < ((x7_1.length : Int) : Int) := of_decide_eq_true (by first | (with_reducible assumption) | assumption)
                obtain ⟨go11, co11, eo11, gb11, gl11, cl11, HG11⟩ := Kd.R_form HO_7.out (by omega)
                (first | cases eo11 | (injection eo11 with ea_ en_ ec_; (first | subst ea_ | (injection ea_ with ea_; subst ea_)); subst ec_; clear en_))
                have GB11 := Aside0.mk gb11
                have GG11 := Aside0.mk HG11
                clear gb11 gl11 HG11
                obtain ⟨hx11_0, hf11_0⟩ := Kd.R_celln 0 HO_7.out (x8_1 : Int) p11 q11
                replace p11 := eq_true p11
                replace q11 := eq_true q11
                have HP15 := Kd.R_putg HO_7.out (x8_1 : Int) (-77)
                go_wp2_with (first | ((with_reducible refine gate_store (t := 3) (p := 34) rfl ?_); refine store_event (t := 3) (p := 34) (v := ?vo_w16) (w1 := (wr.setCell ⟨go11, (x8_1 : Int).toNat, none⟩ (.int .i64 (-77)))) ?hg ?ho ?hn ?hr ?_; (case ho => rfl); (case hg => rfl); (case hn => rfl); (case hr => first | (go_simp; done) | (go_simp; rfl)); intro w16 hw; have hg : wr.grownBy w16 (some go11) := (by rw [hw]; exact HP15.2); have hp_ : Kd.R (Kd.int .i64) 3 w16 w.heap.size (fun _ => True) (.slice (some ⟨go11, 0, none⟩) x7_1.length co14) y177 := (by rw [hw, Ny177.out]; exact HP15.1); clear HP15; have n0_ := Aside0.mk (hp_); have n1_ := Aside0.mk ((by rw [hw]; exact below_set (HB.out) GB11.out : Below w.heap.size w w16)); clear HO_7; clear HB; have HO_7 := n0_; have HB := n1_; clear n0_ n1_; clear hg hw hp_; have p178 : 0 ≤ (x8_1 : Int) := of_decide_eq_true (by first | (with_reducible assumption) | assumption); have q178 : x8_1 < (l2.length : Int) := of_decide_eq_true (by first | (with_reducible assumption) | assumption); obtain ⟨ad178, e178, hx178_0⟩ := Kd.at_int HR2.out x8_1 p178 q178; cases e178; replace hx178_0 := (HB.out.cell (World.block_lt_of_cell? w _ hx178_0)).trans hx178_0; replace p178 := eq_true p178; replace q178 := eq_true q178; have p13 : 0 ≤ (x8_1 : Int) := of_decide_eq_true (by first | (with_reducible assumption) | assumption); have q13 : (x8_1 : Int) < ((x7_1.length : Int) : Int) := of_decide_eq_true (by first | (with_reducible assumption) | assumption); obtain ⟨hx13_0, hf13_0⟩ := Kd.R_celln 0 HO_7.out (x8_1 : Int) p13 q13; replace p13 := eq_true p13; replace q13 := eq_true q13; obtain ⟨hy17_, hz17_⟩ := Kd.R_celln 0 HO_7.out (x8_1 : Int) (of_decide_eq_true (by first | (with_reducible assumption) | assumption)) (of_decide_eq_true (by first | (with_reducible assumption) | assumption)); have HP17 := Kd.R_putg HO_7.out (x8_1 : Int) (rd l2 x8_1)) | ((with_reducible refine gate_store (t := 3) (p := 45) rfl ?_); refine store_event (t := 3) (p := 45) (v := ?vo_w18) (w1 := (w16.setCell ⟨go11, (x8_1 : Int).toNat, none⟩ (.int .i64 (rd l2 x8_1)))) ?hg ?ho ?hn ?hr ?_; (case ho => rfl); (case hg => rfl); (case hn => rfl); (case hr => first | (go_simp; done) | (go_simp; rfl)); intro w18 hw; have hg : w16.grownBy w18 (some go11) := (by rw [hw]; exact HP17.2); have hp_ : Kd.R (Kd.int .i64) 3 w18 w.heap.size (fun _ => True) (.slice (some ⟨go11, 0, none⟩) x7_1.length co14) y179 := (by rw [hw, Ny179.out]; exact HP17.1); clear HP17; have n0_ := Aside0.mk (hp_); have n1_ := Aside0.mk ((by rw [hw]; exact below_set (HB.out) GB11.out : Below w.heap.size w w18)); clear HO_7; clear HB; have HO_7 := n0_; have HB := n1_; clear n0_ n1_; clear hg hw hp_))
                go_roundg k1
                case measure => have := HK1.out; omega
                case rel => exact ⟨(y179), (wrap64 (x8_1 + 1)), (by first | rfl | (simp; done) | (simp [*]; done)), H', ⟨by have := HK1.out; omega⟩, ⟨by (with_reducible repeat (first | apply Kd.R_alloc | apply Kd.R_drewN | apply Kd.R_drew)); exact HO_7.out⟩, ⟨by repeat (first | (with_reducible first | exact HB.out | apply below_alloc | apply pw_below_drewN | apply below_drew1) | exact HB.out)⟩⟩
              · rw [if_neg c12] at H
                have c12b0 : decide (x8_1 < (l2.length : Int)) = false := decide_eq_false c12
                clear c12
                have H' := Aside0.mk H
                clear H
                obtain ⟨Ao19, co19, eo19⟩ := Kd.R_slice HO_7.out
                subst eo19
                have p11 : 0 ≤ (x8_1 : Int) := of_decide_eq_true (by first | (with_reducible assumption) | assumption)
                have q11 : (x8_1 : Int) < ((x7_1.length : Int) : Int) := of_decide_eq_true (by first | (with_reducible assumption) | assumption)
                obtain ⟨go11, co11, eo11, gb11, gl11, cl11, HG11⟩ := Kd.R_form HO_7.out (by omega)
                (first | cases eo11 | (injection eo11 with ea_ en_ ec_; (first | subst ea_ | (injection ea_ with ea_; subst ea_)); subst ec_; clear en_))
                have GB11 := Aside0.mk gb11
                have GG11 := Aside0.mk HG11
                clear gb11 gl11 HG11
                obtain ⟨hx11_0, hf11_0⟩ := Kd.R_celln 0 HO_7.out (x8_1 : Int) p11 q11
                replace p11 := eq_true p11
                replace q11 := eq_true q11
                have HP20 := Kd.R_putg HO_7.out (x8_1 : Int) (-77)
                go_wp2_with (first | ((with_reducible refine gate_store (t := 3) (p := 34) rfl ?_); refine store_event (t := 3) (p := 34) (v := ?vo_w21) (w1 := (wr.setCell ⟨go11, (x8_1 : Int).toNat, none⟩ (.int .i64 (-77)))) ?hg ?ho ?hn ?hr ?_; (case ho => rfl); (case hg => rfl); (case hn => rfl); (case hr => first | (go_simp; done) | (go_simp; rfl)); intro w21 hw; have hg : wr.grownBy w21 (some go11) := (by rw [hw]; exact HP20.2); have hp_ : Kd.R (Kd.int .i64) 3 w21 w.heap.size (fun _ => True) (.slice (some ⟨go11, 0, none⟩) x7_1.length co19) y177 := (by rw [hw, Ny177.out]; exact HP20.1); clear HP20; have n0_ := Aside0.mk (hp_); have n1_ := Aside0.mk ((by rw [hw]; exact below_set (HB.out) GB11.out : Below w.heap.size w w21)); clear HO_7; clear HB; have HO_7 := n0_; have HB := n1_; clear n0_ n1_; clear hg hw hp_))
                go_roundg k1
                case measure => have := HK1.out; omega
                case rel => exact ⟨(y177), (wrap64 (x8_1 + 1)), (by first | rfl | (simp; done) | (simp [*]; done)), H', ⟨by have := HK1.out; omega⟩, ⟨by (with_reducible repeat (first | apply Kd.R_alloc | apply Kd.R_drewN | apply Kd.R_drew)); exact HO_7.out⟩, ⟨by repeat (first | (with_reducible first | exact HB.out | apply below_alloc | apply pw_below_drewN | apply below_drew1) | exact HB.out)⟩⟩
            · rw [if_neg c10] at H
              exact absurd H (by simp)
          · rw [if_neg c9] at H
            have c9b0 : decide (x8_1 < (x7_1.length : Int)) = false := decide_eq_false c9
            clear c9
            by_cases c22 : 0 ≤ (l2.length : Int)
            · rw [if_pos c22] at H
              have c22b0 := eq_true c22
              have c22b1 : decide (0 ≤ (l2.length : Int)) = true := decide_eq_true c22
              clear c22
              by_cases c23 : (l2.length : Int) ≤ (x7_1.length : Int)
              · rw [if_pos c23] at H
                have c23b0 := eq_true c23
                have c23b1 : decide ((l2.length : Int) ≤ (x7_1.length : Int)) = true := decide_eq_true c23
                clear c23
                obtain ⟨y180, hy180⟩ : ∃ y_ : List Int, y_ = (x7_1.take ((l2.length : Int) : Int).toNat) := ⟨_, rfl⟩
                replace H : ((colour_Frames.f a0 a1 y180).bind fun bt184 => ((colour_Frames.f a0 a1 (x7_1.take ((l2.length : Int) : Int).toNat)).bind fun bt192 => ((cofferdamref08_Frames.f a0 a1 l2).bind fun bt196 => (if bt184.2 = bt196.2 then (if bt192.2 = bt196.2 then ((cofferdamref00_EqInts.f k1 bt184.1 bt196.1).bind fun t200 => (if t200 = true then ((cofferdamref00_EqInts.f k1 (x7_1.take ((l2.length : Int) : Int).toNat) l2).bind fun t205 => (if t205 = true then (if (l2.length : Int) < (x7_1.length : Int) then (if (rd x7_1 (l2.length : Int)) = (-77) then (if 0 ≤ (wrap64 ((l2.length : Int) + 2)) then (if (wrap64 ((l2.length : Int) + 2)) < (x7_1.length : Int) then (cofferdamlaw08_ColourFrames.j1 k1 a0 a1 l2 bt184.1 bt192.1 bt196.1 ((rd x7_1 (wrap64 ((l2.length : Int) + 2))) != (-77))) else (none)) else (none)) else (cofferdamlaw08_ColourFrames.j1 k1 a0 a1 l2 bt184.1 bt192.1 bt196.1 true)) else (none)) else (cofferdamlaw08_ColourFrames.j1 k1 a0 a1 l2 bt184.1 bt192.1 bt196.1 true))) else (cofferdamlaw08_ColourFrames.j1 k1 a0 a1 l2 bt184.1 bt192.1 bt196.1 true))) else (cofferdamlaw08_ColourFrames.j1 k1 a0 a1 l2 bt184.1 bt192.1 bt196.1 true)) else (cofferdamlaw08_ColourFrames.j1 k1 a0 a1 l2 bt184.1 bt192.1 bt196.1 true))))) = some r := by first | (rw [hy180]; with_reducible exact H) | (have H2_ := (Option.bind_some _ _).symm.trans H; rw [hy180]; with_reducible exact H2_) | (have H2_ := (Option.bind_some _ _).symm.trans H; with_reducible exact H2_) | with_reducible exact H | (rw [hy180]; exact H) | exact H
                have Ny180 := Aside0.mk hy180
                clear hy180
                replace H := Option.bind_eq_some_iff.mp H
                obtain ⟨⟨t184, t185⟩, A240, H⟩ := H
                replace H : ((colour_Frames.f a0 a1 (x7_1.take ((l2.length : Int) : Int).toNat)).bind fun bt192 => ((cofferdamref08_Frames.f a0 a1 l2).bind fun bt196 => (if t185 = bt196.2 then (if bt192.2 = bt196.2 then ((cofferdamref00_EqInts.f k1 t184 bt196.1).bind fun t200 => (if t200 = true then ((cofferdamref00_EqInts.f k1 (x7_1.take ((l2.length : Int) : Int).toNat) l2).bind fun t205 => (if t205 = true then (if (l2.length : Int) < (x7_1.length : Int) then (if (rd x7_1 (l2.length : Int)) = (-77) then (if 0 ≤ (wrap64 ((l2.length : Int) + 2)) then (if (wrap64 ((l2.length : Int) + 2)) < (x7_1.length : Int) then (cofferdamlaw08_ColourFrames.j1 k1 a0 a1 l2 t184 bt192.1 bt196.1 ((rd x7_1 (wrap64 ((l2.length : Int) + 2))) != (-77))) else (none)) else (none)) else (cofferdamlaw08_ColourFrames.j1 k1 a0 a1 l2 t184 bt192.1 bt196.1 true)) else (none)) else (cofferdamlaw08_ColourFrames.j1 k1 a0 a1 l2 t184 bt192.1 bt196.1 true))) else (cofferdamlaw08_ColourFrames.j1 k1 a0 a1 l2 t184 bt192.1 bt196.1 true))) else (cofferdamlaw08_ColourFrames.j1 k1 a0 a1 l2 t184 bt192.1 bt196.1 true)) else (cofferdamlaw08_ColourFrames.j1 k1 a0 a1 l2 t184 bt192.1 bt196.1 true)))) = some r := H
                have A24 := Aside0.mk A240
                clear A240
                have c25b0 := eq_true (of_decide_eq_true (by first | (with_reducible assumption) | assumption) : 0 ≤ (l2.length : Int))
                have c26b0 := eq_true (of_decide_eq_true (by first | (with_reducible assumption) | assumption) : (l2.length : Int) ≤ (x7_1.length : Int))
                obtain ⟨y188, hy188⟩ : ∃ y_ : List Int, y_ = (x7_1.take ((l2.length : Int) : Int).toNat) := ⟨_, rfl⟩
                replace H : ((colour_Frames.f a0 a1 y188).bind fun bt192 => ((cofferdamref08_Frames.f a0 a1 l2).bind fun bt196 => (if t185 = bt196.2 then (if bt192.2 = bt196.2 then ((cofferdamref00_EqInts.f k1 t184 bt196.1).bind fun t200 => (if t200 = true then ((cofferdamref00_EqInts.f k1 (x7_1.take ((l2.length : Int) : Int).toNat) l2).bind fun t205 => (if t205 = true then (if (l2.length : Int) < (x7_1.length : Int) then (if (rd x7_1 (l2.length : Int)) = (-77) then (if 0 ≤ (wrap64 ((l2.length : Int) + 2)) then (if (wrap64 ((l2.length : Int) + 2)) < (x7_1.length : Int) then (cofferdamlaw08_ColourFrames.j1 k1 a0 a1 l2 t184 bt192.1 bt196.1 ((rd x7_1 (wrap64 ((l2.length : Int) + 2))) != (-77))) else (none)) else (none)) else (cofferdamlaw08_ColourFrames.j1 k1 a0 a1 l2 t184 bt192.1 bt196.1 true)) else (none)) else (cofferdamlaw08_ColourFrames.j1 k1 a0 a1 l2 t184 bt192.1 bt196.1 true))) else (cofferdamlaw08_ColourFrames.j1 k1 a0 a1 l2 t184 bt192.1 bt196.1 true))) else (cofferdamlaw08_ColourFrames.j1 k1 a0 a1 l2 t184 bt192.1 bt196.1 true)) else (cofferdamlaw08_ColourFrames.j1 k1 a0 a1 l2 t184 bt192.1 bt196.1 true)))) = some r := by first | (rw [hy188]; with_reducible exact H) | (have H2_ := (Option.bind_some _ _).symm.trans H; rw [hy188]; with_reducible exact H2_) | (have H2_ := (Option.bind_some _ _).symm.trans H; with_reducible exact H2_) | with_reducible exact H | (rw [hy188]; exact H) | exact H
                have Ny188 := Aside0.mk hy188
                clear hy188
                replace H := Option.bind_eq_some_iff.mp H
                obtain ⟨⟨t192, t193⟩, A270, H⟩ := H
                replace H : ((cofferdamref08_Frames.f a0 a1 l2).bind fun bt196 => (if t185 = bt196.2 then (if t193 = bt196.2 then ((cofferdamref00_EqInts.f k1 t184 bt196.1).bind fun t200 => (if t200 = true then ((cofferdamref00_EqInts.f k1 (x7_1.take ((l2.length : Int) : Int).toNat) l2).bind fun t205 => (if t205 = true then (if (l2.length : Int) < (x7_1.length : Int) then (if (rd x7_1 (l2.length : Int)) = (-77) then (if 0 ≤ (wrap64 ((l2.length : Int) + 2)) then (if (wrap64 ((l2.length : Int) + 2)) < (x7_1.length : Int) then (cofferdamlaw08_ColourFrames.j1 k1 a0 a1 l2 t184 t192 bt196.1 ((rd x7_1 (wrap64 ((l2.length : Int) + 2))) != (-77))) else (none)) else (none)) else (cofferdamlaw08_ColourFrames.j1 k1 a0 a1 l2 t184 t192 bt196.1 true)) else (none)) else (cofferdamlaw08_ColourFrames.j1 k1 a0 a1 l2 t184 t192 bt196.1 true))) else (cofferdamlaw08_ColourFrames.j1 k1 a0 a1 l2 t184 t192 bt196.1 true))) else (cofferdamlaw08_ColourFrames.j1 k1 a0 a1 l2 t184 t192 bt196.1 true)) else (cofferdamlaw08_ColourFrames.j1 k1 a0 a1 l2 t184 t192 bt196.1 true))) = some r := H
                have A27 := Aside0.mk A270
                clear A270
                replace H := Option.bind_eq_some_iff.mp H
                obtain ⟨⟨t196, t197⟩, A280, H⟩ := H
                replace H : (if t185 = t197 then (if t193 = t197 then ((cofferdamref00_EqInts.f k1 t184 t196).bind fun t200 => (if t200 = true then ((cofferdamref00_EqInts.f k1 (x7_1.take ((l2.length : Int) : Int).toNat) l2).bind fun t205 => (if t205 = true then (if (l2.length : Int) < (x7_1.length : Int) then (if (rd x7_1 (l2.length : Int)) = (-77) then (if 0 ≤ (wrap64 ((l2.length : Int) + 2)) then (if (wrap64 ((l2.length : Int) + 2)) < (x7_1.length : Int) then (cofferdamlaw08_ColourFrames.j1 k1 a0 a1 l2 t184 t192 t196 ((rd x7_1 (wrap64 ((l2.length : Int) + 2))) != (-77))) else (none)) else (none)) else (cofferdamlaw08_ColourFrames.j1 k1 a0 a1 l2 t184 t192 t196 true)) else (none)) else (cofferdamlaw08_ColourFrames.j1 k1 a0 a1 l2 t184 t192 t196 true))) else (cofferdamlaw08_ColourFrames.j1 k1 a0 a1 l2 t184 t192 t196 true))) else (cofferdamlaw08_ColourFrames.j1 k1 a0 a1 l2 t184 t192 t196 true)) else (cofferdamlaw08_ColourFrames.j1 k1 a0 a1 l2 t184 t192 t196 true)) = some r := H
                have A28 := Aside0.mk A280
                clear A280
                have HC29 := Aside0.mk H
                clear H
                obtain ⟨Ao30, co30, eo30⟩ := Kd.R_slice HO_7.out
                subst eo30
                have q31 : ((l2.length : Int) : Int) ≤ ((x7_1.length : Int) : Int) := of_decide_eq_true (by first | (with_reducible assumption) | assumption)
                obtain ⟨i031, hi031, _, hsz31, _⟩ := info_parts info3
                have hroom31 : x7_1.length ≤ co30 := (Kd.R_reads' HO_7.out).2.1
                have hC31 : Kd.C (Kd.int .i64) _ Ao30 x7_1.length x7_1 := (Kd.R_reads' HO_7.out).2.2
                have hcut31 := cut_to (P := Try.prog) 31 3 .i64 Try.underlying31 hi031 Ao30 x7_1.length co30 (l2.length : Int) (of_decide_eq_true (by first | (with_reducible assumption) | assumption)) q31 hroom31
                have hr31 := Kd.C_take (m := ((l2.length : Int) : Int).toNat) hC31 (by omega)
                have hy31 : y180.length = ((l2.length : Int) : Int).toNat := (by rw [Ny180.out, List.length_take]; omega)
                rw [← Ny180.out] at hr31
                rw [← hy31] at hcut31
                have HR183 := Aside0.mk hr31
                have HC183 := Aside0.mk (show y180.length ≤ co30 from by omega)
                clear hr31 hC31 hroom31 hi031 hsz31
                have KY31 := Aside0.mk hy31
                clear hy31
                have KL31 := Aside0.mk (show ((l2.length : Int) : Int).toNat ≤ x7_1.length from by omega)
                replace q31 := eq_true q31
                go_upto_region 11 with (first | ((with_reducible refine gate_callee (f := 20) rfl ?_); refine goesL_ (some 53) rfl rfl Try.func20 (by kernel_rfl) rfl #[.int .i64 a0, .int .i64 a1, .slice Ao30 y180.length co30] rfl (by (try simp only [List.map_toArray, List.map_cons, List.map_nil]); first | done | rfl | (simp only [List.length_drop, List.length_take]; rfl)) ?_; (with_reducible refine (colour_Frames.calls a0 a1 _ _ y180 t184 t185 _ ?side1 ?side2 A24.out).mono ?_); (case side1 => repeat (first | exact (by repeat (first | (with_reducible exact HR183.out) | (with_reducible refine Kd.C_alloc ?_ _) | (with_reducible refine Kd.C_drewN ?_ _) | (with_reducible refine Kd.C_drew ?_) | exact HR183.out)) | (with_reducible refine Kd.C_alloc ?_ _) | (with_reducible refine Kd.C_drewN ?_ _) | (with_reducible refine Kd.C_drew ?_))); (case side2 => exact HC183.out); rintro e w32 ⟨v186, rfl, ho0, hb⟩; refine ⟨_, rfl, ?_⟩; have n0_ := Aside0.mk (Kd.R_elder' (by (with_reducible repeat (first | apply Kd.R_alloc | apply Kd.R_drewN | apply Kd.R_drew)); exact HO_7.out) (Kd.R_base ho0) hb); have n1_ := Aside0.mk (Kd.R_lower (Kd.R_new' ho0 (Kd.R_lt (by (with_reducible repeat (first | apply Kd.R_alloc | apply Kd.R_drewN | apply Kd.R_drew)); exact HO_7.out))) (below_size (by repeat (first | (with_reducible first | exact HB.out | apply below_alloc | apply pw_below_drewN | apply below_drew1) | exact HB.out)))); have n2_ := Aside0.mk (Kd.C_below (by repeat (first | (with_reducible exact HR183.out) | (with_reducible refine Kd.C_alloc ?_ _) | (with_reducible refine Kd.C_drewN ?_ _) | (with_reducible refine Kd.C_drew ?_) | exact HR183.out)) hb); have n3_ := Aside0.mk (below_step (by repeat (first | (with_reducible first | exact HB.out | apply below_alloc | apply pw_below_drewN | apply below_drew1) | exact HB.out)) hb); clear HO_7; clear HR183; clear HB; have HO_7 := n0_; have HO187 := n1_; have HR183 := n2_; have HB := n3_; clear n0_ n1_ n2_ n3_; (try clear hb); (try clear hb2); (try clear hk); (try clear hi); (try clear ho0); have q33 : ((l2.length : Int) : Int) ≤ ((x7_1.length : Int) : Int) := of_decide_eq_true (by first | (with_reducible assumption) | assumption); obtain ⟨i033, hi033, _, hsz33, _⟩ := info_parts info3; have hroom33 : x7_1.length ≤ co30 := (Kd.R_reads' HO_7.out).2.1; have hC33 : Kd.C (Kd.int .i64) _ Ao30 x7_1.length x7_1 := (Kd.R_reads' HO_7.out).2.2; (try clear hcut31); have hcut33 := cut_to (P := Try.prog) 31 3 .i64 Try.underlying31 hi033 Ao30 x7_1.length co30 (l2.length : Int) (of_decide_eq_true (by first | (with_reducible assumption) | assumption)) q33 hroom33; have hr33 := Kd.C_take (m := ((l2.length : Int) : Int).toNat) hC33 (by omega); have hy33 : y188.length = ((l2.length : Int) : Int).toNat := (by rw [Ny188.out, List.length_take]; omega); rw [← Ny188.out] at hr33; rw [← hy33] at hcut33; have HR191 := Aside0.mk hr33; have HC191 := Aside0.mk (show y188.length ≤ co30 from by omega); clear hr33 hC33 hroom33 hi033 hsz33; have KY33 := Aside0.mk hy33; clear hy33; have KL33 := Aside0.mk (show ((l2.length : Int) : Int).toNat ≤ x7_1.length from by omega); replace q33 := eq_true q33) | ((with_reducible refine gate_callee (f := 20) rfl ?_); refine goesL_ (some 63) rfl rfl Try.func20 (by kernel_rfl) rfl #[.int .i64 a0, .int .i64 a1, .slice Ao30 y188.length co30] rfl (by (try simp only [List.map_toArray, List.map_cons, List.map_nil]); first | done | rfl | (simp only [List.length_drop, List.length_take]; rfl)) ?_; (with_reducible refine (colour_Frames.calls a0 a1 _ _ y188 t192 t193 _ ?side1 ?side2 A27.out).mono ?_); (case side1 => repeat (first | exact (by repeat (first | (with_reducible exact HR191.out) | (with_reducible refine Kd.C_alloc ?_ _) | (with_reducible refine Kd.C_drewN ?_ _) | (with_reducible refine Kd.C_drew ?_) | exact HR191.out)) | (with_reducible refine Kd.C_alloc ?_ _) | (with_reducible refine Kd.C_drewN ?_ _) | (with_reducible refine Kd.C_drew ?_))); (case side2 => exact HC191.out); rintro e w34 ⟨v194, rfl, ho0, hb⟩; refine ⟨_, rfl, ?_⟩; have n0_ := Aside0.mk (Kd.R_elder' (by (with_reducible repeat (first | apply Kd.R_alloc | apply Kd.R_drewN | apply Kd.R_drew)); exact HO_7.out) (Kd.R_base ho0) hb); have n1_ := Aside0.mk (Kd.R_elder' (by (with_reducible repeat (first | apply Kd.R_alloc | apply Kd.R_drewN | apply Kd.R_drew)); exact HO187.out) (Kd.R_base ho0) hb); have n2_ := Aside0.mk (Kd.R_lower (Kd.R_new' (Kd.R_new' ho0 (Kd.R_lt (by (with_reducible repeat (first | apply Kd.R_alloc | apply Kd.R_drewN | apply Kd.R_drew)); exact HO_7.out))) (Kd.R_lt (by (with_reducible repeat (first | apply Kd.R_alloc | apply Kd.R_drewN | apply Kd.R_drew)); exact HO187.out))) (below_size (by repeat (first | (with_reducible first | exact HB.out | apply below_alloc | apply pw_below_drewN | apply below_drew1) | exact HB.out)))); have n3_ := Aside0.mk (Kd.C_below (by repeat (first | (with_reducible exact HR183.out) | (with_reducible refine Kd.C_alloc ?_ _) | (with_reducible refine Kd.C_drewN ?_ _) | (with_reducible refine Kd.C_drew ?_) | exact HR183.out)) hb); have n4_ := Aside0.mk (Kd.C_below (by repeat (first | (with_reducible exact HR191.out) | (with_reducible refine Kd.C_alloc ?_ _) | (with_reducible refine Kd.C_drewN ?_ _) | (with_reducible refine Kd.C_drew ?_) | exact HR191.out)) hb); have n5_ := Aside0.mk (below_step (by repeat (first | (with_reducible first | exact HB.out | apply below_alloc | apply pw_below_drewN | apply below_drew1) | exact HB.out)) hb); clear HO_7; clear HO187; clear HR183; clear HR191; clear HB; have HO_7 := n0_; have HO187 := n1_; have HO195 := n2_; have HR183 := n3_; have HR191 := n4_; have HB := n5_; clear n0_ n1_ n2_ n3_ n4_ n5_; (try clear hb); (try clear hb2); (try clear hk); (try clear hi); (try clear ho0)) | ((with_reducible refine gate_callee (f := 21) rfl ?_); refine goesL_ (some 70) rfl rfl Try.func21 (by kernel_rfl) rfl #[.int .i64 a0, .int .i64 a1, .slice A2 l2.length c2] rfl (by (try simp only [List.map_toArray, List.map_cons, List.map_nil]); first | done | rfl | (simp only [List.length_drop, List.length_take]; rfl)) ?_; (with_reducible refine (cofferdamref08_Frames.calls a0 a1 _ _ l2 t196 t197 _ ?side1 ?side2 A28.out).mono ?_); (case side1 => repeat (first | exact (Kd.C_below HR2.out HB.out) | (with_reducible refine Kd.C_alloc ?_ _) | (with_reducible refine Kd.C_drewN ?_ _) | (with_reducible refine Kd.C_drew ?_))); (case side2 => exact HC2.out); rintro e w35 ⟨v198, rfl, ho0, hb⟩; refine ⟨_, rfl, ?_⟩; have n0_ := Aside0.mk (Kd.R_elder' (by (with_reducible repeat (first | apply Kd.R_alloc | apply Kd.R_drewN | apply Kd.R_drew)); exact HO_7.out) (Kd.R_base ho0) hb); have n1_ := Aside0.mk (Kd.R_elder' (by (with_reducible repeat (first | apply Kd.R_alloc | apply Kd.R_drewN | apply Kd.R_drew)); exact HO187.out) (Kd.R_base ho0) hb); have n2_ := Aside0.mk (Kd.R_elder' (by (with_reducible repeat (first | apply Kd.R_alloc | apply Kd.R_drewN | apply Kd.R_drew)); exact HO195.out) (Kd.R_base ho0) hb); have n3_ := Aside0.mk (Kd.R_lower (Kd.R_new' (Kd.R_new' (Kd.R_new' ho0 (Kd.R_lt (by (with_reducible repeat (first | apply Kd.R_alloc | apply Kd.R_drewN | apply Kd.R_drew)); exact HO_7.out))) (Kd.R_lt (by (with_reducible repeat (first | apply Kd.R_alloc | apply Kd.R_drewN | apply Kd.R_drew)); exact HO187.out))) (Kd.R_lt (by (with_reducible repeat (first | apply Kd.R_alloc | apply Kd.R_drewN | apply Kd.R_drew)); exact HO195.out))) (below_size (by repeat (first | (with_reducible first | exact HB.out | apply below_alloc | apply pw_below_drewN | apply below_drew1) | exact HB.out)))); have n4_ := Aside0.mk (Kd.C_below (by repeat (first | (with_reducible exact HR183.out) | (with_reducible refine Kd.C_alloc ?_ _) | (with_reducible refine Kd.C_drewN ?_ _) | (with_reducible refine Kd.C_drew ?_) | exact HR183.out)) hb); have n5_ := Aside0.mk (Kd.C_below (by repeat (first | (with_reducible exact HR191.out) | (with_reducible refine Kd.C_alloc ?_ _) | (with_reducible refine Kd.C_drewN ?_ _) | (with_reducible refine Kd.C_drew ?_) | exact HR191.out)) hb); have n6_ := Aside0.mk (below_step (by repeat (first | (with_reducible first | exact HB.out | apply below_alloc | apply pw_below_drewN | apply below_drew1) | exact HB.out)) hb); clear HO_7; clear HO187; clear HO195; clear HR183; clear HR191; clear HB; have HO_7 := n0_; have HO187 := n1_; have HO195 := n2_; have HO199 := n3_; have HR183 := n4_; have HR191 := n5_; have HB := n6_; clear n0_ n1_ n2_ n3_ n4_ n5_ n6_; (try clear hb); (try clear hb2); (try clear hk); (try clear hi); (try clear ho0)))
                (try simp only [Act.put, List.setIfInBounds_toArray, List.set_cons_zero, List.set_cons_succ])
                go_cut [112] (fun v112 wc => ∃ (kq : Nat) (x112_28 : Bool), v112 = .bool x112_28 ∧ Aside0 (cofferdamlaw08_ColourFrames.j1 kq a0 a1 l2 t184 t192 t196 x112_28 = some r) ∧ Aside0 (kq ≤ k1) ∧ Aside0 (Kd.R (Kd.int .i64) 3 wc w.heap.size (fun k_ => some k_ ≠ (v194 : Value).ownBlock ∧ some k_ ≠ (v198 : Value).ownBlock) v186 t184) ∧ Aside0 (Kd.R (Kd.int .i64) 3 wc w.heap.size (fun k_ => some k_ ≠ (v186 : Value).ownBlock ∧ some k_ ≠ (v198 : Value).ownBlock) v194 t192) ∧ Aside0 (Kd.R (Kd.int .i64) 3 wc w.heap.size (fun k_ => some k_ ≠ (v186 : Value).ownBlock ∧ some k_ ≠ (v194 : Value).ownBlock) v198 t196) ∧ Aside0 (Kd.C (Kd.int .i64) wc Ao30 y180.length y180) ∧ Aside0 (Kd.C (Kd.int .i64) wc Ao30 y188.length y188) ∧ Aside0 (Below w.heap.size w wc))
                case first =>
                  have H := HC29.out
                  clear HC29
                  by_cases c36 : t185 = t197
                  · rw [if_pos c36] at H
                    have c36b0 : (t185 == t197) = true := beq_iff_eq.mpr c36
                    have c36b1 : (t185 != t197) = false := bne_eq_false_iff_eq.mpr c36
                    clear c36
                    (first | rw [c36b0] | (simp only [i64_w, i32_w]; rw [c36b0]) | skip)
                    by_cases c37 : t193 = t197
                    · rw [if_pos c37] at H
                      have c37b0 : (t193 == t197) = true := beq_iff_eq.mpr c37
                      have c37b1 : (t193 != t197) = false := bne_eq_false_iff_eq.mpr c37
                      clear c37
                      replace H := Option.bind_eq_some_iff.mp H
                      obtain ⟨t200, A380, H⟩ := H
                      replace H : (if t200 = true then ((cofferdamref00_EqInts.f k1 (x7_1.take ((l2.length : Int) : Int).toNat) l2).bind fun t205 => (if t205 = true then (if (l2.length : Int) < (x7_1.length : Int) then (if (rd x7_1 (l2.length : Int)) = (-77) then (if 0 ≤ (wrap64 ((l2.length : Int) + 2)) then (if (wrap64 ((l2.length : Int) + 2)) < (x7_1.length : Int) then (cofferdamlaw08_ColourFrames.j1 k1 a0 a1 l2 t184 t192 t196 ((rd x7_1 (wrap64 ((l2.length : Int) + 2))) != (-77))) else (none)) else (none)) else (cofferdamlaw08_ColourFrames.j1 k1 a0 a1 l2 t184 t192 t196 true)) else (none)) else (cofferdamlaw08_ColourFrames.j1 k1 a0 a1 l2 t184 t192 t196 true))) else (cofferdamlaw08_ColourFrames.j1 k1 a0 a1 l2 t184 t192 t196 true)) = some r := H
                      have A38 := Aside0.mk A380
                      clear A380
                      by_cases c39 : t200 = true
                      · subst c39
                        have H1 : ((cofferdamref00_EqInts.f k1 (x7_1.take ((l2.length : Int) : Int).toNat) l2).bind fun t205 => (if t205 = true then (if (l2.length : Int) < (x7_1.length : Int) then (if (rd x7_1 (l2.length : Int)) = (-77) then (if 0 ≤ (wrap64 ((l2.length : Int) + 2)) then (if (wrap64 ((l2.length : Int) + 2)) < (x7_1.length : Int) then (cofferdamlaw08_ColourFrames.j1 k1 a0 a1 l2 t184 t192 t196 ((rd x7_1 (wrap64 ((l2.length : Int) + 2))) != (-77))) else (none)) else (none)) else (cofferdamlaw08_ColourFrames.j1 k1 a0 a1 l2 t184 t192 t196 true)) else (none)) else (cofferdamlaw08_ColourFrames.j1 k1 a0 a1 l2 t184 t192 t196 true))) = some r := by rw [if_pos rfl] at H; exact H
                        clear H
                        have H := H1
                        clear H1
                        have c40b0 := eq_true (of_decide_eq_true (by first | (with_reducible assumption) | assumption) : 0 ≤ (l2.length : Int))
                        have c41b0 := eq_true (of_decide_eq_true (by first | (with_reducible assumption) | assumption) : (l2.length : Int) ≤ (x7_1.length : Int))
                        obtain ⟨y201, hy201⟩ : ∃ y_ : List Int, y_ = (x7_1.take ((l2.length : Int) : Int).toNat) := ⟨_, rfl⟩
                        replace H : ((cofferdamref00_EqInts.f k1 y201 l2).bind fun t205 => (if t205 = true then (if (l2.length : Int) < (x7_1.length : Int) then (if (rd x7_1 (l2.length : Int)) = (-77) then (if 0 ≤ (wrap64 ((l2.length : Int) + 2)) then (if (wrap64 ((l2.length : Int) + 2)) < (x7_1.length : Int) then (cofferdamlaw08_ColourFrames.j1 k1 a0 a1 l2 t184 t192 t196 ((rd x7_1 (wrap64 ((l2.length : Int) + 2))) != (-77))) else (none)) else (none)) else (cofferdamlaw08_ColourFrames.j1 k1 a0 a1 l2 t184 t192 t196 true)) else (none)) else (cofferdamlaw08_ColourFrames.j1 k1 a0 a1 l2 t184 t192 t196 true))) = some r := by first | (rw [hy201]; with_reducible exact H) | (have H2_ := (Option.bind_some _ _).symm.trans H; rw [hy201]; with_reducible exact H2_) | (have H2_ := (Option.bind_some _ _).symm.trans H; with_reducible exact H2_) | with_reducible exact H | (rw [hy201]; exact H) | exact H
                        have Ny201 := Aside0.mk hy201
                        clear hy201
                        replace H := Option.bind_eq_some_iff.mp H
                        obtain ⟨t205, A420, H⟩ := H
                        replace H : (if t205 = true then (if (l2.length : Int) < (x7_1.length : Int) then (if (rd x7_1 (l2.length : Int)) = (-77) then (if 0 ≤ (wrap64 ((l2.length : Int) + 2)) then (if (wrap64 ((l2.length : Int) + 2)) < (x7_1.length : Int) then (cofferdamlaw08_ColourFrames.j1 k1 a0 a1 l2 t184 t192 t196 ((rd x7_1 (wrap64 ((l2.length : Int) + 2))) != (-77))) else (none)) else (none)) else (cofferdamlaw08_ColourFrames.j1 k1 a0 a1 l2 t184 t192 t196 true)) else (none)) else (cofferdamlaw08_ColourFrames.j1 k1 a0 a1 l2 t184 t192 t196 true)) = some r := H
                        have A42 := Aside0.mk A420
                        clear A420
                        by_cases c43 : t205 = true
                        · subst c43
                          have H1 : (if (l2.length : Int) < (x7_1.length : Int) then (if (rd x7_1 (l2.length : Int)) = (-77) then (if 0 ≤ (wrap64 ((l2.length : Int) + 2)) then (if (wrap64 ((l2.length : Int) + 2)) < (x7_1.length : Int) then (cofferdamlaw08_ColourFrames.j1 k1 a0 a1 l2 t184 t192 t196 ((rd x7_1 (wrap64 ((l2.length : Int) + 2))) != (-77))) else (none)) else (none)) else (cofferdamlaw08_ColourFrames.j1 k1 a0 a1 l2 t184 t192 t196 true)) else (none)) = some r := by rw [if_pos rfl] at H; exact H
                          clear H
                          have H := H1
                          clear H1
                          by_cases c44 : (l2.length : Int) < (x7_1.length : Int)
                          · rw [if_pos c44] at H
                            have c44b0 : decide ((l2.length : Int) < (x7_1.length : Int)) = true := decide_eq_true c44
                            have c44b1 : decide (l2.length < x7_1.length) = true := decide_eq_true (Int.ofNat_lt.mp c44)
                            clear c44
                            by_cases c45 : (rd x7_1 (l2.length : Int)) = (-77)
                            · rw [if_pos c45] at H
                              have c45b0 : ((rd x7_1 (l2.length : Int)) == (-77)) = true := beq_iff_eq.mpr c45
                              have c45b1 : ((rd x7_1 (l2.length : Int)) != (-77)) = false := bne_eq_false_iff_eq.mpr c45
                              clear c45
                              obtain ⟨ji46, hji46⟩ : ∃ j_ : Int, (wrap64 ((l2.length : Int) + 2)) = j_ := ⟨_, rfl⟩
                              replace H : (if 0 ≤ (ji46) then (if (ji46) < (x7_1.length : Int) then (cofferdamlaw08_ColourFrames.j1 k1 a0 a1 l2 t184 t192 t196 ((rd x7_1 (ji46)) != (-77))) else (none)) else (none)) = some r := by first | (rw [hji46] at H; exact H) | (simp only [hji46] at H ⊢; exact H)
                              (try rw [hji46] at A38)
                              (try rw [hji46] at A42)
                              have hji46w : (IntKind.i64.wrap ((l2.length : Int) + 2)) = ji46 := (i64_w _).trans hji46
                              by_cases c47 : 0 ≤ (ji46)
                              · rw [if_pos c47] at H
                                have c47b0 : decide (0 ≤ (ji46)) = true := decide_eq_true c47
                                clear c47
                                by_cases c48 : (ji46) < (x7_1.length : Int)
                                · rw [if_pos c48] at H
                                  have c48b0 : decide ((ji46) < (x7_1.length : Int)) = true := decide_eq_true c48
                                  clear c48
                                  have H' := Aside0.mk H
                                  clear H
                                  obtain ⟨Ao49, co49, eo49⟩ := Kd.R_slice HO187.out
                                  subst eo49
                                  obtain ⟨Ao50, co50, eo50⟩ := Kd.R_slice HO199.out
                                  subst eo50
                                  go_wp2_with (first | (go_at_call 22; (with_reducible refine (cofferdamref00_EqInts.calls k1 _ _ t184 _ _ t196 true _ ?side1 ?side2 ?side3 ?side4 A38.out).mono ?_); (case side1 => repeat (first | exact (Kd.R_reads' HO187.out).2.2 | (with_reducible refine Kd.C_alloc ?_ _) | (with_reducible refine Kd.C_drewN ?_ _) | (with_reducible refine Kd.C_drew ?_))); (case side2 => exact (Kd.R_reads' HO187.out).2.1); (case side3 => repeat (first | exact (Kd.R_reads' HO199.out).2.2 | (with_reducible refine Kd.C_alloc ?_ _) | (with_reducible refine Kd.C_drewN ?_ _) | (with_reducible refine Kd.C_drew ?_))); (case side4 => exact (Kd.R_reads' HO199.out).2.1); rintro e w' ⟨rfl, ⟨nd, rfl⟩⟩; have q51 : ((l2.length : Int) : Int) ≤ ((x7_1.length : Int) : Int) := of_decide_eq_true (by first | (with_reducible assumption) | assumption); obtain ⟨i051, hi051, _, hsz51, _⟩ := info_parts info3; have hroom51 : x7_1.length ≤ co30 := (Kd.R_reads' HO_7.out).2.1; have hC51 : Kd.C (Kd.int .i64) _ Ao30 x7_1.length x7_1 := (Kd.R_reads' HO_7.out).2.2; (try clear hcut31); (try clear hcut33); have hcut51 := cut_to (P := Try.prog) 31 3 .i64 Try.underlying31 hi051 Ao30 x7_1.length co30 (l2.length : Int) (of_decide_eq_true (by first | (with_reducible assumption) | assumption)) q51 hroom51; have hr51 := Kd.C_take (m := ((l2.length : Int) : Int).toNat) hC51 (by omega); have hy51 : y201.length = ((l2.length : Int) : Int).toNat := (by rw [Ny201.out, List.length_take]; omega); rw [← Ny201.out] at hr51; rw [← hy51] at hcut51; have HR204 := Aside0.mk hr51; have HC204 := Aside0.mk (show y201.length ≤ co30 from by omega); clear hr51 hC51 hroom51 hi051 hsz51; have KY51 := Aside0.mk hy51; clear hy51; have KL51 := Aside0.mk (show ((l2.length : Int) : Int).toNat ≤ x7_1.length from by omega); replace q51 := eq_true q51) | (go_at_call 22; (with_reducible refine (cofferdamref00_EqInts.calls k1 _ _ y201 _ _ l2 true _ ?side1 ?side2 ?side3 ?side4 A42.out).mono ?_); (case side1 => repeat (first | exact (by repeat (first | (with_reducible exact HR204.out) | (with_reducible refine Kd.C_alloc ?_ _) | (with_reducible refine Kd.C_drewN ?_ _) | (with_reducible refine Kd.C_drew ?_) | exact HR204.out)) | (with_reducible refine Kd.C_alloc ?_ _) | (with_reducible refine Kd.C_drewN ?_ _) | (with_reducible refine Kd.C_drew ?_))); (case side2 => exact HC204.out); (case side3 => repeat (first | exact (Kd.C_below HR2.out (by repeat (first | (with_reducible first | exact HB.out | apply below_alloc | apply pw_below_drewN | apply below_drew1) | exact HB.out))) | (with_reducible refine Kd.C_alloc ?_ _) | (with_reducible refine Kd.C_drewN ?_ _) | (with_reducible refine Kd.C_drew ?_))); (case side4 => exact HC2.out); rintro e w' ⟨rfl, ⟨nd, rfl⟩⟩; have p206 : 0 ≤ ((l2.length : Int) : Int) := of_decide_eq_true (by first | (with_reducible assumption) | assumption); have q206 : (l2.length : Int) < (x7_1.length : Int) := of_decide_eq_true (by first | (with_reducible assumption) | assumption); obtain ⟨ad206, e206, hx206_0⟩ := Kd.at_int (Kd.R_reads' HO_7.out).2.2 (l2.length : Int) p206 q206; cases e206; (try simp only [Go.IntWalk.toNatUp] at hx206_0); replace p206 := eq_true p206; replace q206 := eq_true q206; have p207 : 0 ≤ ((ji46) : Int) := of_decide_eq_true (by first | (with_reducible assumption) | assumption); have q207 : (ji46) < (x7_1.length : Int) := of_decide_eq_true (by first | (with_reducible assumption) | assumption); obtain ⟨ad207, e207, hx207_0⟩ := Kd.at_int (Kd.R_reads' HO_7.out).2.2 (ji46) p207 q207; obtain rfl : ad206 = ad207 := (by injection e207); replace p207 := eq_true p207; replace q207 := eq_true q207))
                                  go_meet
                                  case rel => exact ⟨_, (((rd x7_1 (ji46)) != (-77))), (by first | rfl | (simp; done) | (simp only [← hji46] <;> (first | rfl | simp)) | (simp [*]; done)), H', ⟨by have := HK1.out; first | omega | exact Nat.le_refl _⟩, ⟨by (with_reducible repeat (first | apply Kd.R_alloc | apply Kd.R_drewN | apply Kd.R_drew)); exact Kd.R_mono HO187.out (fun _ hk => ⟨hk.1.2, hk.2⟩)⟩, ⟨by (with_reducible repeat (first | apply Kd.R_alloc | apply Kd.R_drewN | apply Kd.R_drew)); exact Kd.R_mono HO195.out (fun _ hk => ⟨hk.1.2, hk.2⟩)⟩, ⟨by (with_reducible repeat (first | apply Kd.R_alloc | apply Kd.R_drewN | apply Kd.R_drew)); exact Kd.R_mono HO199.out (fun _ hk => ⟨hk.1.2, hk.2⟩)⟩, ⟨by repeat (first | (with_reducible exact HR183.out) | (with_reducible refine Kd.C_alloc ?_ _) | (with_reducible refine Kd.C_drewN ?_ _) | (with_reducible refine Kd.C_drew ?_) | exact HR183.out)⟩, ⟨by repeat (first | (with_reducible exact HR191.out) | (with_reducible refine Kd.C_alloc ?_ _) | (with_reducible refine Kd.C_drewN ?_ _) | (with_reducible refine Kd.C_drew ?_) | exact HR191.out)⟩, ⟨by repeat (first | (with_reducible first | exact HB.out | apply below_alloc | apply pw_below_drewN | apply below_drew1) | exact HB.out)⟩⟩
                                · rw [if_neg c48] at H
                                  exact absurd H (by simp)
                              · rw [if_neg c47] at H
                                exact absurd H (by simp)
                            · rw [if_neg c45] at H
                              have c45b0 : ((rd x7_1 (l2.length : Int)) == (-77)) = false := beq_eq_false_iff_ne.mpr c45
                              have c45b1 : ((rd x7_1 (l2.length : Int)) != (-77)) = true := bne_iff_ne.mpr c45
                              have H' := Aside0.mk H
                              clear H
                              obtain ⟨Ao52, co52, eo52⟩ := Kd.R_slice HO187.out
                              subst eo52
                              obtain ⟨Ao53, co53, eo53⟩ := Kd.R_slice HO199.out
                              subst eo53
                              go_wp2_with (first | (go_at_call 22; (with_reducible refine (cofferdamref00_EqInts.calls k1 _ _ t184 _ _ t196 true _ ?side1 ?side2 ?side3 ?side4 A38.out).mono ?_); (case side1 => repeat (first | exact (Kd.R_reads' HO187.out).2.2 | (with_reducible refine Kd.C_alloc ?_ _) | (with_reducible refine Kd.C_drewN ?_ _) | (with_reducible refine Kd.C_drew ?_))); (case side2 => exact (Kd.R_reads' HO187.out).2.1); (case side3 => repeat (first | exact (Kd.R_reads' HO199.out).2.2 | (with_reducible refine Kd.C_alloc ?_ _) | (with_reducible refine Kd.C_drewN ?_ _) | (with_reducible refine Kd.C_drew ?_))); (case side4 => exact (Kd.R_reads' HO199.out).2.1); rintro e w' ⟨rfl, ⟨nd, rfl⟩⟩; have q54 : ((l2.length : Int) : Int) ≤ ((x7_1.length : Int) : Int) := of_decide_eq_true (by first | (with_reducible assumption) | assumption); obtain ⟨i054, hi054, _, hsz54, _⟩ := info_parts info3; have hroom54 : x7_1.length ≤ co30 := (Kd.R_reads' HO_7.out).2.1; have hC54 : Kd.C (Kd.int .i64) _ Ao30 x7_1.length x7_1 := (Kd.R_reads' HO_7.out).2.2; (try clear hcut31); (try clear hcut33); (try clear hcut51); have hcut54 := cut_to (P := Try.prog) 31 3 .i64 Try.underlying31 hi054 Ao30 x7_1.length co30 (l2.length : Int) (of_decide_eq_true (by first | (with_reducible assumption) | assumption)) q54 hroom54; have hr54 := Kd.C_take (m := ((l2.length : Int) : Int).toNat) hC54 (by omega); have hy54 : y201.length = ((l2.length : Int) : Int).toNat := (by rw [Ny201.out, List.length_take]; omega); rw [← Ny201.out] at hr54; rw [← hy54] at hcut54; have HR204 := Aside0.mk hr54; have HC204 := Aside0.mk (show y201.length ≤ co30 from by omega); clear hr54 hC54 hroom54 hi054 hsz54; have KY54 := Aside0.mk hy54; clear hy54; have KL54 := Aside0.mk (show ((l2.length : Int) : Int).toNat ≤ x7_1.length from by omega); replace q54 := eq_true q54) | (go_at_call 22; (with_reducible refine (cofferdamref00_EqInts.calls k1 _ _ y201 _ _ l2 true _ ?side1 ?side2 ?side3 ?side4 A42.out).mono ?_); (case side1 => repeat (first | exact (by repeat (first | (with_reducible exact HR204.out) | (with_reducible refine Kd.C_alloc ?_ _) | (with_reducible refine Kd.C_drewN ?_ _) | (with_reducible refine Kd.C_drew ?_) | exact HR204.out)) | (with_reducible refine Kd.C_alloc ?_ _) | (with_reducible refine Kd.C_drewN ?_ _) | (with_reducible refine Kd.C_drew ?_))); (case side2 => exact HC204.out); (case side3 => repeat (first | exact (Kd.C_below HR2.out (by repeat (first | (with_reducible first | exact HB.out | apply below_alloc | apply pw_below_drewN | apply below_drew1) | exact HB.out))) | (with_reducible refine Kd.C_alloc ?_ _) | (with_reducible refine Kd.C_drewN ?_ _) | (with_reducible refine Kd.C_drew ?_))); (case side4 => exact HC2.out); rintro e w' ⟨rfl, ⟨nd, rfl⟩⟩; have p206 : 0 ≤ ((l2.length : Int) : Int) := of_decide_eq_true (by first | (with_reducible assumption) | assumption); have q206 : (l2.length : Int) < (x7_1.length : Int) := of_decide_eq_true (by first | (with_reducible assumption) | assumption); obtain ⟨ad206, e206, hx206_0⟩ := Kd.at_int (Kd.R_reads' HO_7.out).2.2 (l2.length : Int) p206 q206; cases e206; (try simp only [Go.IntWalk.toNatUp] at hx206_0); replace p206 := eq_true p206; replace q206 := eq_true q206))
                              go_meet
                              case rel => exact ⟨_, (true), (by first | rfl | (simp; done) | (simp [*]; done)), H', ⟨by have := HK1.out; first | omega | exact Nat.le_refl _⟩, ⟨by (with_reducible repeat (first | apply Kd.R_alloc | apply Kd.R_drewN | apply Kd.R_drew)); exact Kd.R_mono HO187.out (fun _ hk => ⟨hk.1.2, hk.2⟩)⟩, ⟨by (with_reducible repeat (first | apply Kd.R_alloc | apply Kd.R_drewN | apply Kd.R_drew)); exact Kd.R_mono HO195.out (fun _ hk => ⟨hk.1.2, hk.2⟩)⟩, ⟨by (with_reducible repeat (first | apply Kd.R_alloc | apply Kd.R_drewN | apply Kd.R_drew)); exact Kd.R_mono HO199.out (fun _ hk => ⟨hk.1.2, hk.2⟩)⟩, ⟨by repeat (first | (with_reducible exact HR183.out) | (with_reducible refine Kd.C_alloc ?_ _) | (with_reducible refine Kd.C_drewN ?_ _) | (with_reducible refine Kd.C_drew ?_) | exact HR183.out)⟩, ⟨by repeat (first | (with_reducible exact HR191.out) | (with_reducible refine Kd.C_alloc ?_ _) | (with_reducible refine Kd.C_drewN ?_ _) | (with_reducible refine Kd.C_drew ?_) | exact HR191.out)⟩, ⟨by repeat (first | (with_reducible first | exact HB.out | apply below_alloc | apply pw_below_drewN | apply below_drew1) | exact HB.out)⟩⟩
                          · rw [if_neg c44] at H
                            exact absurd H (by simp)
                        · replace c43 := Bool.eq_false_iff.mpr c43
                          subst c43
                          have H1 : (cofferdamlaw08_ColourFrames.j1 k1 a0 a1 l2 t184 t192 t196 true) = some r := by rw [if_neg (show ¬ (false = true) by decide)] at H; exact H
                          clear H
                          have H := H1
                          clear H1
                          have H' := Aside0.mk H
                          clear H
                          obtain ⟨Ao55, co55, eo55⟩ := Kd.R_slice HO187.out
                          subst eo55
                          obtain ⟨Ao56, co56, eo56⟩ := Kd.R_slice HO199.out
                          subst eo56
                          go_wp2_with (first | (go_at_call 22; (with_reducible refine (cofferdamref00_EqInts.calls k1 _ _ t184 _ _ t196 true _ ?side1 ?side2 ?side3 ?side4 A38.out).mono ?_); (case side1 => repeat (first | exact (Kd.R_reads' HO187.out).2.2 | (with_reducible refine Kd.C_alloc ?_ _) | (with_reducible refine Kd.C_drewN ?_ _) | (with_reducible refine Kd.C_drew ?_))); (case side2 => exact (Kd.R_reads' HO187.out).2.1); (case side3 => repeat (first | exact (Kd.R_reads' HO199.out).2.2 | (with_reducible refine Kd.C_alloc ?_ _) | (with_reducible refine Kd.C_drewN ?_ _) | (with_reducible refine Kd.C_drew ?_))); (case side4 => exact (Kd.R_reads' HO199.out).2.1); rintro e w' ⟨rfl, ⟨nd, rfl⟩⟩; have q57 : ((l2.length : Int) : Int) ≤ ((x7_1.length : Int) : Int) := of_decide_eq_true (by first | (with_reducible assumption) | assumption); obtain ⟨i057, hi057, _, hsz57, _⟩ := info_parts info3; have hroom57 : x7_1.length ≤ co30 := (Kd.R_reads' HO_7.out).2.1; have hC57 : Kd.C (Kd.int .i64) _ Ao30 x7_1.length x7_1 := (Kd.R_reads' HO_7.out).2.2; (try clear hcut31); (try clear hcut33); (try clear hcut51); (try clear hcut54); have hcut57 := cut_to (P := Try.prog) 31 3 .i64 Try.underlying31 hi057 Ao30 x7_1.length co30 (l2.length : Int) (of_decide_eq_true (by first | (with_reducible assumption) | assumption)) q57 hroom57; have hr57 := Kd.C_take (m := ((l2.length : Int) : Int).toNat) hC57 (by omega); have hy57 : y201.length = ((l2.length : Int) : Int).toNat := (by rw [Ny201.out, List.length_take]; omega); rw [← Ny201.out] at hr57; rw [← hy57] at hcut57; have HR204 := Aside0.mk hr57; have HC204 := Aside0.mk (show y201.length ≤ co30 from by omega); clear hr57 hC57 hroom57 hi057 hsz57; have KY57 := Aside0.mk hy57; clear hy57; have KL57 := Aside0.mk (show ((l2.length : Int) : Int).toNat ≤ x7_1.length from by omega); replace q57 := eq_true q57) | (go_at_call 22; (with_reducible refine (cofferdamref00_EqInts.calls k1 _ _ y201 _ _ l2 false _ ?side1 ?side2 ?side3 ?side4 A42.out).mono ?_); (case side1 => repeat (first | exact (by repeat (first | (with_reducible exact HR204.out) | (with_reducible refine Kd.C_alloc ?_ _) | (with_reducible refine Kd.C_drewN ?_ _) | (with_reducible refine Kd.C_drew ?_) | exact HR204.out)) | (with_reducible refine Kd.C_alloc ?_ _) | (with_reducible refine Kd.C_drewN ?_ _) | (with_reducible refine Kd.C_drew ?_))); (case side2 => exact HC204.out); (case side3 => repeat (first | exact (Kd.C_below HR2.out (by repeat (first | (with_reducible first | exact HB.out | apply below_alloc | apply pw_below_drewN | apply below_drew1) | exact HB.out))) | (with_reducible refine Kd.C_alloc ?_ _) | (with_reducible refine Kd.C_drewN ?_ _) | (with_reducible refine Kd.C_drew ?_))); (case side4 => exact HC2.out); rintro e w' ⟨rfl, ⟨nd, rfl⟩⟩))
                          go_meet
                          case rel => exact ⟨_, (true), (by first | rfl | (simp; done) | (simp [*]; done)), H', ⟨by have := HK1.out; first | omega | exact Nat.le_refl _⟩, ⟨by (with_reducible repeat (first | apply Kd.R_alloc | apply Kd.R_drewN | apply Kd.R_drew)); exact Kd.R_mono HO187.out (fun _ hk => ⟨hk.1.2, hk.2⟩)⟩, ⟨by (with_reducible repeat (first | apply Kd.R_alloc | apply Kd.R_drewN | apply Kd.R_drew)); exact Kd.R_mono HO195.out (fun _ hk => ⟨hk.1.2, hk.2⟩)⟩, ⟨by (with_reducible repeat (first | apply Kd.R_alloc | apply Kd.R_drewN | apply Kd.R_drew)); exact Kd.R_mono HO199.out (fun _ hk => ⟨hk.1.2, hk.2⟩)⟩, ⟨by repeat (first | (with_reducible exact HR183.out) | (with_reducible refine Kd.C_alloc ?_ _) | (with_reducible refine Kd.C_drewN ?_ _) | (with_reducible refine Kd.C_drew ?_) | exact HR183.out)⟩, ⟨by repeat (first | (with_reducible exact HR191.out) | (with_reducible refine Kd.C_alloc ?_ _) | (with_reducible refine Kd.C_drewN ?_ _) | (with_reducible refine Kd.C_drew ?_) | exact HR191.out)⟩, ⟨by repeat (first | (with_reducible first | exact HB.out | apply below_alloc | apply pw_below_drewN | apply below_drew1) | exact HB.out)⟩⟩
                      · replace c39 := Bool.eq_false_iff.mpr c39
                        subst c39
                        have H1 : (cofferdamlaw08_ColourFrames.j1 k1 a0 a1 l2 t184 t192 t196 true) = some r := by rw [if_neg (show ¬ (false = true) by decide)] at H; exact H
                        clear H
                        have H := H1
                        clear H1
                        have H' := Aside0.mk H
                        clear H
                        obtain ⟨Ao58, co58, eo58⟩ := Kd.R_slice HO187.out
                        subst eo58
                        obtain ⟨Ao59, co59, eo59⟩ := Kd.R_slice HO199.out
                        subst eo59
                        go_wp2_with (first | (go_at_call 22; (with_reducible refine (cofferdamref00_EqInts.calls k1 _ _ t184 _ _ t196 false _ ?side1 ?side2 ?side3 ?side4 A38.out).mono ?_); (case side1 => repeat (first | exact (Kd.R_reads' HO187.out).2.2 | (with_reducible refine Kd.C_alloc ?_ _) | (with_reducible refine Kd.C_drewN ?_ _) | (with_reducible refine Kd.C_drew ?_))); (case side2 => exact (Kd.R_reads' HO187.out).2.1); (case side3 => repeat (first | exact (Kd.R_reads' HO199.out).2.2 | (with_reducible refine Kd.C_alloc ?_ _) | (with_reducible refine Kd.C_drewN ?_ _) | (with_reducible refine Kd.C_drew ?_))); (case side4 => exact (Kd.R_reads' HO199.out).2.1); rintro e w' ⟨rfl, ⟨nd, rfl⟩⟩))
                        go_meet
                        case rel => exact ⟨_, (true), (by first | rfl | (simp; done) | (simp [*]; done)), H', ⟨by have := HK1.out; first | omega | exact Nat.le_refl _⟩, ⟨by (with_reducible repeat (first | apply Kd.R_alloc | apply Kd.R_drewN | apply Kd.R_drew)); exact Kd.R_mono HO187.out (fun _ hk => ⟨hk.1.2, hk.2⟩)⟩, ⟨by (with_reducible repeat (first | apply Kd.R_alloc | apply Kd.R_drewN | apply Kd.R_drew)); exact Kd.R_mono HO195.out (fun _ hk => ⟨hk.1.2, hk.2⟩)⟩, ⟨by (with_reducible repeat (first | apply Kd.R_alloc | apply Kd.R_drewN | apply Kd.R_drew)); exact Kd.R_mono HO199.out (fun _ hk => ⟨hk.1.2, hk.2⟩)⟩, ⟨by repeat (first | (with_reducible exact HR183.out) | (with_reducible refine Kd.C_alloc ?_ _) | (with_reducible refine Kd.C_drewN ?_ _) | (with_reducible refine Kd.C_drew ?_) | exact HR183.out)⟩, ⟨by repeat (first | (with_reducible exact HR191.out) | (with_reducible refine Kd.C_alloc ?_ _) | (with_reducible refine Kd.C_drewN ?_ _) | (with_reducible refine Kd.C_drew ?_) | exact HR191.out)⟩, ⟨by repeat (first | (with_reducible first | exact HB.out | apply below_alloc | apply pw_below_drewN | apply below_drew1) | exact HB.out)⟩⟩
                    · rw [if_neg c37] at H
                      have c37b0 : (t193 == t197) = false := beq_eq_false_iff_ne.mpr c37
                      have c37b1 : (t193 != t197) = true := bne_iff_ne.mpr c37
                      have H' := Aside0.mk H
                      clear H
                      go_wp2
                      go_meet
                      case rel => exact ⟨_, (true), (by first | rfl | (simp; done) | (simp [*]; done)), H', ⟨by have := HK1.out; first | omega | exact Nat.le_refl _⟩, ⟨by (with_reducible repeat (first | apply Kd.R_alloc | apply Kd.R_drewN | apply Kd.R_drew)); exact Kd.R_mono HO187.out (fun _ hk => ⟨hk.1.2, hk.2⟩)⟩, ⟨by (with_reducible repeat (first | apply Kd.R_alloc | apply Kd.R_drewN | apply Kd.R_drew)); exact Kd.R_mono HO195.out (fun _ hk => ⟨hk.1.2, hk.2⟩)⟩, ⟨by (with_reducible repeat (first | apply Kd.R_alloc | apply Kd.R_drewN | apply Kd.R_drew)); exact Kd.R_mono HO199.out (fun _ hk => ⟨hk.1.2, hk.2⟩)⟩, ⟨by repeat (first | (with_reducible exact HR183.out) | (with_reducible refine Kd.C_alloc ?_ _) | (with_reducible refine Kd.C_drewN ?_ _) | (with_reducible refine Kd.C_drew ?_) | exact HR183.out)⟩, ⟨by repeat (first | (with_reducible exact HR191.out) | (with_reducible refine Kd.C_alloc ?_ _) | (with_reducible refine Kd.C_drewN ?_ _) | (with_reducible refine Kd.C_drew ?_) | exact HR191.out)⟩, ⟨by repeat (first | (with_reducible first | exact HB.out | apply below_alloc | apply pw_below_drewN | apply below_drew1) | exact HB.out)⟩⟩
                  · rw [if_neg c36] at H
                    have c36b0 : (t185 == t197) = false := beq_eq_false_iff_ne.mpr c36
                    have c36b1 : (t185 != t197) = true := bne_iff_ne.mpr c36
                    (first | rw [c36b0] | (simp only [i64_w, i32_w]; rw [c36b0]) | skip)
                    have H' := Aside0.mk H
                    clear H
                    go_wp2
                    go_meet
                    case rel => exact ⟨_, (true), (by first | rfl | (simp; done) | (simp [*]; done)), H', ⟨by have := HK1.out; first | omega | exact Nat.le_refl _⟩, ⟨by (with_reducible repeat (first | apply Kd.R_alloc | apply Kd.R_drewN | apply Kd.R_drew)); exact Kd.R_mono HO187.out (fun _ hk => ⟨hk.1.2, hk.2⟩)⟩, ⟨by (with_reducible repeat (first | apply Kd.R_alloc | apply Kd.R_drewN | apply Kd.R_drew)); exact Kd.R_mono HO195.out (fun _ hk => ⟨hk.1.2, hk.2⟩)⟩, ⟨by (with_reducible repeat (first | apply Kd.R_alloc | apply Kd.R_drewN | apply Kd.R_drew)); exact Kd.R_mono HO199.out (fun _ hk => ⟨hk.1.2, hk.2⟩)⟩, ⟨by repeat (first | (with_reducible exact HR183.out) | (with_reducible refine Kd.C_alloc ?_ _) | (with_reducible refine Kd.C_drewN ?_ _) | (with_reducible refine Kd.C_drew ?_) | exact HR183.out)⟩, ⟨by repeat (first | (with_reducible exact HR191.out) | (with_reducible refine Kd.C_alloc ?_ _) | (with_reducible refine Kd.C_drewN ?_ _) | (with_reducible refine Kd.C_drew ?_) | exact HR191.out)⟩, ⟨by repeat (first | (with_reducible first | exact HB.out | apply below_alloc | apply pw_below_drewN | apply below_drew1) | exact HB.out)⟩⟩
                case rest =>
                  clear HC29
                  try clear c1
                  try clear p1
                  try clear q1
                  try clear hx1
                  try clear c2
                  try clear p2
                  try clear q2
                  try clear hx2
                  try clear c3
                  try clear q3
                  try clear c4
                  try clear c5
                  try clear c5b0
                  try clear c5b1
                  try clear q5
                  try clear c6
                  try clear c6b0
                  try clear c6b1
                  try clear p6
                  try clear c9
                  try clear c9b0
                  try clear c10
                  try clear c10b0
                  try clear p11
                  try clear q11
                  try clear hx11
                  try clear hf11
                  try clear c12
                  try clear c12b0
                  try clear p13
                  try clear q13
                  try clear hx13
                  try clear hf13
                  try clear p17
                  try clear q17
                  try clear hx17
                  try clear c20
                  try clear p20
                  try clear q20
                  try clear hx20
                  try clear c21
                  try clear c22
                  try clear c22b0
                  try clear c22b1
                  try clear c23
                  try clear c23b0
                  try clear c23b1
                  try clear c25
                  try clear c25b0
                  try clear c26
                  try clear c26b0
                  try clear q31
                  try clear q33
                  try clear c36
                  try clear c36b0
                  try clear c36b1
                  try clear c37
                  try clear c37b0
                  try clear c37b1
                  try clear c39
                  try clear c40
                  try clear c40b0
                  try clear c41
                  try clear c41b0
                  try clear c43
                  try clear c44
                  try clear c44b0
                  try clear c44b1
                  try clear c45
                  try clear c45b0
                  try clear c45b1
                  try clear c47
                  try clear c47b0
                  try clear c48
                  try clear c48b0
                  try clear q51
                  try clear q54
                  try clear q57
                  try clear hx11_0
                  try clear hx13_0
                  try clear hx178_0
                  try clear hx206_0
                  try clear hx207_0
                  try clear p11
                  try clear p13
                  try clear p178
                  try clear p2
                  try clear p206
                  try clear p207
                  try clear p6
                  try clear q11
                  try clear q13
                  try clear q178
                  try clear q206
                  try clear q207
                  try clear q31
                  try clear q33
                  try clear q51
                  try clear q54
                  try clear q57
                  obtain ⟨kq, x112_28, rfl, HA, HJ28, HO_9, HO_11, HO_13, HR183, HR191, HB⟩ := hcut
                  cases kq with
                  | zero => exact absurd HA.out (by simp [cofferdamlaw08_ColourFrames.j1])
                  | succ kj28 =>
                    have H := HA.out
                    clear HA
                    simp only [cofferdamlaw08_ColourFrames.j1] at H
                    by_cases c60 : x112_28 = true
                    · subst c60
                      have H1 : (some false) = some r := by rw [if_pos rfl] at H; exact H
                      clear H
                      have H := H1
                      clear H1
                      obtain rfl := Option.some.inj H
                      go_wp2
                      go_ret
                      exact ⟨by first | rfl | (simp [errW_none, errW_some] <;> rfl) | (simp only [← hji4]; first | rfl | (simp [errW_none, errW_some] <;> rfl)) | (simp [*, errW_none, errW_some] <;> rfl), by repeat (first | (with_reducible first | exact HB.out | apply below_alloc | apply pw_below_drewN | apply below_drew1) | exact HB.out)⟩
                    · replace c60 := Bool.eq_false_iff.mpr c60
                      subst c60
                      have H1 : (cofferdamlaw08_ColourFrames.l1 kj28 a0 a1 l2 t184 t192 t196 0) = some r := by rw [if_neg (show ¬ (false = true) by decide)] at H; exact H
                      clear H
                      have H := H1
                      clear H1
                      have H' := Aside0.mk H
                      clear H
                      go_wp2
                      go_loopg [15] kj28 (fun kq v15 w' => ∃ (x9_3 : List Int) (x15_3 : Int), v15 = .int .i64 x15_3 ∧ Aside0 (cofferdamlaw08_ColourFrames.l1 kq a0 a1 l2 x9_3 t192 t196 x15_3 = some r) ∧ Aside0 (kq ≤ kj28) ∧ Aside0 (Kd.R (Kd.int .i64) 3 w' w.heap.size (fun k_ => some k_ ≠ (v194 : Value).ownBlock ∧ some k_ ≠ (v198 : Value).ownBlock) v186 x9_3) ∧ Aside0 (Kd.R (Kd.int .i64) 3 w' w.heap.size (fun k_ => some k_ ≠ (v186 : Value).ownBlock ∧ some k_ ≠ (v198 : Value).ownBlock) v194 t192) ∧ Aside0 (Kd.R (Kd.int .i64) 3 w' w.heap.size (fun k_ => some k_ ≠ (v186 : Value).ownBlock ∧ some k_ ≠ (v194 : Value).ownBlock) v198 t196) ∧ Aside0 (Below w.heap.size w w'))
                      case atStart => exact ⟨(t184), (0), (by first | rfl | (simp; done) | (simp [*]; done)), H', ⟨Nat.le_refl _⟩, ⟨by (with_reducible repeat (first | apply Kd.R_alloc | apply Kd.R_drewN | apply Kd.R_drew)); exact HO_9.out⟩, ⟨by (with_reducible repeat (first | apply Kd.R_alloc | apply Kd.R_drewN | apply Kd.R_drew)); exact HO_11.out⟩, ⟨by (with_reducible repeat (first | apply Kd.R_alloc | apply Kd.R_drewN | apply Kd.R_drew)); exact HO_13.out⟩, ⟨by repeat (first | (with_reducible first | exact HB.out | apply below_alloc | apply pw_below_drewN | apply below_drew1) | exact HB.out)⟩⟩
                      case round =>
                        clear H'
                        try clear c1
                        try clear p1
                        try clear q1
                        try clear hx1
                        try clear c2
                        try clear p2
                        try clear q2
                        try clear hx2
                        try clear c3
                        try clear q3
                        try clear c4
                        try clear c5
                        try clear c5b0
                        try clear c5b1
                        try clear q5
                        try clear c6
                        try clear c6b0
                        try clear c6b1
                        try clear p6
                        try clear c9
                        try clear c9b0
                        try clear c10
                        try clear c10b0
                        try clear p11
                        try clear q11
                        try clear hx11
                        try clear hf11
                        try clear c12
                        try clear c12b0
                        try clear p13
                        try clear q13
                        try clear hx13
                        try clear hf13
                        try clear p17
                        try clear q17
                        try clear hx17
                        try clear c20
                        try clear p20
                        try clear q20
                        try clear hx20
                        try clear c21
                        try clear c22
                        try clear c22b0
                        try clear c22b1
                        try clear c23
                        try clear c23b0
                        try clear c23b1
                        try clear c25
                        try clear c25b0
                        try clear c26
                        try clear c26b0
                        try clear q31
                        try clear q33
                        try clear c36
                        try clear c36b0
                        try clear c36b1
                        try clear c37
                        try clear c37b0
                        try clear c37b1
                        try clear c39
                        try clear c40
                        try clear c40b0
                        try clear c41
                        try clear c41b0
                        try clear c43
                        try clear c44
                        try clear c44b0
                        try clear c44b1
                        try clear c45
                        try clear c45b0
                        try clear c45b1
                        try clear c47
                        try clear c47b0
                        try clear c48
                        try clear c48b0
                        try clear q51
                        try clear q54
                        try clear q57
                        try clear c60
                        try clear hx11_0
                        try clear hx13_0
                        try clear hx178_0
                        try clear hx206_0
                        try clear hx207_0
                        try clear p1
                        try clear p11
                        try clear p13
                        try clear p17
                        try clear p178
                        try clear p2
                        try clear p20
                        try clear p206
                        try clear p207
                        try clear p6
                        try clear q1
                        try clear q11
                        try clear q13
                        try clear q17
                        try clear q178
                        try clear q2
                        try clear q20
                        try clear q206
                        try clear q207
                        try clear q3
                        try clear q31
                        try clear q33
                        try clear q5
                        try clear q51
                        try clear q54
                        try clear q57
                        obtain ⟨x9_3, x15_3, rfl, HA, HK3, HO_9, HO_11, HO_13, HB⟩ := hrel
                        cases gk with
                        | zero => exact absurd HA.out (by simp [cofferdamlaw08_ColourFrames.l1])
                        | succ k3 =>
                          have H := HA.out
                          clear HA
                          simp only [cofferdamlaw08_ColourFrames.l1] at H
                          by_cases c61 : x15_3 < (x9_3.length : Int)
                          · rw [if_pos c61] at H
                            have c61b0 : decide (x15_3 < (x9_3.length : Int)) = true := decide_eq_true c61
                            clear c61
                            by_cases c62 : 0 ≤ x15_3
                            · rw [if_pos c62] at H
                              have c62b0 : decide (0 ≤ x15_3) = true := decide_eq_true c62
                              clear c62
                              obtain ⟨y208, hy208⟩ : ∃ y_ : List Int, y_ = (x9_3.set (x15_3 : Int).toNat (-5)) := ⟨_, rfl⟩
                              replace H : (cofferdamlaw08_ColourFrames.l1 k3 a0 a1 l2 y208 t192 t196 (wrap64 (x15_3 + 1))) = some r := by first | (rw [hy208]; with_reducible exact H) | (have H2_ := (Option.bind_some _ _).symm.trans H; rw [hy208]; with_reducible exact H2_) | (have H2_ := (Option.bind_some _ _).symm.trans H; with_reducible exact H2_) | with_reducible exact H | (rw [hy208]; exact H) | exact H
                              have Ny208 := Aside0.mk hy208
                              clear hy208
                              have H' := Aside0.mk H
                              clear H
                              obtain ⟨Ao64, co64, eo64⟩ := Kd.R_slice HO_9.out
                              subst eo64
                              have p63 : 0 ≤ (x15_3 : Int) := of_decide_eq_true (by first | (with_reducible assumption) | assumption)
                              have q63 : (x15_3 : Int) < ((x9_3.length : Int) : Int) := of_decide_eq_true (by first | (with_reducible assumption) | assumption)
                              obtain ⟨go63, co63, eo63, gb63, gl63, cl63, HG63⟩ := Kd.R_form HO_9.out (by omega)
                              (first | cases eo63 | (injection eo63 with ea_ en_ ec_; (first | subst ea_ | (injection ea_ with ea_; subst ea_)); subst ec_; clear en_))
                              have GB63 := Aside0.mk gb63
                              have GG63 := Aside0.mk HG63
                              clear gb63 gl63 HG63
                              obtain ⟨hx63_0, hf63_0⟩ := Kd.R_celln 0 HO_9.out (x15_3 : Int) p63 q63
                              replace p63 := eq_true p63
                              replace q63 := eq_true q63
                              have HP65 := Kd.R_putg HO_9.out (x15_3 : Int) (-5)
                              go_wp2_with (first | ((with_reducible refine gate_store (t := 3) (p := 121) rfl ?_); refine store_event (t := 3) (p := 121) (v := ?vo_w66) (w1 := (wr.setCell ⟨go63, (x15_3 : Int).toNat, none⟩ (.int .i64 (-5)))) ?hg ?ho ?hn ?hr ?_; (case ho => rfl); (case hg => rfl); (case hn => rfl); (case hr => first | (go_simp; done) | (go_simp; rfl)); intro w66 hw; have hg : wr.grownBy w66 (some go63) := (by rw [hw]; exact HP65.2); have hp_ : Kd.R (Kd.int .i64) 3 w66 w.heap.size (fun k_ => some k_ ≠ (v194 : Value).ownBlock ∧ some k_ ≠ (v198 : Value).ownBlock) (.slice (some ⟨go63, 0, none⟩) x9_3.length co64) y208 := (by rw [hw, Ny208.out]; exact HP65.1); clear HP65; have n0_ := Aside0.mk (hp_); have n1_ := Aside0.mk (Kd.R_after (v := (.slice (some ⟨go63, 0, none⟩) x9_3.length co64)) (v1 := (.slice (some ⟨go63, 0, none⟩) x9_3.length co64)) (ok := (fun k_ => some k_ ≠ (v198 : Value).ownBlock)) (by (with_reducible repeat (first | apply Kd.R_alloc | apply Kd.R_drewN | apply Kd.R_drew)); exact Kd.R_mono HO_11.out (fun _ hk => ⟨hk.2, hk.1⟩)) hg (.inl rfl)); have n2_ := Aside0.mk (Kd.R_after (v := (.slice (some ⟨go63, 0, none⟩) x9_3.length co64)) (v1 := (.slice (some ⟨go63, 0, none⟩) x9_3.length co64)) (ok := (fun k_ => some k_ ≠ (v194 : Value).ownBlock)) (by (with_reducible repeat (first | apply Kd.R_alloc | apply Kd.R_drewN | apply Kd.R_drew)); exact Kd.R_mono HO_13.out (fun _ hk => ⟨hk.2, hk.1⟩)) hg (.inl rfl)); have n3_ := Aside0.mk ((by rw [hw]; exact below_set (HB.out) GB63.out : Below w.heap.size w w66)); clear HO_9; clear HO_11; clear HO_13; clear HB; have HO_9 := n0_; have HO_11 := n1_; have HO_13 := n2_; have HB := n3_; clear n0_ n1_ n2_ n3_; clear hg hw hp_))
                              go_roundg k3
                              case measure => have := HK1.out; have := HJ28.out; have := HK3.out; omega
                              case rel => exact ⟨(y208), (wrap64 (x15_3 + 1)), (by first | rfl | (simp; done) | (simp [*]; done)), H', ⟨by have := HK1.out; have := HJ28.out; have := HK3.out; omega⟩, ⟨by (with_reducible repeat (first | apply Kd.R_alloc | apply Kd.R_drewN | apply Kd.R_drew)); exact HO_9.out⟩, ⟨by (with_reducible repeat (first | apply Kd.R_alloc | apply Kd.R_drewN | apply Kd.R_drew)); exact Kd.R_mono HO_11.out (fun _ hk => ⟨hk.2, hk.1⟩)⟩, ⟨by (with_reducible repeat (first | apply Kd.R_alloc | apply Kd.R_drewN | apply Kd.R_drew)); exact Kd.R_mono HO_13.out (fun _ hk => ⟨hk.2, hk.1⟩)⟩, ⟨by repeat (first | (with_reducible first | exact HB.out | apply below_alloc | apply pw_below_drewN | apply below_drew1) | exact HB.out)⟩⟩
                            · rw [if_neg c62] at H
                              exact absurd H (by simp)
                          · rw [if_neg c61] at H
                            have c61b0 : decide (x15_3 < (x9_3.length : Int)) = false := decide_eq_false c61
                            clear c61
                            have H' := Aside0.mk H
                            clear H
                            obtain ⟨Ao67, co67, eo67⟩ := Kd.R_slice HO_9.out
                            subst eo67
                            go_wp2
                            go_loopg [9, 16] k3 (fun kq v9 v16 w' => ∃ (x9_4 : List Int) (x16_4 : Int), v16 = .int .i64 x16_4 ∧ Aside0 (cofferdamlaw08_ColourFrames.l2 kq a0 a1 l2 x9_4 t192 t196 x16_4 = some r) ∧ Aside0 (kq ≤ k3) ∧ Aside0 (Kd.R (Kd.int .i64) 3 w' w.heap.size (fun k_ => some k_ ≠ (v194 : Value).ownBlock ∧ some k_ ≠ (v198 : Value).ownBlock) v9 x9_4) ∧ Aside0 (Kd.R (Kd.int .i64) 3 w' w.heap.size (fun k_ => some k_ ≠ (v9 : Value).ownBlock ∧ some k_ ≠ (v198 : Value).ownBlock) v194 t192) ∧ Aside0 (Kd.R (Kd.int .i64) 3 w' w.heap.size (fun k_ => some k_ ≠ (v9 : Value).ownBlock ∧ some k_ ≠ (v194 : Value).ownBlock) v198 t196) ∧ Aside0 (Below w.heap.size w w'))
                            case atStart => exact ⟨(x9_3), (0), (by first | rfl | (simp; done) | (simp [*]; done)), H', ⟨Nat.le_refl _⟩, ⟨by (with_reducible repeat (first | apply Kd.R_alloc | apply Kd.R_drewN | apply Kd.R_drew)); exact HO_9.out⟩, ⟨by (with_reducible repeat (first | apply Kd.R_alloc | apply Kd.R_drewN | apply Kd.R_drew)); exact HO_11.out⟩, ⟨by (with_reducible repeat (first | apply Kd.R_alloc | apply Kd.R_drewN | apply Kd.R_drew)); exact HO_13.out⟩, ⟨by repeat (first | (with_reducible first | exact HB.out | apply below_alloc | apply pw_below_drewN | apply below_drew1) | exact HB.out)⟩⟩
                            case round =>
                              clear H'
                              try clear c1
                              try clear p1
                              try clear q1
                              try clear hx1
                              try clear c2
                              try clear p2
                              try clear q2
                              try clear hx2
                              try clear c3
                              try clear q3
                              try clear c4
                              try clear c5
                              try clear c5b0
                              try clear c5b1
                              try clear q5
                              try clear c6
                              try clear c6b0
                              try clear c6b1
                              try clear p6
                              try clear q6
                              try clear hx6
                              try clear hf6
                              try clear c9
                              try clear c9b0
                              try clear c10
                              try clear c10b0
                              try clear p11
                              try clear q11
                              try clear hx11
                              try clear hf11
                              try clear c12
                              try clear c12b0
                              try clear p13
                              try clear q13
                              try clear hx13
                              try clear hf13
                              try clear p17
                              try clear q17
                              try clear hx17
                              try clear c20
                              try clear p20
                              try clear q20
                              try clear hx20
                              try clear c21
                              try clear c22
                              try clear c22b0
                              try clear c22b1
                              try clear c23
                              try clear c23b0
                              try clear c23b1
                              try clear c25
                              try clear c25b0
                              try clear c26
                              try clear c26b0
                              try clear q31
                              try clear q33
                              try clear c36
                              try clear c36b0
                              try clear c36b1
                              try clear c37
                              try clear c37b0
                              try clear c37b1
                              try clear c39
                              try clear c40
                              try clear c40b0
                              try clear c41
                              try clear c41b0
                              try clear c43
                              try clear c44
                              try clear c44b0
                              try clear c44b1
                              try clear c45
                              try clear c45b0
                              try clear c45b1
                              try clear c47
                              try clear c47b0
                              try clear c48
                              try clear c48b0
                              try clear q51
                              try clear q54
                              try clear q57
                              try clear c60
                              try clear c61
                              try clear c61b0
                              try clear c62
                              try clear c62b0
                              try clear p63
                              try clear q63
                              try clear hx63
                              try clear hf63
                              try clear p64
                              try clear hx11_0
                              try clear hx13_0
                              try clear hx178_0
                              try clear hx206_0
                              try clear hx207_0
                              try clear hx63_0
                              try clear p1
                              try clear p11
                              try clear p13
                              try clear p17
                              try clear p178
                              try clear p2
                              try clear p20
                              try clear p206
                              try clear p207
                              try clear p6
                              try clear p63
                              try clear q1
                              try clear q11
                              try clear q13
                              try clear q17
                              try clear q178
                              try clear q2
                              try clear q20
                              try clear q206
                              try clear q207
                              try clear q3
                              try clear q31
                              try clear q33
                              try clear q5
                              try clear q51
                              try clear q54
                              try clear q57
                              try clear q63
                              obtain ⟨x9_4, x16_4, rfl, HA, HK4, HO_9, HO_11, HO_13, HB⟩ := hrel
                              cases gk with
                              | zero => exact absurd HA.out (by simp [cofferdamlaw08_ColourFrames.l2])
                              | succ k4 =>
                                have H := HA.out
                                clear HA
                                simp only [cofferdamlaw08_ColourFrames.l2] at H
                                by_cases c68 : x16_4 < 10
                                · rw [if_pos c68] at H
                                  have c68b0 : decide (x16_4 < 10) = true := decide_eq_true c68
                                  clear c68
                                  by_cases c69 : x9_4.length < 17592186044416
                                  · rw [if_pos c69] at H
                                    have LMc69 := Aside0.mk c69
                                    clear c69
                                    obtain ⟨y209, hy209⟩ : ∃ y_ : List Int, y_ = (x9_4 ++ [(-6)]) := ⟨_, rfl⟩
                                    replace H : (cofferdamlaw08_ColourFrames.l2 k4 a0 a1 l2 y209 t192 t196 (wrap64 (x16_4 + 1))) = some r := by first | (rw [hy209]; with_reducible exact H) | (have H2_ := (Option.bind_some _ _).symm.trans H; rw [hy209]; with_reducible exact H2_) | (have H2_ := (Option.bind_some _ _).symm.trans H; with_reducible exact H2_) | with_reducible exact H | (rw [hy209]; exact H) | exact H
                                    have Ny209 := Aside0.mk hy209
                                    clear hy209
                                    have H' := Aside0.mk H
                                    clear H
                                    go_wp2_with (first | ((with_reducible refine gate_builtin (b := .append) (xs := #[.tmp 126, .tmp 127]) rfl ?_); (try (refine gate_guard (by rfl) ?_; dsimp only)); at_builtin; refine Kd.R_append (Kd.int .i64) (w0 := w) w.heap.size rfl (.tmp 126) (.tmp 127) 31 3 (.int .i64 0) 8 rfl Try.underlying31 info3 rfl (by decide) (by omega) u9 x9_4 (-6) [.int .i64 (-6)] (fun k_ => some k_ ≠ (v194 : Value).ownBlock ∧ some k_ ≠ (v198 : Value).ownBlock) (fun _ => False) rfl rfl ?aP (fun _ hk => hk.elim) ?aF ?aO ?aB ?aS ?aL ?_; (case aP => exact rfl); (case aB => exact (by repeat (first | (with_reducible first | exact HB.out | apply below_alloc | apply pw_below_drewN | apply below_drew1) | exact HB.out))); (case aF => exact (fun k_ hk => ⟨Kd.fresh' (Kd.R_lt (by (with_reducible repeat (first | apply Kd.R_alloc | apply Kd.R_drewN | apply Kd.R_drew)); exact HO_11.out)) k_ hk, Kd.fresh' (Kd.R_lt (by (with_reducible repeat (first | apply Kd.R_alloc | apply Kd.R_drewN | apply Kd.R_drew)); exact HO_13.out)) k_ hk⟩)); (case aO => exact (by (with_reducible repeat (first | apply Kd.R_alloc | apply Kd.R_drewN | apply Kd.R_drew)); exact HO_9.out)); (case aS => exact (below_size (by repeat (first | (with_reducible first | exact HB.out | apply below_alloc | apply pw_below_drewN | apply below_drew1) | exact HB.out)))); (case aL => have := LMc69.out; omega); intro v210 w70 ho hb hg hat; rw [← Ny209.out] at ho; have n0_ := Aside0.mk (Kd.R_after (ok := (fun k_ => some k_ ≠ (v198 : Value).ownBlock)) (by (with_reducible repeat (first | apply Kd.R_alloc | apply Kd.R_drewN | apply Kd.R_drew)); exact Kd.R_mono HO_11.out (fun _ hk => ⟨hk.2, hk.1⟩)) hg hat); have n1_ := Aside0.mk (Kd.R_after (ok := (fun k_ => some k_ ≠ (v194 : Value).ownBlock)) (by (with_reducible repeat (first | apply Kd.R_alloc | apply Kd.R_drewN | apply Kd.R_drew)); exact Kd.R_mono HO_13.out (fun _ hk => ⟨hk.2, hk.1⟩)) hg hat); have n2_ := Aside0.mk (hb); have n3_ := Aside0.mk (ho); clear HO_11; clear HO_13; clear HB; clear HO_9; have HO_11 := n0_; have HO_13 := n1_; have HB := n2_; have HO211 := n3_; clear n0_ n1_ n2_ n3_; clear ho hb hg hat))
                                    go_roundg k4
                                    case measure => have := HK1.out; have := HJ28.out; have := HK3.out; have := HK4.out; omega
                                    case rel => exact ⟨(y209), (wrap64 (x16_4 + 1)), (by first | rfl | (simp; done) | (simp [*]; done)), H', ⟨by have := HK1.out; have := HJ28.out; have := HK3.out; have := HK4.out; omega⟩, ⟨by (with_reducible repeat (first | apply Kd.R_alloc | apply Kd.R_drewN | apply Kd.R_drew)); exact HO211.out⟩, ⟨by (with_reducible repeat (first | apply Kd.R_alloc | apply Kd.R_drewN | apply Kd.R_drew)); exact Kd.R_mono HO_11.out (fun _ hk => ⟨hk.2, hk.1⟩)⟩, ⟨by (with_reducible repeat (first | apply Kd.R_alloc | apply Kd.R_drewN | apply Kd.R_drew)); exact Kd.R_mono HO_13.out (fun _ hk => ⟨hk.2, hk.1⟩)⟩, ⟨by repeat (first | (with_reducible first | exact HB.out | apply below_alloc | apply pw_below_drewN | apply below_drew1) | exact HB.out)⟩⟩
                                  · rw [if_neg c69] at H
                                    exact absurd H (by simp)
                                · rw [if_neg c68] at H
                                  have c68b0 : decide (x16_4 < 10) = false := decide_eq_false c68
                                  clear c68
                                  have H' := Aside0.mk H
                                  clear H
                                  go_wp2
                                  go_loopg [17] k4 (fun kq v17 w' => ∃ (x17_5 : Int), v17 = .int .i64 x17_5 ∧ Aside0 (cofferdamlaw08_ColourFrames.l3 kq a0 a1 l2 t192 t196 x17_5 = some r) ∧ Aside0 (kq ≤ k4) ∧ Aside0 (Kd.R (Kd.int .i64) 3 w' w.heap.size (fun k_ => some k_ ≠ (v198 : Value).ownBlock) v194 t192) ∧ Aside0 (Kd.R (Kd.int .i64) 3 w' w.heap.size (fun k_ => some k_ ≠ (v194 : Value).ownBlock) v198 t196) ∧ Aside0 (Below w.heap.size w w'))
                                  case atStart => exact ⟨(0), (by first | rfl | (simp; done) | (simp [*]; done)), H', ⟨Nat.le_refl _⟩, ⟨by (with_reducible repeat (first | apply Kd.R_alloc | apply Kd.R_drewN | apply Kd.R_drew)); exact Kd.R_mono HO_11.out (fun _ hk => hk.2)⟩, ⟨by (with_reducible repeat (first | apply Kd.R_alloc | apply Kd.R_drewN | apply Kd.R_drew)); exact Kd.R_mono HO_13.out (fun _ hk => hk.2)⟩, ⟨by repeat (first | (with_reducible first | exact HB.out | apply below_alloc | apply pw_below_drewN | apply below_drew1) | exact HB.out)⟩⟩
                                  case round =>
                                    clear H'
                                    try clear c1
                                    try clear p1
                                    try clear q1
                                    try clear hx1
                                    try clear c2
                                    try clear p2
                                    try clear q2
                                    try clear hx2
                                    try clear c3
                                    try clear q3
                                    try clear c4
                                    try clear c5
                                    try clear c5b0
                                    try clear c5b1
                                    try clear q5
                                    try clear c6
                                    try clear c6b0
                                    try clear c6b1
                                    try clear p6
                                    try clear q6
                                    try clear hx6
                                    try clear hf6
                                    try clear c9
                                    try clear c9b0
                                    try clear c10
                                    try clear c10b0
                                    try clear p11
                                    try clear q11
                                    try clear hx11
                                    try clear hf11
                                    try clear c12
                                    try clear c12b0
                                    try clear p13
                                    try clear q13
                                    try clear hx13
                                    try clear hf13
                                    try clear p17
                                    try clear q17
                                    try clear hx17
                                    try clear c20
                                    try clear p20
                                    try clear q20
                                    try clear hx20
                                    try clear c21
                                    try clear c22
                                    try clear c22b0
                                    try clear c22b1
                                    try clear c23
                                    try clear c23b0
                                    try clear c23b1
                                    try clear c25
                                    try clear c25b0
                                    try clear c26
                                    try clear c26b0
                                    try clear q31
                                    try clear q33
                                    try clear c36
                                    try clear c36b0
                                    try clear c36b1
                                    try clear c37
                                    try clear c37b0
                                    try clear c37b1
                                    try clear c39
                                    try clear c40
                                    try clear c40b0
                                    try clear c41
                                    try clear c41b0
                                    try clear c43
                                    try clear c44
                                    try clear c44b0
                                    try clear c44b1
                                    try clear c45
                                    try clear c45b0
                                    try clear c45b1
                                    try clear c47
                                    try clear c47b0
                                    try clear c48
                                    try clear c48b0
                                    try clear q51
                                    try clear q54
                                    try clear q57
                                    try clear c60
                                    try clear c61
                                    try clear c61b0
                                    try clear c62
                                    try clear c62b0
                                    try clear p63
                                    try clear q63
                                    try clear hx63
                                    try clear hf63
                                    try clear p64
                                    try clear c68
                                    try clear c68b0
                                    try clear c69
                                    try clear hx11_0
                                    try clear hx13_0
                                    try clear hx178_0
                                    try clear hx206_0
                                    try clear hx207_0
                                    try clear hx63_0
                                    try clear p1
                                    try clear p11
                                    try clear p13
                                    try clear p17
                                    try clear p178
                                    try clear p2
                                    try clear p20
                                    try clear p206
                                    try clear p207
                                    try clear p6
                                    try clear p63
                                    try clear p64
                                    try clear q1
                                    try clear q11
                                    try clear q13
                                    try clear q17
                                    try clear q178
                                    try clear q2
                                    try clear q20
                                    try clear q206
                                    try clear q207
                                    try clear q3
                                    try clear q31
                                    try clear q33
                                    try clear q5
                                    try clear q51
                                    try clear q54
                                    try clear q57
                                    try clear q6
                                    try clear q63
                                    obtain ⟨x17_5, rfl, HA, HK5, HO_11, HO_13, HB⟩ := hrel
                                    cases gk with
                                    | zero => exact absurd HA.out (by simp [cofferdamlaw08_ColourFrames.l3])
                                    | succ k5 =>
                                      have H := HA.out
                                      clear HA
                                      simp only [cofferdamlaw08_ColourFrames.l3] at H
                                      have HC71 := Aside0.mk H
                                      clear H
                                      go_upto_region 22 with (fail)
                                      go_cut [136] (fun v136 wc => ∃ (kq : Nat) (x136_70 : Bool), v136 = .bool x136_70 ∧ Aside0 (cofferdamlaw08_ColourFrames.j5 kq a0 a1 l2 t192 t196 x17_5 x136_70 = some r) ∧ Aside0 (kq ≤ k5) ∧ Aside0 (Kd.R (Kd.int .i64) 3 wc w.heap.size (fun k_ => some k_ ≠ (v198 : Value).ownBlock) v194 t192) ∧ Aside0 (Kd.R (Kd.int .i64) 3 wc w.heap.size (fun k_ => some k_ ≠ (v194 : Value).ownBlock) v198 t196) ∧ Aside0 (Below w.heap.size w wc))
                                      case first =>
                                        have H := HC71.out
                                        clear HC71
                                        by_cases c72 : x17_5 < (l2.length : Int)
                                        · rw [if_pos c72] at H
                                          have c72b0 : decide (x17_5 < (l2.length : Int)) = true := decide_eq_true c72
                                          clear c72
                                          (first | rw [c72b0] | (simp only [i64_w, i32_w]; rw [c72b0]) | skip)
                                          have H' := Aside0.mk H
                                          clear H
                                          go_wp2
                                          go_meet
                                          case rel => exact ⟨_, (decide (x17_5 < 20)), (by first | rfl | (simp; done) | (simp [*]; done)), H', ⟨by have := HK1.out; have := HJ28.out; have := HK3.out; have := HK4.out; have := HK5.out; first | omega | exact Nat.le_refl _⟩, ⟨by (with_reducible repeat (first | apply Kd.R_alloc | apply Kd.R_drewN | apply Kd.R_drew)); exact HO_11.out⟩, ⟨by (with_reducible repeat (first | apply Kd.R_alloc | apply Kd.R_drewN | apply Kd.R_drew)); exact HO_13.out⟩, ⟨by repeat (first | (with_reducible first | exact HB.out | apply below_alloc | apply pw_below_drewN | apply below_drew1) | exact HB.out)⟩⟩
                                        · rw [if_neg c72] at H
                                          have c72b0 : decide (x17_5 < (l2.length : Int)) = false := decide_eq_false c72
                                          clear c72
                                          (first | rw [c72b0] | (simp only [i64_w, i32_w]; rw [c72b0]) | skip)
                                          have H' := Aside0.mk H
                                          clear H
                                          go_wp2
                                          go_meet
                                          case rel => exact ⟨_, (false), (by first | rfl | (simp; done) | (simp [*]; done)), H', ⟨by have := HK1.out; have := HJ28.out; have := HK3.out; have := HK4.out; have := HK5.out; first | omega | exact Nat.le_refl _⟩, ⟨by (with_reducible repeat (first | apply Kd.R_alloc | apply Kd.R_drewN | apply Kd.R_drew)); exact HO_11.out⟩, ⟨by (with_reducible repeat (first | apply Kd.R_alloc | apply Kd.R_drewN | apply Kd.R_drew)); exact HO_13.out⟩, ⟨by repeat (first | (with_reducible first | exact HB.out | apply below_alloc | apply pw_below_drewN | apply below_drew1) | exact HB.out)⟩⟩
                                      case rest =>
                                        clear HC71
                                        try clear c1
                                        try clear p1
                                        try clear q1
                                        try clear hx1
                                        try clear c2
                                        try clear p2
                                        try clear q2
                                        try clear hx2
                                        try clear c3
                                        try clear q3
                                        try clear c4
                                        try clear c5
                                        try clear c5b0
                                        try clear c5b1
                                        try clear q5
                                        try clear c6
                                        try clear c6b0
                                        try clear c6b1
                                        try clear p6
                                        try clear q6
                                        try clear hx6
                                        try clear hf6
                                        try clear c7
                                        try clear c9
                                        try clear c9b0
                                        try clear c10
                                        try clear c10b0
                                        try clear p11
                                        try clear q11
                                        try clear hx11
                                        try clear hf11
                                        try clear c12
                                        try clear c12b0
                                        try clear p13
                                        try clear q13
                                        try clear hx13
                                        try clear hf13
                                        try clear p17
                                        try clear q17
                                        try clear hx17
                                        try clear c20
                                        try clear p20
                                        try clear q20
                                        try clear hx20
                                        try clear c21
                                        try clear c22
                                        try clear c22b0
                                        try clear c22b1
                                        try clear c23
                                        try clear c23b0
                                        try clear c23b1
                                        try clear c25
                                        try clear c25b0
                                        try clear c26
                                        try clear c26b0
                                        try clear q31
                                        try clear q33
                                        try clear c36
                                        try clear c36b0
                                        try clear c36b1
                                        try clear c37
                                        try clear c37b0
                                        try clear c37b1
                                        try clear c39
                                        try clear c40
                                        try clear c40b0
                                        try clear c41
                                        try clear c41b0
                                        try clear c43
                                        try clear c44
                                        try clear c44b0
                                        try clear c44b1
                                        try clear c45
                                        try clear c45b0
                                        try clear c45b1
                                        try clear c47
                                        try clear c47b0
                                        try clear c48
                                        try clear c48b0
                                        try clear q51
                                        try clear q54
                                        try clear q57
                                        try clear c60
                                        try clear c61
                                        try clear c61b0
                                        try clear c62
                                        try clear c62b0
                                        try clear p63
                                        try clear q63
                                        try clear hx63
                                        try clear hf63
                                        try clear p64
                                        try clear c68
                                        try clear c68b0
                                        try clear c69
                                        try clear c72
                                        try clear c72b0
                                        try clear hx11_0
                                        try clear hx13_0
                                        try clear hx178_0
                                        try clear hx206_0
                                        try clear hx207_0
                                        try clear hx63_0
                                        try clear p1
                                        try clear p11
                                        try clear p13
                                        try clear p17
                                        try clear p178
                                        try clear p2
                                        try clear p20
                                        try clear p206
                                        try clear p207
                                        try clear p6
                                        try clear p63
                                        try clear p64
                                        try clear q1
                                        try clear q11
                                        try clear q13
                                        try clear q17
                                        try clear q178
                                        try clear q2
                                        try clear q20
                                        try clear q206
                                        try clear q207
                                        try clear q3
                                        try clear q31
                                        try clear q33
                                        try clear q5
                                        try clear q51
                                        try clear q54
                                        try clear q57
                                        try clear q6
                                        try clear q63
                                        obtain ⟨kq, x136_70, rfl, HA, HJ70, HO_11, HO_13, HB⟩ := hcut
                                        cases kq with
                                        | zero => exact absurd HA.out (by simp [cofferdamlaw08_ColourFrames.j5])
                                        | succ kj70 =>
                                          have H := HA.out
                                          clear HA
                                          simp only [cofferdamlaw08_ColourFrames.j5] at H
                                          by_cases c73 : x136_70 = true
                                          · subst c73
                                            have H1 : (if 0 ≤ x17_5 then (if x17_5 < (l2.length : Int) then ((colour_Count.f a0 a1 (rd l2 x17_5)).bind fun bt215 => ((cofferdamref08_Count.f a0 a1 (rd l2 x17_5)).bind fun bt218 => (if bt215.1 = bt218.1 then (if bt215.2 = bt218.2 then (cofferdamlaw08_ColourFrames.l3 kj70 a0 a1 l2 t192 t196 (wrap64 (x17_5 + 1))) else (some false)) else (some false)))) else (none)) else (none)) = some r := by rw [if_pos rfl] at H; exact H
                                            clear H
                                            have H := H1
                                            clear H1
                                            by_cases c74 : 0 ≤ x17_5
                                            · rw [if_pos c74] at H
                                              have c74b0 : decide (0 ≤ x17_5) = true := decide_eq_true c74
                                              clear c74
                                              by_cases c75 : x17_5 < (l2.length : Int)
                                              · rw [if_pos c75] at H
                                                have c75b0 : decide (x17_5 < (l2.length : Int)) = true := decide_eq_true c75
                                                clear c75
                                                replace H := Option.bind_eq_some_iff.mp H
                                                obtain ⟨⟨t215, t216⟩, A760, H⟩ := H
                                                replace H : ((cofferdamref08_Count.f a0 a1 (rd l2 x17_5)).bind fun bt218 => (if t215 = bt218.1 then (if t216 = bt218.2 then (cofferdamlaw08_ColourFrames.l3 kj70 a0 a1 l2 t192 t196 (wrap64 (x17_5 + 1))) else (some false)) else (some false))) = some r := H
                                                have A76 := Aside0.mk A760
                                                clear A760
                                                replace H := Option.bind_eq_some_iff.mp H
                                                obtain ⟨⟨t218, t219⟩, A770, H⟩ := H
                                                replace H : (if t215 = t218 then (if t216 = t219 then (cofferdamlaw08_ColourFrames.l3 kj70 a0 a1 l2 t192 t196 (wrap64 (x17_5 + 1))) else (some false)) else (some false)) = some r := H
                                                have A77 := Aside0.mk A770
                                                clear A770
                                                by_cases c78 : t215 = t218
                                                · rw [if_pos c78] at H
                                                  have c78b0 : (t215 == t218) = true := beq_iff_eq.mpr c78
                                                  have c78b1 : (t215 != t218) = false := bne_eq_false_iff_eq.mpr c78
                                                  clear c78
                                                  by_cases c79 : t216 = t219
                                                  · rw [if_pos c79] at H
                                                    have c79b0 : (t216 == t219) = true := beq_iff_eq.mpr c79
                                                    have c79b1 : (t216 != t219) = false := bne_eq_false_iff_eq.mpr c79
                                                    clear c79
                                                    have H' := Aside0.mk H
                                                    clear H
                                                    have p214 : 0 ≤ (x17_5 : Int) := of_decide_eq_true (by first | (with_reducible assumption) | assumption)
                                                    have q214 : x17_5 < (l2.length : Int) := of_decide_eq_true (by first | (with_reducible assumption) | assumption)
                                                    obtain ⟨ad214, e214, hx214_0⟩ := Kd.at_int HR2.out x17_5 p214 q214
                                                    cases e214
                                                    replace hx214_0 := (HB.out.cell (World.block_lt_of_cell? w _ hx214_0)).trans hx214_0
                                                    replace p214 := eq_true p214
                                                    replace q214 := eq_true q214
                                                    go_wp2_with (first | ((with_reducible refine gate_callee (f := 23) rfl ?_); refine goesL_ (some 146) rfl rfl Try.func23 (by kernel_rfl) rfl #[.int .i64 a0, .int .i64 a1, .int .i64 (rd l2 x17_5)] rfl (by (try simp only [List.map_toArray, List.map_cons, List.map_nil]); first | done | rfl | (simp only [List.length_drop, List.length_take]; rfl)) ?_; (with_reducible refine (colour_Count.calls a0 a1 (rd l2 x17_5) t215 t216 _ A76.out).mono ?_); rintro e w' ⟨rfl, ⟨nd, rfl⟩⟩; refine ⟨_, rfl, ?_⟩; have p217 : 0 ≤ (x17_5 : Int) := of_decide_eq_true (by first | (with_reducible assumption) | assumption); have q217 : x17_5 < (l2.length : Int) := of_decide_eq_true (by first | (with_reducible assumption) | assumption); obtain ⟨ad217, e217, hx217_0⟩ := Kd.at_int HR2.out x17_5 p217 q217; obtain rfl : ad214 = ad217 := (by injection e217); replace hx217_0 := (HB.out.cell (World.block_lt_of_cell? w _ hx217_0)).trans hx217_0; replace p217 := eq_true p217; replace q217 := eq_true q217) | ((with_reducible refine gate_callee (f := 24) rfl ?_); refine goesL_ (some 156) rfl rfl Try.func24 (by kernel_rfl) rfl #[.int .i64 a0, .int .i64 a1, .int .i64 (rd l2 x17_5)] rfl (by (try simp only [List.map_toArray, List.map_cons, List.map_nil]); first | done | rfl | (simp only [List.length_drop, List.length_take]; rfl)) ?_; (with_reducible refine (cofferdamref08_Count.calls a0 a1 (rd l2 x17_5) t218 t219 _ A77.out).mono ?_); rintro e w80 ⟨rfl, hb⟩; refine ⟨_, rfl, ?_⟩; have n0_ := Aside0.mk (Kd.R_below (by (with_reducible repeat (first | apply Kd.R_alloc | apply Kd.R_drewN | apply Kd.R_drew)); exact HO_11.out) hb); have n1_ := Aside0.mk (Kd.R_below (by (with_reducible repeat (first | apply Kd.R_alloc | apply Kd.R_drewN | apply Kd.R_drew)); exact HO_13.out) hb); have n2_ := Aside0.mk (below_step (by repeat (first | (with_reducible first | exact HB.out | apply below_alloc | apply pw_below_drewN | apply below_drew1) | exact HB.out)) hb); clear HO_11; clear HO_13; clear HB; have HO_11 := n0_; have HO_13 := n1_; have HB := n2_; clear n0_ n1_ n2_; (try clear hb); (try clear hb2); (try clear hk); (try clear hi)))
                                                    go_roundg kj70
                                                    case measure => have := HK1.out; have := HJ28.out; have := HK3.out; have := HK4.out; have := HK5.out; have := HJ70.out; omega
                                                    case rel => exact ⟨(wrap64 (x17_5 + 1)), (by first | rfl | (simp; done) | (simp [*]; done)), H', ⟨by have := HK1.out; have := HJ28.out; have := HK3.out; have := HK4.out; have := HK5.out; have := HJ70.out; omega⟩, ⟨by (with_reducible repeat (first | apply Kd.R_alloc | apply Kd.R_drewN | apply Kd.R_drew)); exact HO_11.out⟩, ⟨by (with_reducible repeat (first | apply Kd.R_alloc | apply Kd.R_drewN | apply Kd.R_drew)); exact HO_13.out⟩, ⟨by repeat (first | (with_reducible first | exact HB.out | apply below_alloc | apply pw_below_drewN | apply below_drew1) | exact HB.out)⟩⟩
                                                  · rw [if_neg c79] at H
                                                    have c79b0 : (t216 == t219) = false := beq_eq_false_iff_ne.mpr c79
                                                    have c79b1 : (t216 != t219) = true := bne_iff_ne.mpr c79
                                                    obtain rfl := Option.some.inj H
                                                    have p214 : 0 ≤ (x17_5 : Int) := of_decide_eq_true (by first | (with_reducible assumption) | assumption)
                                                    have q214 : x17_5 < (l2.length : Int) := of_decide_eq_true (by first | (with_reducible assumption) | assumption)
                                                    obtain ⟨ad214, e214, hx214_0⟩ := Kd.at_int HR2.out x17_5 p214 q214
                                                    cases e214
                                                    replace hx214_0 := (HB.out.cell (World.block_lt_of_cell? w _ hx214_0)).trans hx214_0
                                                    replace p214 := eq_true p214
                                                    replace q214 := eq_true q214
                                                    go_wp2_with (first | ((with_reducible refine gate_callee (f := 23) rfl ?_); refine goesL_ (some 146) rfl rfl Try.func23 (by kernel_rfl) rfl #[.int .i64 a0, .int .i64 a1, .int .i64 (rd l2 x17_5)] rfl (by (try simp only [List.map_toArray, List.map_cons, List.map_nil]); first | done | rfl | (simp only [List.length_drop, List.length_take]; rfl)) ?_; (with_reducible refine (colour_Count.calls a0 a1 (rd l2 x17_5) t215 t216 _ A76.out).mono ?_); rintro e w' ⟨rfl, ⟨nd, rfl⟩⟩; refine ⟨_, rfl, ?_⟩; have p217 : 0 ≤ (x17_5 : Int) := of_decide_eq_true (by first | (with_reducible assumption) | assumption); have q217 : x17_5 < (l2.length : Int) := of_decide_eq_true (by first | (with_reducible assumption) | assumption); obtain ⟨ad217, e217, hx217_0⟩ := Kd.at_int HR2.out x17_5 p217 q217; obtain rfl : ad214 = ad217 := (by injection e217); replace hx217_0 := (HB.out.cell (World.block_lt_of_cell? w _ hx217_0)).trans hx217_0; replace p217 := eq_true p217; replace q217 := eq_true q217) | ((with_reducible refine gate_callee (f := 24) rfl ?_); refine goesL_ (some 156) rfl rfl Try.func24 (by kernel_rfl) rfl #[.int .i64 a0, .int .i64 a1, .int .i64 (rd l2 x17_5)] rfl (by (try simp only [List.map_toArray, List.map_cons, List.map_nil]); first | done | rfl | (simp only [List.length_drop, List.length_take]; rfl)) ?_; (with_reducible refine (cofferdamref08_Count.calls a0 a1 (rd l2 x17_5) t218 t219 _ A77.out).mono ?_); rintro e w81 ⟨rfl, hb⟩; refine ⟨_, rfl, ?_⟩; have n0_ := Aside0.mk (Kd.R_below (by (with_reducible repeat (first | apply Kd.R_alloc | apply Kd.R_drewN | apply Kd.R_drew)); exact HO_11.out) hb); have n1_ := Aside0.mk (Kd.R_below (by (with_reducible repeat (first | apply Kd.R_alloc | apply Kd.R_drewN | apply Kd.R_drew)); exact HO_13.out) hb); have n2_ := Aside0.mk (below_step (by repeat (first | (with_reducible first | exact HB.out | apply below_alloc | apply pw_below_drewN | apply below_drew1) | exact HB.out)) hb); clear HO_11; clear HO_13; clear HB; have HO_11 := n0_; have HO_13 := n1_; have HB := n2_; clear n0_ n1_ n2_; (try clear hb); (try clear hb2); (try clear hk); (try clear hi)))
                                                    go_ret
                                                    exact ⟨by first | rfl | (simp [errW_none, errW_some] <;> rfl) | (simp only [← hji4]; first | rfl | (simp [errW_none, errW_some] <;> rfl)) | (simp [*, errW_none, errW_some] <;> rfl), by repeat (first | (with_reducible first | exact HB.out | apply below_alloc | apply pw_below_drewN | apply below_drew1) | exact HB.out)⟩
                                                · rw [if_neg c78] at H
                                                  have c78b0 : (t215 == t218) = false := beq_eq_false_iff_ne.mpr c78
                                                  have c78b1 : (t215 != t218) = true := bne_iff_ne.mpr c78
                                                  obtain rfl := Option.some.inj H
                                                  have p214 : 0 ≤ (x17_5 : Int) := of_decide_eq_true (by first | (with_reducible assumption) | assumption)
                                                  have q214 : x17_5 < (l2.length : Int) := of_decide_eq_true (by first | (with_reducible assumption) | assumption)
                                                  obtain ⟨ad214, e214, hx214_0⟩ := Kd.at_int HR2.out x17_5 p214 q214
                                                  cases e214
                                                  replace hx214_0 := (HB.out.cell (World.block_lt_of_cell? w _ hx214_0)).trans hx214_0
                                                  replace p214 := eq_true p214
                                                  replace q214 := eq_true q214
                                                  go_wp2_with (first | ((with_reducible refine gate_callee (f := 23) rfl ?_); refine goesL_ (some 146) rfl rfl Try.func23 (by kernel_rfl) rfl #[.int .i64 a0, .int .i64 a1, .int .i64 (rd l2 x17_5)] rfl (by (try simp only [List.map_toArray, List.map_cons, List.map_nil]); first | done | rfl | (simp only [List.length_drop, List.length_take]; rfl)) ?_; (with_reducible refine (colour_Count.calls a0 a1 (rd l2 x17_5) t215 t216 _ A76.out).mono ?_); rintro e w' ⟨rfl, ⟨nd, rfl⟩⟩; refine ⟨_, rfl, ?_⟩; have p217 : 0 ≤ (x17_5 : Int) := of_decide_eq_true (by first | (with_reducible assumption) | assumption); have q217 : x17_5 < (l2.length : Int) := of_decide_eq_true (by first | (with_reducible assumption) | assumption); obtain ⟨ad217, e217, hx217_0⟩ := Kd.at_int HR2.out x17_5 p217 q217; obtain rfl : ad214 = ad217 := (by injection e217); replace hx217_0 := (HB.out.cell (World.block_lt_of_cell? w _ hx217_0)).trans hx217_0; replace p217 := eq_true p217; replace q217 := eq_true q217) | ((with_reducible refine gate_callee (f := 24) rfl ?_); refine goesL_ (some 156) rfl rfl Try.func24 (by kernel_rfl) rfl #[.int .i64 a0, .int .i64 a1, .int .i64 (rd l2 x17_5)] rfl (by (try simp only [List.map_toArray, List.map_cons, List.map_nil]); first | done | rfl | (simp only [List.length_drop, List.length_take]; rfl)) ?_; (with_reducible refine (cofferdamref08_Count.calls a0 a1 (rd l2 x17_5) t218 t219 _ A77.out).mono ?_); rintro e w82 ⟨rfl, hb⟩; refine ⟨_, rfl, ?_⟩; have n0_ := Aside0.mk (Kd.R_below (by (with_reducible repeat (first | apply Kd.R_alloc | apply Kd.R_drewN | apply Kd.R_drew)); exact HO_11.out) hb); have n1_ := Aside0.mk (Kd.R_below (by (with_reducible repeat (first | apply Kd.R_alloc | apply Kd.R_drewN | apply Kd.R_drew)); exact HO_13.out) hb); have n2_ := Aside0.mk (below_step (by repeat (first | (with_reducible first | exact HB.out | apply below_alloc | apply pw_below_drewN | apply below_drew1) | exact HB.out)) hb); clear HO_11; clear HO_13; clear HB; have HO_11 := n0_; have HO_13 := n1_; have HB := n2_; clear n0_ n1_ n2_; (try clear hb); (try clear hb2); (try clear hk); (try clear hi)))
                                                  go_ret
                                                  exact ⟨by first | rfl | (simp [errW_none, errW_some] <;> rfl) | (simp only [← hji4]; first | rfl | (simp [errW_none, errW_some] <;> rfl)) | (simp [*, errW_none, errW_some] <;> rfl), by repeat (first | (with_reducible first | exact HB.out | apply below_alloc | apply pw_below_drewN | apply below_drew1) | exact HB.out)⟩
                                              · rw [if_neg c75] at H
                                                exact absurd H (by simp)
                                            · rw [if_neg c74] at H
                                              exact absurd H (by simp)
                                          · replace c73 := Bool.eq_false_iff.mpr c73
                                            subst c73
                                            have H1 : ((cofferdamref00_EqInts.f kj70 t192 t196).bind fun t212 => (if t212 = true then ((cofferdamlaw08_works.f kj70).bind fun t213 => (some t213)) else (some false))) = some r := by rw [if_neg (show ¬ (false = true) by decide)] at H; exact H
                                            clear H
                                            have H := H1
                                            clear H1
                                            replace H := Option.bind_eq_some_iff.mp H
                                            obtain ⟨t212, A830, H⟩ := H
                                            replace H : (if t212 = true then ((cofferdamlaw08_works.f kj70).bind fun t213 => (some t213)) else (some false)) = some r := H
                                            have A83 := Aside0.mk A830
                                            clear A830
                                            by_cases c84 : t212 = true
                                            · subst c84
                                              have H1 : ((cofferdamlaw08_works.f kj70).bind fun t213 => (some t213)) = some r := by rw [if_pos rfl] at H; exact H
                                              clear H
                                              have H := H1
                                              clear H1
                                              replace H := Option.bind_eq_some_iff.mp H
                                              obtain ⟨t213, A850, H⟩ := H
                                              replace H : (some t213) = some r := H
                                              have A85 := Aside0.mk A850
                                              clear A850
                                              obtain rfl := Option.some.inj H
                                              obtain ⟨Ao86, co86, eo86⟩ := Kd.R_slice HO_11.out
                                              subst eo86
                                              obtain ⟨Ao87, co87, eo87⟩ := Kd.R_slice HO_13.out
                                              subst eo87
                                              go_wp2_with (first | ((with_reducible refine gate_callee (f := 22) rfl ?_); refine goesL_ (some 169) rfl rfl Try.func22 (by kernel_rfl) rfl #[.slice Ao86 t192.length co86, .slice Ao87 t196.length co87] rfl (by (try simp only [List.map_toArray, List.map_cons, List.map_nil]); first | done | rfl | (simp only [List.length_drop, List.length_take]; rfl)) ?_; (with_reducible refine (cofferdamref00_EqInts.calls kj70 _ _ t192 _ _ t196 true _ ?side1 ?side2 ?side3 ?side4 A83.out).mono ?_); (case side1 => repeat (first | exact (Kd.R_reads' HO_11.out).2.2 | (with_reducible refine Kd.C_alloc ?_ _) | (with_reducible refine Kd.C_drewN ?_ _) | (with_reducible refine Kd.C_drew ?_))); (case side2 => exact (Kd.R_reads' HO_11.out).2.1); (case side3 => repeat (first | exact (Kd.R_reads' HO_13.out).2.2 | (with_reducible refine Kd.C_alloc ?_ _) | (with_reducible refine Kd.C_drewN ?_ _) | (with_reducible refine Kd.C_drew ?_))); (case side4 => exact (Kd.R_reads' HO_13.out).2.1); rintro e w' ⟨rfl, ⟨nd, rfl⟩⟩; refine ⟨_, rfl, ?_⟩) | (go_at_call 13; (with_reducible refine (cofferdamlaw08_works.calls kj70  t213 _ A85.out).mono ?_); rintro e w88 ⟨rfl, hb⟩; have n0_ := Aside0.mk (Kd.R_below (by (with_reducible repeat (first | apply Kd.R_alloc | apply Kd.R_drewN | apply Kd.R_drew)); exact HO_11.out) hb); have n1_ := Aside0.mk (Kd.R_below (by (with_reducible repeat (first | apply Kd.R_alloc | apply Kd.R_drewN | apply Kd.R_drew)); exact HO_13.out) hb); have n2_ := Aside0.mk (below_step (by repeat (first | (with_reducible first | exact HB.out | apply below_alloc | apply pw_below_drewN | apply below_drew1) | exact HB.out)) hb); clear HO_11; clear HO_13; clear HB; have HO_11 := n0_; have HO_13 := n1_; have HB := n2_; clear n0_ n1_ n2_; (try clear hb); (try clear hb2); (try clear hk); (try clear hi)))
                                              go_ret
                                              exact ⟨by first | rfl | (simp [errW_none, errW_some] <;> rfl) | (simp only [← hji4]; first | rfl | (simp [errW_none, errW_some] <;> rfl)) | (simp [*, errW_none, errW_some] <;> rfl), by repeat (first | (with_reducible first | exact HB.out | apply below_alloc | apply pw_below_drewN | apply below_drew1) | exact HB.out)⟩
                                            · replace c84 := Bool.eq_false_iff.mpr c84
                                              subst c84
                                              have H1 : (some false) = some r := by rw [if_neg (show ¬ (false = true) by decide)] at H; exact H
                                              clear H
                                              have H := H1
                                              clear H1
                                              obtain rfl := Option.some.inj H
                                              obtain ⟨Ao89, co89, eo89⟩ := Kd.R_slice HO_11.out
                                              subst eo89
                                              obtain ⟨Ao90, co90, eo90⟩ := Kd.R_slice HO_13.out
                                              subst eo90
                                              go_wp2_with (first | ((with_reducible refine gate_callee (f := 22) rfl ?_); refine goesL_ (some 169) rfl rfl Try.func22 (by kernel_rfl) rfl #[.slice Ao89 t192.length co89, .slice Ao90 t196.length co90] rfl (by (try simp only [List.map_toArray, List.map_cons, List.map_nil]); first | done | rfl | (simp only [List.length_drop, List.length_take]; rfl)) ?_; (with_reducible refine (cofferdamref00_EqInts.calls kj70 _ _ t192 _ _ t196 false _ ?side1 ?side2 ?side3 ?side4 A83.out).mono ?_); (case side1 => repeat (first | exact (Kd.R_reads' HO_11.out).2.2 | (with_reducible refine Kd.C_alloc ?_ _) | (with_reducible refine Kd.C_drewN ?_ _) | (with_reducible refine Kd.C_drew ?_))); (case side2 => exact (Kd.R_reads' HO_11.out).2.1); (case side3 => repeat (first | exact (Kd.R_reads' HO_13.out).2.2 | (with_reducible refine Kd.C_alloc ?_ _) | (with_reducible refine Kd.C_drewN ?_ _) | (with_reducible refine Kd.C_drew ?_))); (case side4 => exact (Kd.R_reads' HO_13.out).2.1); rintro e w' ⟨rfl, ⟨nd, rfl⟩⟩; refine ⟨_, rfl, ?_⟩))
                                              go_ret
                                              exact ⟨by first | rfl | (simp [errW_none, errW_some] <;> rfl) | (simp only [← hji4]; first | rfl | (simp [errW_none, errW_some] <;> rfl)) | (simp [*, errW_none, errW_some] <;> rfl), by repeat (first | (with_reducible first | exact HB.out | apply below_alloc | apply pw_below_drewN | apply below_drew1) | exact HB.out)⟩
              · rw [if_neg c23] at H
                exact absurd H (by simp)
            · rw [if_neg c22] at H
              exact absurd H (by simp)
    · rw [if_neg c6] at H
      exact absurd H (by simp)
  · rw [if_neg c5] at H
    exact absurd H (by simp)

/-- THE ONE PURE STATEMENT of cofferdamlaw08_ColourFrames: yours. -/
def cofferdamlaw08_ColourFrames.Pure : Prop := ∀ (a0 : Int) (a1 : Int) (l2 : List Int), (Lit.int .i64 a0).wf = true → (Lit.int .i64 a1).wf = true → l2.length ≤ maxLen → l2.length * 8 ≤ 140737488351232 → (∀ x ∈ l2, (Lit.int .i64 x).wf = true) → ∃ k, cofferdamlaw08_ColourFrames.f k a0 a1 l2 = some true
theorem cofferdamlaw08_ColourFrames.walk (P : cofferdamlaw08_ColourFrames.Pure) (a0 : Int) (a1 : Int) (a2 : Option Addr) (len2 cap2 : Nat) (z2 : List Int) (w : World) (w0 : (Lit.int .i64 a0).wf = true) (w1 : (Lit.int .i64 a1).wf = true) (w2 : (a2 = none ∧ len2 = 0 ∧ cap2 = 0 ∧ z2 = []) ∨ ∃ x, a2 = some x ∧ len2 ≤ cap2 ∧ cap2 ≤ maxLen ∧ z2.length = cap2 ∧ (∀ i, i < z2.length → w.cell? (x.add i) = some (.int .i64 (z2.getD i 0))) ∧ ∀ n ∈ z2, (Lit.int .i64 n).wf = true) (y2 : len2 * 8 ≤ 140737488351232) :
    Calls Try.prog 5 #[.int .i64 a0, .int .i64 a1, .slice a2 len2 cap2] w fun e w' => e = .returned (.bool true) ∧ Below w.heap.size w w' := by
  obtain ⟨l2, rfl, hr2, hm2, hw2, hc2⟩ := ReadsInt.ofRowC w2
  obtain ⟨k, h⟩ := P a0 a1 l2 w0 w1 hm2 y2 hw2
  refine (cofferdamlaw08_ColourFrames.calls k a0 a1 _ _ l2 true w (Kd.C_of_reads (d := (0 : Int)) (h1 := fun _ => rfl) hr2) hc2 h).mono ?_
  rintro e w' ⟨rfl, hd⟩
  exact ⟨rfl, hd⟩

end Go.Proofs.Ytkihoeacojcdlaa.H
