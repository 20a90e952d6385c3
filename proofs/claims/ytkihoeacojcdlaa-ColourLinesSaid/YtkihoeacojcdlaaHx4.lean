-- Written by hprint.py, a program of this session's, over the kit's printer.
import Derived.Test.YtkihoeacojcdlaaHx0
import Derived.Test.YtkihoeacojcdlaaHx1
import Derived.Test.YtkihoeacojcdlaaHx2
namespace Go.Proofs.Ytkihoeacojcdlaa.H
open Go.RowKit Go.Proofs.YtkihoeacojcdlaaW.PrintWords Go.Proofs.YtkihoeacojcdlaaW.PrintLast Go.Proofs.YtkihoeacojcdlaaW.PrintMore
attribute [local go_sem] max2_int min2_int max_two min_two max_three min_three max_four min_four   -- for this text's walks alone
set_option linter.unusedVariables false
set_option linter.unusedSimpArgs false

/-! ### cofferdamlaw08_ColourLines: function 6 -/
mutual
def cofferdamlaw08_ColourLines.j0 : Nat → Int → Int → Int → Int → Int → Bool → Option (Bool)
  | 0, _, _, _, _, _, _ => none
  | k + 1, x0, x1, x2, x7, x9, x42 => if x42 = true then (some true) else ((colour_Index.f x0 x2).bind fun bt225 => ((colour_Frame.f x7 bt225.1 x2).bind fun bt227 => (if bt225.2 = 0 then (if bt227.2 = 0 then (cofferdamlaw08_ColourLines.j1 k x0 x1 x2 x7 x9 (bt227.1 != x0)) else (cofferdamlaw08_ColourLines.j1 k x0 x1 x2 x7 x9 true)) else (cofferdamlaw08_ColourLines.j1 k x0 x1 x2 x7 x9 true))))
def cofferdamlaw08_ColourLines.j1 : Nat → Int → Int → Int → Int → Int → Bool → Option (Bool)
  | 0, _, _, _, _, _, _ => none
  | k + 1, x0, x1, x2, x7, x9, x66 => if x66 = true then (some false) else (cofferdamlaw08_ColourLines.l0 k x0 x1 x2 x7 x9 ([] : List Int) false 0)
def cofferdamlaw08_ColourLines.l0 : Nat → Int → Int → Int → Int → Int → List Int → Bool → Int → Option (Bool)
  | 0, _, _, _, _, _, _, _, _ => none
  | k + 1, x0, x1, x2, x7, x9, x13, x14, x15 => if x15 < 16 then ((colour_Set.f (IntKind.u64.wrap (wrap64 ((wrap64 (256 * x0)) + (wrap64 (16 * x15))))) x2).bind fun bt229 => ((colour_Set.f (IntKind.u64.wrap (wrap64 ((wrap64 ((wrap64 (256 * x1)) + (wrap64 (16 * x15)))) + 15))) x2).bind fun bt231 => ((colour_Owner.f bt229.1 x2).bind fun bt233 => (if bt229.2 = 0 then (if bt231.2 = 0 then (if bt233.2 = 0 then (cofferdamlaw08_ColourLines.j3 k x0 x1 x2 x7 x9 x13 x14 x15 bt229.1 bt231.1 (bt233.1 != x7)) else (cofferdamlaw08_ColourLines.j3 k x0 x1 x2 x7 x9 x13 x14 x15 bt229.1 bt231.1 true)) else (cofferdamlaw08_ColourLines.j3 k x0 x1 x2 x7 x9 x13 x14 x15 bt229.1 bt231.1 true)) else (cofferdamlaw08_ColourLines.j3 k x0 x1 x2 x7 x9 x13 x14 x15 bt229.1 bt231.1 true))))) else (some (x14 == (x7 == x9)))
def cofferdamlaw08_ColourLines.j3 : Nat → Int → Int → Int → Int → Int → List Int → Bool → Int → Int → Int → Bool → Option (Bool)
  | 0, _, _, _, _, _, _, _, _, _, _, _ => none
  | k + 1, x0, x1, x2, x7, x9, x13, x14, x15, x16, x18, x114 => if x114 = true then (some false) else (cofferdamlaw08_ColourLines.l1 k x0 x1 x2 x7 x9 x13 x14 x15 x16 x18 0)
def cofferdamlaw08_ColourLines.l1 : Nat → Int → Int → Int → Int → Int → List Int → Bool → Int → Int → Int → Int → Option (Bool)
  | 0, _, _, _, _, _, _, _, _, _, _, _ => none
  | k + 1, x0, x1, x2, x7, x9, x13, x14, x15, x16, x18, x22 => if x22 < (x13.length : Int) then (if 0 ≤ x22 then (if (rd x13 x22) = x16 then (some false) else (cofferdamlaw08_ColourLines.l1 k x0 x1 x2 x7 x9 x13 x14 x15 x16 x18 (wrap64 (x22 + 1)))) else (none)) else (if x13.length < 17592186044416 then ((some (x13 ++ [x16] : List Int)).bind fun y236 => (if x14 = true then (cofferdamlaw08_ColourLines.l0 k x0 x1 x2 x7 x9 y236 true (wrap64 (x15 + 1))) else (cofferdamlaw08_ColourLines.l0 k x0 x1 x2 x7 x9 y236 (x16 == x18) (wrap64 (x15 + 1))))) else (none))
end
def cofferdamlaw08_ColourLines.f (k : Nat) (a0 : Int) (a1 : Int) (a2 : Int) : Option (Bool) := (cofferdamlaw08_works.f k).bind fun t220 => (if t220 = true then ((colour_Of.f a0 a2).bind fun bt221 => ((colour_Of.f a1 a2).bind fun bt223 => (if bt221.2 = 0 then (cofferdamlaw08_ColourLines.j0 k a0 a1 a2 bt221.1 bt223.1 (bt223.2 != 0)) else (cofferdamlaw08_ColourLines.j0 k a0 a1 a2 bt221.1 bt223.1 true)))) else (some false))
theorem cofferdamlaw08_ColourLines.mono_l : ∀ k, (∀ y0 y1 y2 y3 y4 y5, LeO (cofferdamlaw08_ColourLines.j0 k y0 y1 y2 y3 y4 y5) (cofferdamlaw08_ColourLines.j0 (k + 1) y0 y1 y2 y3 y4 y5)) ∧ (∀ y0 y1 y2 y3 y4 y5, LeO (cofferdamlaw08_ColourLines.j1 k y0 y1 y2 y3 y4 y5) (cofferdamlaw08_ColourLines.j1 (k + 1) y0 y1 y2 y3 y4 y5)) ∧ (∀ y0 y1 y2 y3 y4 y5 y6 y7, LeO (cofferdamlaw08_ColourLines.l0 k y0 y1 y2 y3 y4 y5 y6 y7) (cofferdamlaw08_ColourLines.l0 (k + 1) y0 y1 y2 y3 y4 y5 y6 y7)) ∧ (∀ y0 y1 y2 y3 y4 y5 y6 y7 y8 y9 y10, LeO (cofferdamlaw08_ColourLines.j3 k y0 y1 y2 y3 y4 y5 y6 y7 y8 y9 y10) (cofferdamlaw08_ColourLines.j3 (k + 1) y0 y1 y2 y3 y4 y5 y6 y7 y8 y9 y10)) ∧ (∀ y0 y1 y2 y3 y4 y5 y6 y7 y8 y9 y10, LeO (cofferdamlaw08_ColourLines.l1 k y0 y1 y2 y3 y4 y5 y6 y7 y8 y9 y10) (cofferdamlaw08_ColourLines.l1 (k + 1) y0 y1 y2 y3 y4 y5 y6 y7 y8 y9 y10))
  | 0 => ⟨fun _ _ _ _ _ _ r h => by simp [cofferdamlaw08_ColourLines.j0] at h, fun _ _ _ _ _ _ r h => by simp [cofferdamlaw08_ColourLines.j1] at h, fun _ _ _ _ _ _ _ _ r h => by simp [cofferdamlaw08_ColourLines.l0] at h, fun _ _ _ _ _ _ _ _ _ _ _ r h => by simp [cofferdamlaw08_ColourLines.j3] at h, fun _ _ _ _ _ _ _ _ _ _ _ r h => by simp [cofferdamlaw08_ColourLines.l1] at h⟩
  | k + 1 => by
    obtain ⟨ih0, ih1, ih2, ih3, ih4⟩ := cofferdamlaw08_ColourLines.mono_l k
    refine ⟨?_, ?_, ?_, ?_, ?_⟩
    · intro y0 y1 y2 y3 y4 y5
      unfold cofferdamlaw08_ColourLines.j0
      repeat' first
      | (with_reducible exact ih0 _ _ _ _ _ _)
      | (with_reducible exact ih1 _ _ _ _ _ _)
      | (with_reducible exact ih2 _ _ _ _ _ _ _ _)
      | (with_reducible exact ih3 _ _ _ _ _ _ _ _ _ _ _)
      | (with_reducible exact ih4 _ _ _ _ _ _ _ _ _ _ _)
      | (with_reducible exact cofferdamlaw08_works.mono _)
      | (with_reducible exact LeO.refl _)
      | (with_reducible exact LeO.none _)
      | (with_reducible refine LeO.ite ?_ ?_)
      | (with_reducible refine LeO.bind ?_ (fun _ => ?_))
      | exact ih0 _ _ _ _ _ _
      | exact ih1 _ _ _ _ _ _
      | exact ih2 _ _ _ _ _ _ _ _
      | exact ih3 _ _ _ _ _ _ _ _ _ _ _
      | exact ih4 _ _ _ _ _ _ _ _ _ _ _
      | exact cofferdamlaw08_works.mono _
      | exact LeO.none _
      | refine LeO.ite ?_ ?_
      | refine LeO.bind ?_ (fun _ => ?_)
    · intro y0 y1 y2 y3 y4 y5
      unfold cofferdamlaw08_ColourLines.j1
      repeat' first
      | (with_reducible exact ih0 _ _ _ _ _ _)
      | (with_reducible exact ih1 _ _ _ _ _ _)
      | (with_reducible exact ih2 _ _ _ _ _ _ _ _)
      | (with_reducible exact ih3 _ _ _ _ _ _ _ _ _ _ _)
      | (with_reducible exact ih4 _ _ _ _ _ _ _ _ _ _ _)
      | (with_reducible exact cofferdamlaw08_works.mono _)
      | (with_reducible exact LeO.refl _)
      | (with_reducible exact LeO.none _)
      | (with_reducible refine LeO.ite ?_ ?_)
      | (with_reducible refine LeO.bind ?_ (fun _ => ?_))
      | exact ih0 _ _ _ _ _ _
      | exact ih1 _ _ _ _ _ _
      | exact ih2 _ _ _ _ _ _ _ _
      | exact ih3 _ _ _ _ _ _ _ _ _ _ _
      | exact ih4 _ _ _ _ _ _ _ _ _ _ _
      | exact cofferdamlaw08_works.mono _
      | exact LeO.none _
      | refine LeO.ite ?_ ?_
      | refine LeO.bind ?_ (fun _ => ?_)
    · intro y0 y1 y2 y3 y4 y5 y6 y7
      unfold cofferdamlaw08_ColourLines.l0
      repeat' first
      | (with_reducible exact ih0 _ _ _ _ _ _)
      | (with_reducible exact ih1 _ _ _ _ _ _)
      | (with_reducible exact ih2 _ _ _ _ _ _ _ _)
      | (with_reducible exact ih3 _ _ _ _ _ _ _ _ _ _ _)
      | (with_reducible exact ih4 _ _ _ _ _ _ _ _ _ _ _)
      | (with_reducible exact cofferdamlaw08_works.mono _)
      | (with_reducible exact LeO.refl _)
      | (with_reducible exact LeO.none _)
      | (with_reducible refine LeO.ite ?_ ?_)
      | (with_reducible refine LeO.bind ?_ (fun _ => ?_))
      | exact ih0 _ _ _ _ _ _
      | exact ih1 _ _ _ _ _ _
      | exact ih2 _ _ _ _ _ _ _ _
      | exact ih3 _ _ _ _ _ _ _ _ _ _ _
      | exact ih4 _ _ _ _ _ _ _ _ _ _ _
      | exact cofferdamlaw08_works.mono _
      | exact LeO.none _
      | refine LeO.ite ?_ ?_
      | refine LeO.bind ?_ (fun _ => ?_)
    · intro y0 y1 y2 y3 y4 y5 y6 y7 y8 y9 y10
      unfold cofferdamlaw08_ColourLines.j3
      repeat' first
      | (with_reducible exact ih0 _ _ _ _ _ _)
      | (with_reducible exact ih1 _ _ _ _ _ _)
      | (with_reducible exact ih2 _ _ _ _ _ _ _ _)
      | (with_reducible exact ih3 _ _ _ _ _ _ _ _ _ _ _)
      | (with_reducible exact ih4 _ _ _ _ _ _ _ _ _ _ _)
      | (with_reducible exact cofferdamlaw08_works.mono _)
      | (with_reducible exact LeO.refl _)
      | (with_reducible exact LeO.none _)
      | (with_reducible refine LeO.ite ?_ ?_)
      | (with_reducible refine LeO.bind ?_ (fun _ => ?_))
      | exact ih0 _ _ _ _ _ _
      | exact ih1 _ _ _ _ _ _
      | exact ih2 _ _ _ _ _ _ _ _
      | exact ih3 _ _ _ _ _ _ _ _ _ _ _
      | exact ih4 _ _ _ _ _ _ _ _ _ _ _
      | exact cofferdamlaw08_works.mono _
      | exact LeO.none _
      | refine LeO.ite ?_ ?_
      | refine LeO.bind ?_ (fun _ => ?_)
    · intro y0 y1 y2 y3 y4 y5 y6 y7 y8 y9 y10
      unfold cofferdamlaw08_ColourLines.l1
      repeat' first
      | (with_reducible exact ih0 _ _ _ _ _ _)
      | (with_reducible exact ih1 _ _ _ _ _ _)
      | (with_reducible exact ih2 _ _ _ _ _ _ _ _)
      | (with_reducible exact ih3 _ _ _ _ _ _ _ _ _ _ _)
      | (with_reducible exact ih4 _ _ _ _ _ _ _ _ _ _ _)
      | (with_reducible exact cofferdamlaw08_works.mono _)
      | (with_reducible exact LeO.refl _)
      | (with_reducible exact LeO.none _)
      | (with_reducible refine LeO.ite ?_ ?_)
      | (with_reducible refine LeO.bind ?_ (fun _ => ?_))
      | exact ih0 _ _ _ _ _ _
      | exact ih1 _ _ _ _ _ _
      | exact ih2 _ _ _ _ _ _ _ _
      | exact ih3 _ _ _ _ _ _ _ _ _ _ _
      | exact ih4 _ _ _ _ _ _ _ _ _ _ _
      | exact cofferdamlaw08_works.mono _
      | exact LeO.none _
      | refine LeO.ite ?_ ?_
      | refine LeO.bind ?_ (fun _ => ?_)
theorem cofferdamlaw08_ColourLines.mono : ∀ a0 a1 a2 k, LeO (cofferdamlaw08_ColourLines.f k a0 a1 a2) (cofferdamlaw08_ColourLines.f (k + 1) a0 a1 a2) := by
  intro a0 a1 a2 k
  obtain ⟨ih0, ih1, ih2, ih3, ih4⟩ := cofferdamlaw08_ColourLines.mono_l k
  unfold cofferdamlaw08_ColourLines.f
  repeat' first
      | (with_reducible exact ih0 _ _ _ _ _ _)
      | (with_reducible exact ih1 _ _ _ _ _ _)
      | (with_reducible exact ih2 _ _ _ _ _ _ _ _)
      | (with_reducible exact ih3 _ _ _ _ _ _ _ _ _ _ _)
      | (with_reducible exact ih4 _ _ _ _ _ _ _ _ _ _ _)
      | (with_reducible exact cofferdamlaw08_works.mono _)
      | (with_reducible exact LeO.refl _)
      | (with_reducible exact LeO.none _)
      | (with_reducible refine LeO.ite ?_ ?_)
      | (with_reducible refine LeO.bind ?_ (fun _ => ?_))
      | exact ih0 _ _ _ _ _ _
      | exact ih1 _ _ _ _ _ _
      | exact ih2 _ _ _ _ _ _ _ _
      | exact ih3 _ _ _ _ _ _ _ _ _ _ _
      | exact ih4 _ _ _ _ _ _ _ _ _ _ _
      | exact cofferdamlaw08_works.mono _
      | exact LeO.none _
      | refine LeO.ite ?_ ?_
      | refine LeO.bind ?_ (fun _ => ?_)
set_option maxHeartbeats 8000000 in
set_option maxRecDepth 100000 in
theorem cofferdamlaw08_ColourLines.calls (k : Nat) (a0 : Int) (a1 : Int) (a2 : Int) (r : Bool) (w : World) (h : cofferdamlaw08_ColourLines.f k a0 a1 a2 = some r) :
    Calls Try.prog 6 #[.int .i64 a0, .int .i64 a1, .int .i64 a2] w fun e w' => e = .returned (.bool r) ∧ Below w.heap.size w w' := by
  have HB := Aside0.mk (Below.refl w.heap.size w)
  have H : ((cofferdamlaw08_works.f k).bind fun t220 => (if t220 = true then ((colour_Of.f a0 a2).bind fun bt221 => ((colour_Of.f a1 a2).bind fun bt223 => (if bt221.2 = 0 then (cofferdamlaw08_ColourLines.j0 k a0 a1 a2 bt221.1 bt223.1 (bt223.2 != 0)) else (cofferdamlaw08_ColourLines.j0 k a0 a1 a2 bt221.1 bt223.1 true)))) else (some false))) = some r := h
  clear h
  replace H := Option.bind_eq_some_iff.mp H
  obtain ⟨t220, A40, H⟩ := H
  replace H : (if t220 = true then ((colour_Of.f a0 a2).bind fun bt221 => ((colour_Of.f a1 a2).bind fun bt223 => (if bt221.2 = 0 then (cofferdamlaw08_ColourLines.j0 k a0 a1 a2 bt221.1 bt223.1 (bt223.2 != 0)) else (cofferdamlaw08_ColourLines.j0 k a0 a1 a2 bt221.1 bt223.1 true)))) else (some false)) = some r := H
  have A4 := Aside0.mk A40
  clear A40
  by_cases c5 : t220 = true
  · subst c5
    have H1 : ((colour_Of.f a0 a2).bind fun bt221 => ((colour_Of.f a1 a2).bind fun bt223 => (if bt221.2 = 0 then (cofferdamlaw08_ColourLines.j0 k a0 a1 a2 bt221.1 bt223.1 (bt223.2 != 0)) else (cofferdamlaw08_ColourLines.j0 k a0 a1 a2 bt221.1 bt223.1 true)))) = some r := by rw [if_pos rfl] at H; exact H
    clear H
    have H := H1
    clear H1
    replace H := Option.bind_eq_some_iff.mp H
    obtain ⟨⟨t221, t222⟩, A60, H⟩ := H
    replace H : ((colour_Of.f a1 a2).bind fun bt223 => (if t222 = 0 then (cofferdamlaw08_ColourLines.j0 k a0 a1 a2 t221 bt223.1 (bt223.2 != 0)) else (cofferdamlaw08_ColourLines.j0 k a0 a1 a2 t221 bt223.1 true))) = some r := H
    have A6 := Aside0.mk A60
    clear A60
    replace H := Option.bind_eq_some_iff.mp H
    obtain ⟨⟨t223, t224⟩, A70, H⟩ := H
    replace H : (if t222 = 0 then (cofferdamlaw08_ColourLines.j0 k a0 a1 a2 t221 t223 (t224 != 0)) else (cofferdamlaw08_ColourLines.j0 k a0 a1 a2 t221 t223 true)) = some r := H
    have A7 := Aside0.mk A70
    clear A70
    have HC8 := Aside0.mk H
    clear H
    go_enter Try.func6, Try.ntmps6
    go_upto_region 5 with (first | ((with_reducible refine gate_callee (f := 13) rfl ?_); refine goesL_ (some 23) rfl rfl Try.func13 (by kernel_rfl) rfl #[] rfl (by (try simp only [List.map_toArray, List.map_cons, List.map_nil]); first | done | rfl | (simp only [List.length_drop, List.length_take]; rfl)) ?_; (with_reducible refine (cofferdamlaw08_works.calls k  true _ A4.out).mono ?_); rintro e w9 ⟨rfl, hb⟩; refine ⟨_, rfl, ?_⟩; have n0_ := Aside0.mk (below_step (by repeat (first | (with_reducible first | exact HB.out | apply below_alloc | apply pw_below_drewN | apply below_drew1) | exact HB.out)) hb); clear HB; have HB := n0_; clear n0_; (try clear hb); (try clear hb2); (try clear hk); (try clear hi)) | ((with_reducible refine gate_callee (f := 14) rfl ?_); refine goesL_ (some 28) rfl rfl Try.func14 (by kernel_rfl) rfl #[.int .i64 a0, .int .i64 a2] rfl (by (try simp only [List.map_toArray, List.map_cons, List.map_nil]); first | done | rfl | (simp only [List.length_drop, List.length_take]; rfl)) ?_; (with_reducible refine (colour_Of.calls a0 a2 t221 t222 _ A6.out).mono ?_); rintro e w' ⟨rfl, ⟨nd, rfl⟩⟩; refine ⟨_, rfl, ?_⟩) | ((with_reducible refine gate_callee (f := 14) rfl ?_); refine goesL_ (some 34) rfl rfl Try.func14 (by kernel_rfl) rfl #[.int .i64 a1, .int .i64 a2] rfl (by (try simp only [List.map_toArray, List.map_cons, List.map_nil]); first | done | rfl | (simp only [List.length_drop, List.length_take]; rfl)) ?_; (with_reducible refine (colour_Of.calls a1 a2 t223 t224 _ A7.out).mono ?_); rintro e w' ⟨rfl, ⟨nd, rfl⟩⟩; refine ⟨_, rfl, ?_⟩))
    (try simp only [Act.put, List.setIfInBounds_toArray, List.set_cons_zero, List.set_cons_succ])
    go_cut [42] (fun v42 wc => ∃ (kq : Nat) (x42_7 : Bool), v42 = .bool x42_7 ∧ Aside0 (cofferdamlaw08_ColourLines.j0 kq a0 a1 a2 t221 t223 x42_7 = some r) ∧ Aside0 (kq ≤ k) ∧ Aside0 (Below w.heap.size w wc))
    case first =>
      have H := HC8.out
      clear HC8
      by_cases c10 : t222 = 0
      · rw [if_pos c10] at H
        have c10b0 : (t222 == 0) = true := beq_iff_eq.mpr c10
        have c10b1 : (t222 != 0) = false := bne_eq_false_iff_eq.mpr c10
        clear c10
        (first | rw [c10b0] | (simp only [i64_w, i32_w]; rw [c10b0]) | skip)
        have H' := Aside0.mk H
        clear H
        go_wp2
        go_meet
        case rel => exact ⟨_, ((t224 != 0)), (by first | rfl | (simp; done) | (simp [*]; done)), H', ⟨by first | omega | exact Nat.le_refl _⟩, ⟨by repeat (first | (with_reducible first | exact HB.out | apply below_alloc | apply pw_below_drewN | apply below_drew1) | exact HB.out)⟩⟩
      · rw [if_neg c10] at H
        have c10b0 : (t222 == 0) = false := beq_eq_false_iff_ne.mpr c10
        have c10b1 : (t222 != 0) = true := bne_iff_ne.mpr c10
        (first | rw [c10b0] | (simp only [i64_w, i32_w]; rw [c10b0]) | skip)
        have H' := Aside0.mk H
        clear H
        go_wp2
        go_meet
        case rel => exact ⟨_, (true), (by first | rfl | (simp; done) | (simp [*]; done)), H', ⟨by first | omega | exact Nat.le_refl _⟩, ⟨by repeat (first | (with_reducible first | exact HB.out | apply below_alloc | apply pw_below_drewN | apply below_drew1) | exact HB.out)⟩⟩
    case rest =>
      clear HC8
      try clear c1
      try clear p2
      try clear c5
      try clear c6
      try clear c10
      try clear c10b0
      try clear c10b1
      obtain ⟨kq, x42_7, rfl, HA, HJ7, HB⟩ := hcut
      cases kq with
      | zero => exact absurd HA.out (by simp [cofferdamlaw08_ColourLines.j0])
      | succ kj7 =>
        have H := HA.out
        clear HA
        simp only [cofferdamlaw08_ColourLines.j0] at H
        by_cases c11 : x42_7 = true
        · subst c11
          have H1 : (some true) = some r := by rw [if_pos rfl] at H; exact H
          clear H
          have H := H1
          clear H1
          obtain rfl := Option.some.inj H
          go_wp2
          go_ret
          exact ⟨by first | rfl | (simp [errW_none, errW_some] <;> rfl) | (simp [*, errW_none, errW_some] <;> rfl), by repeat (first | (with_reducible first | exact HB.out | apply below_alloc | apply pw_below_drewN | apply below_drew1) | exact HB.out)⟩
        · replace c11 := Bool.eq_false_iff.mpr c11
          subst c11
          have H1 : ((colour_Index.f a0 a2).bind fun bt225 => ((colour_Frame.f t221 bt225.1 a2).bind fun bt227 => (if bt225.2 = 0 then (if bt227.2 = 0 then (cofferdamlaw08_ColourLines.j1 kj7 a0 a1 a2 t221 t223 (bt227.1 != a0)) else (cofferdamlaw08_ColourLines.j1 kj7 a0 a1 a2 t221 t223 true)) else (cofferdamlaw08_ColourLines.j1 kj7 a0 a1 a2 t221 t223 true)))) = some r := by rw [if_neg (show ¬ (false = true) by decide)] at H; exact H
          clear H
          have H := H1
          clear H1
          replace H := Option.bind_eq_some_iff.mp H
          obtain ⟨⟨t225, t226⟩, A120, H⟩ := H
          replace H : ((colour_Frame.f t221 t225 a2).bind fun bt227 => (if t226 = 0 then (if bt227.2 = 0 then (cofferdamlaw08_ColourLines.j1 kj7 a0 a1 a2 t221 t223 (bt227.1 != a0)) else (cofferdamlaw08_ColourLines.j1 kj7 a0 a1 a2 t221 t223 true)) else (cofferdamlaw08_ColourLines.j1 kj7 a0 a1 a2 t221 t223 true))) = some r := H
          have A12 := Aside0.mk A120
          clear A120
          replace H := Option.bind_eq_some_iff.mp H
          obtain ⟨⟨t227, t228⟩, A130, H⟩ := H
          replace H : (if t226 = 0 then (if t228 = 0 then (cofferdamlaw08_ColourLines.j1 kj7 a0 a1 a2 t221 t223 (t227 != a0)) else (cofferdamlaw08_ColourLines.j1 kj7 a0 a1 a2 t221 t223 true)) else (cofferdamlaw08_ColourLines.j1 kj7 a0 a1 a2 t221 t223 true)) = some r := H
          have A13 := Aside0.mk A130
          clear A130
          have HC14 := Aside0.mk H
          clear H
          go_upto_region 9 with (first | ((with_reducible refine gate_callee (f := 16) rfl ?_); refine goesL_ (some 46) rfl rfl Try.func16 (by kernel_rfl) rfl #[.int .i64 a0, .int .i64 a2] rfl (by (try simp only [List.map_toArray, List.map_cons, List.map_nil]); first | done | rfl | (simp only [List.length_drop, List.length_take]; rfl)) ?_; (with_reducible refine (colour_Index.calls a0 a2 t225 t226 _ A12.out).mono ?_); rintro e w' ⟨rfl, ⟨nd, rfl⟩⟩; refine ⟨_, rfl, ?_⟩) | ((with_reducible refine gate_callee (f := 18) rfl ?_); refine goesL_ (some 53) rfl rfl Try.func18 (by kernel_rfl) rfl #[.int .i64 t221, .int .i64 t225, .int .i64 a2] rfl (by (try simp only [List.map_toArray, List.map_cons, List.map_nil]); first | done | rfl | (simp only [List.length_drop, List.length_take]; rfl)) ?_; (with_reducible refine (colour_Frame.calls t221 t225 a2 t227 t228 _ A13.out).mono ?_); rintro e w' ⟨rfl, ⟨nd, rfl⟩⟩; refine ⟨_, rfl, ?_⟩))
          (try simp only [Act.put, List.setIfInBounds_toArray, List.set_cons_zero, List.set_cons_succ])
          go_cut [66] (fun v66 wc => ∃ (kq : Nat) (x66_13 : Bool), v66 = .bool x66_13 ∧ Aside0 (cofferdamlaw08_ColourLines.j1 kq a0 a1 a2 t221 t223 x66_13 = some r) ∧ Aside0 (kq ≤ kj7) ∧ Aside0 (Below w.heap.size w wc))
          case first =>
            have H := HC14.out
            clear HC14
            by_cases c15 : t226 = 0
            · rw [if_pos c15] at H
              have c15b0 : (t226 == 0) = true := beq_iff_eq.mpr c15
              have c15b1 : (t226 != 0) = false := bne_eq_false_iff_eq.mpr c15
              clear c15
              (first | rw [c15b0] | (simp only [i64_w, i32_w]; rw [c15b0]) | skip)
              by_cases c16 : t228 = 0
              · rw [if_pos c16] at H
                have c16b0 : (t228 == 0) = true := beq_iff_eq.mpr c16
                have c16b1 : (t228 != 0) = false := bne_eq_false_iff_eq.mpr c16
                clear c16
                have H' := Aside0.mk H
                clear H
                go_wp2
                go_meet
                case rel => exact ⟨_, ((t227 != a0)), (by first | rfl | (simp; done) | (simp [*]; done)), H', ⟨by have := HJ7.out; first | omega | exact Nat.le_refl _⟩, ⟨by repeat (first | (with_reducible first | exact HB.out | apply below_alloc | apply pw_below_drewN | apply below_drew1) | exact HB.out)⟩⟩
              · rw [if_neg c16] at H
                have c16b0 : (t228 == 0) = false := beq_eq_false_iff_ne.mpr c16
                have c16b1 : (t228 != 0) = true := bne_iff_ne.mpr c16
                have H' := Aside0.mk H
                clear H
                go_wp2
                go_meet
                case rel => exact ⟨_, (true), (by first | rfl | (simp; done) | (simp [*]; done)), H', ⟨by have := HJ7.out; first | omega | exact Nat.le_refl _⟩, ⟨by repeat (first | (with_reducible first | exact HB.out | apply below_alloc | apply pw_below_drewN | apply below_drew1) | exact HB.out)⟩⟩
            · rw [if_neg c15] at H
              have c15b0 : (t226 == 0) = false := beq_eq_false_iff_ne.mpr c15
              have c15b1 : (t226 != 0) = true := bne_iff_ne.mpr c15
              (first | rw [c15b0] | (simp only [i64_w, i32_w]; rw [c15b0]) | skip)
              have H' := Aside0.mk H
              clear H
              go_wp2
              go_meet
              case rel => exact ⟨_, (true), (by first | rfl | (simp; done) | (simp [*]; done)), H', ⟨by have := HJ7.out; first | omega | exact Nat.le_refl _⟩, ⟨by repeat (first | (with_reducible first | exact HB.out | apply below_alloc | apply pw_below_drewN | apply below_drew1) | exact HB.out)⟩⟩
          case rest =>
            clear HC14
            try clear c1
            try clear p2
            try clear c5
            try clear c6
            try clear c10
            try clear c10b0
            try clear c10b1
            try clear c11
            try clear c13
            try clear c14
            try clear c15
            try clear c15b0
            try clear c15b1
            try clear c16
            try clear c16b0
            try clear c16b1
            try clear p2
            obtain ⟨kq, x66_13, rfl, HA, HJ13, HB⟩ := hcut
            cases kq with
            | zero => exact absurd HA.out (by simp [cofferdamlaw08_ColourLines.j1])
            | succ kj13 =>
              have H := HA.out
              clear HA
              simp only [cofferdamlaw08_ColourLines.j1] at H
              by_cases c17 : x66_13 = true
              · subst c17
                have H1 : (some false) = some r := by rw [if_pos rfl] at H; exact H
                clear H
                have H := H1
                clear H1
                obtain rfl := Option.some.inj H
                go_wp2
                go_ret
                exact ⟨by first | rfl | (simp [errW_none, errW_some] <;> rfl) | (simp [*, errW_none, errW_some] <;> rfl), by repeat (first | (with_reducible first | exact HB.out | apply below_alloc | apply pw_below_drewN | apply below_drew1) | exact HB.out)⟩
              · replace c17 := Bool.eq_false_iff.mpr c17
                subst c17
                have H1 : (cofferdamlaw08_ColourLines.l0 kj13 a0 a1 a2 t221 t223 ([] : List Int) false 0) = some r := by rw [if_neg (show ¬ (false = true) by decide)] at H; exact H
                clear H
                have H := H1
                clear H1
                have H' := Aside0.mk H
                clear H
                go_wp2
                go_loopg [13, 14, 15] kj13 (fun kq v13 v14 v15 w' => ∃ (x13_3 : List Int) (x14_3 : Bool) (x15_3 : Int), v14 = .bool x14_3 ∧ v15 = .int .i64 x15_3 ∧ Aside0 (cofferdamlaw08_ColourLines.l0 kq a0 a1 a2 t221 t223 x13_3 x14_3 x15_3 = some r) ∧ Aside0 (kq ≤ kj13) ∧ Aside0 (Kd.R (Kd.int .i64) 3 w' w.heap.size (fun _ => True) v13 x13_3) ∧ Aside0 (Below w.heap.size w w'))
                case atStart => exact ⟨(([] : List Int)), (false), (0), (by first | rfl | (simp; done) | (simp [*]; done)), (by first | rfl | (simp; done) | (simp [*]; done)), H', ⟨Nat.le_refl _⟩, ⟨by first | exact Kd.R_nil _ _ _ _ _ | exact Kd.N_nil _ _ _ _ _ | exact Kd.V_nil _ _ _ _ _ | exact Kd.Q_nil _ _ _ _ _ | exact Kd.S_nil _ _ _ _ _⟩, ⟨by repeat (first | (with_reducible first | exact HB.out | apply below_alloc | apply pw_below_drewN | apply below_drew1) | exact HB.out)⟩⟩
                case round =>
                  clear H'
                  try clear c1
                  try clear p2
                  try clear c5
                  try clear c6
                  try clear c10
                  try clear c10b0
                  try clear c10b1
                  try clear c11
                  try clear c13
                  try clear c14
                  try clear c15
                  try clear c15b0
                  try clear c15b1
                  try clear c16
                  try clear c16b0
                  try clear c16b1
                  try clear c17
                  try clear p2
                  obtain ⟨x13_3, x14_3, x15_3, rfl, rfl, HA, HK3, HO_13, HB⟩ := hrel
                  cases gk with
                  | zero => exact absurd HA.out (by simp [cofferdamlaw08_ColourLines.l0])
                  | succ k3 =>
                    have H := HA.out
                    clear HA
                    simp only [cofferdamlaw08_ColourLines.l0] at H
                    by_cases c18 : x15_3 < 16
                    · rw [if_pos c18] at H
                      have c18b0 : decide (x15_3 < 16) = true := decide_eq_true c18
                      clear c18
                      replace H := Option.bind_eq_some_iff.mp H
                      obtain ⟨⟨t229, t230⟩, A190, H⟩ := H
                      replace H : ((colour_Set.f (IntKind.u64.wrap (wrap64 ((wrap64 ((wrap64 (256 * a1)) + (wrap64 (16 * x15_3)))) + 15))) a2).bind fun bt231 => ((colour_Owner.f t229 a2).bind fun bt233 => (if t230 = 0 then (if bt231.2 = 0 then (if bt233.2 = 0 then (cofferdamlaw08_ColourLines.j3 k3 a0 a1 a2 t221 t223 x13_3 x14_3 x15_3 t229 bt231.1 (bt233.1 != t221)) else (cofferdamlaw08_ColourLines.j3 k3 a0 a1 a2 t221 t223 x13_3 x14_3 x15_3 t229 bt231.1 true)) else (cofferdamlaw08_ColourLines.j3 k3 a0 a1 a2 t221 t223 x13_3 x14_3 x15_3 t229 bt231.1 true)) else (cofferdamlaw08_ColourLines.j3 k3 a0 a1 a2 t221 t223 x13_3 x14_3 x15_3 t229 bt231.1 true)))) = some r := H
                      have A19 := Aside0.mk A190
                      clear A190
                      replace H := Option.bind_eq_some_iff.mp H
                      obtain ⟨⟨t231, t232⟩, A200, H⟩ := H
                      replace H : ((colour_Owner.f t229 a2).bind fun bt233 => (if t230 = 0 then (if t232 = 0 then (if bt233.2 = 0 then (cofferdamlaw08_ColourLines.j3 k3 a0 a1 a2 t221 t223 x13_3 x14_3 x15_3 t229 t231 (bt233.1 != t221)) else (cofferdamlaw08_ColourLines.j3 k3 a0 a1 a2 t221 t223 x13_3 x14_3 x15_3 t229 t231 true)) else (cofferdamlaw08_ColourLines.j3 k3 a0 a1 a2 t221 t223 x13_3 x14_3 x15_3 t229 t231 true)) else (cofferdamlaw08_ColourLines.j3 k3 a0 a1 a2 t221 t223 x13_3 x14_3 x15_3 t229 t231 true))) = some r := H
                      have A20 := Aside0.mk A200
                      clear A200
                      replace H := Option.bind_eq_some_iff.mp H
                      obtain ⟨⟨t233, t234⟩, A210, H⟩ := H
                      replace H : (if t230 = 0 then (if t232 = 0 then (if t234 = 0 then (cofferdamlaw08_ColourLines.j3 k3 a0 a1 a2 t221 t223 x13_3 x14_3 x15_3 t229 t231 (t233 != t221)) else (cofferdamlaw08_ColourLines.j3 k3 a0 a1 a2 t221 t223 x13_3 x14_3 x15_3 t229 t231 true)) else (cofferdamlaw08_ColourLines.j3 k3 a0 a1 a2 t221 t223 x13_3 x14_3 x15_3 t229 t231 true)) else (cofferdamlaw08_ColourLines.j3 k3 a0 a1 a2 t221 t223 x13_3 x14_3 x15_3 t229 t231 true)) = some r := H
                      have A21 := Aside0.mk A210
                      clear A210
                      have HC22 := Aside0.mk H
                      clear H
                      go_upto_region 19 with (first | ((with_reducible refine gate_callee (f := 9) rfl ?_); refine goesL_ (some 79) rfl rfl Try.func9 (by kernel_rfl) rfl #[.int .u64 (IntKind.u64.wrap (wrap64 ((wrap64 (256 * a0)) + (wrap64 (16 * x15_3))))), .int .i64 a2] rfl (by (try simp only [List.map_toArray, List.map_cons, List.map_nil]); first | done | rfl | (simp only [List.length_drop, List.length_take]; rfl)) ?_; (with_reducible refine (colour_Set.calls (IntKind.u64.wrap (wrap64 ((wrap64 (256 * a0)) + (wrap64 (16 * x15_3))))) a2 t229 t230 _ A19.out).mono ?_); rintro e w' ⟨rfl, ⟨nd, rfl⟩⟩; refine ⟨_, rfl, ?_⟩) | ((with_reducible refine gate_callee (f := 9) rfl ?_); refine goesL_ (some 91) rfl rfl Try.func9 (by kernel_rfl) rfl #[.int .u64 (IntKind.u64.wrap (wrap64 ((wrap64 ((wrap64 (256 * a1)) + (wrap64 (16 * x15_3)))) + 15))), .int .i64 a2] rfl (by (try simp only [List.map_toArray, List.map_cons, List.map_nil]); first | done | rfl | (simp only [List.length_drop, List.length_take]; rfl)) ?_; (with_reducible refine (colour_Set.calls (IntKind.u64.wrap (wrap64 ((wrap64 ((wrap64 (256 * a1)) + (wrap64 (16 * x15_3)))) + 15))) a2 t231 t232 _ A20.out).mono ?_); rintro e w' ⟨rfl, ⟨nd, rfl⟩⟩; refine ⟨_, rfl, ?_⟩) | ((with_reducible refine gate_callee (f := 11) rfl ?_); refine goesL_ (some 97) rfl rfl Try.func11 (by kernel_rfl) rfl #[.int .i64 t229, .int .i64 a2] rfl (by (try simp only [List.map_toArray, List.map_cons, List.map_nil]); first | done | rfl | (simp only [List.length_drop, List.length_take]; rfl)) ?_; (with_reducible refine (colour_Owner.calls t229 a2 t233 t234 _ A21.out).mono ?_); rintro e w' ⟨rfl, ⟨nd, rfl⟩⟩; refine ⟨_, rfl, ?_⟩))
                      (try simp only [Act.put, List.setIfInBounds_toArray, List.set_cons_zero, List.set_cons_succ])
                      go_cut [114] (fun v114 wc => ∃ (kq : Nat) (x114_21 : Bool), v114 = .bool x114_21 ∧ Aside0 (cofferdamlaw08_ColourLines.j3 kq a0 a1 a2 t221 t223 x13_3 x14_3 x15_3 t229 t231 x114_21 = some r) ∧ Aside0 (kq ≤ k3) ∧ Aside0 (Kd.R (Kd.int .i64) 3 wc w.heap.size (fun _ => True) u13 x13_3) ∧ Aside0 (Below w.heap.size w wc))
                      case first =>
                        have H := HC22.out
                        clear HC22
                        by_cases c23 : t230 = 0
                        · rw [if_pos c23] at H
                          have c23b0 : (t230 == 0) = true := beq_iff_eq.mpr c23
                          have c23b1 : (t230 != 0) = false := bne_eq_false_iff_eq.mpr c23
                          clear c23
                          (first | rw [c23b0] | (simp only [i64_w, i32_w]; rw [c23b0]) | skip)
                          by_cases c24 : t232 = 0
                          · rw [if_pos c24] at H
                            have c24b0 : (t232 == 0) = true := beq_iff_eq.mpr c24
                            have c24b1 : (t232 != 0) = false := bne_eq_false_iff_eq.mpr c24
                            clear c24
                            by_cases c25 : t234 = 0
                            · rw [if_pos c25] at H
                              have c25b0 : (t234 == 0) = true := beq_iff_eq.mpr c25
                              have c25b1 : (t234 != 0) = false := bne_eq_false_iff_eq.mpr c25
                              clear c25
                              have H' := Aside0.mk H
                              clear H
                              go_wp2
                              go_meet
                              case rel => exact ⟨_, ((t233 != t221)), (by first | rfl | (simp; done) | (simp [*]; done)), H', ⟨by have := HJ7.out; have := HJ13.out; have := HK3.out; first | omega | exact Nat.le_refl _⟩, ⟨by (with_reducible repeat (first | apply Kd.R_alloc | apply Kd.R_drewN | apply Kd.R_drew)); exact HO_13.out⟩, ⟨by repeat (first | (with_reducible first | exact HB.out | apply below_alloc | apply pw_below_drewN | apply below_drew1) | exact HB.out)⟩⟩
                            · rw [if_neg c25] at H
                              have c25b0 : (t234 == 0) = false := beq_eq_false_iff_ne.mpr c25
                              have c25b1 : (t234 != 0) = true := bne_iff_ne.mpr c25
                              have H' := Aside0.mk H
                              clear H
                              go_wp2
                              go_meet
                              case rel => exact ⟨_, (true), (by first | rfl | (simp; done) | (simp [*]; done)), H', ⟨by have := HJ7.out; have := HJ13.out; have := HK3.out; first | omega | exact Nat.le_refl _⟩, ⟨by (with_reducible repeat (first | apply Kd.R_alloc | apply Kd.R_drewN | apply Kd.R_drew)); exact HO_13.out⟩, ⟨by repeat (first | (with_reducible first | exact HB.out | apply below_alloc | apply pw_below_drewN | apply below_drew1) | exact HB.out)⟩⟩
                          · rw [if_neg c24] at H
                            have c24b0 : (t232 == 0) = false := beq_eq_false_iff_ne.mpr c24
                            have c24b1 : (t232 != 0) = true := bne_iff_ne.mpr c24
                            have H' := Aside0.mk H
                            clear H
                            go_wp2
                            go_meet
                            case rel => exact ⟨_, (true), (by first | rfl | (simp; done) | (simp [*]; done)), H', ⟨by have := HJ7.out; have := HJ13.out; have := HK3.out; first | omega | exact Nat.le_refl _⟩, ⟨by (with_reducible repeat (first | apply Kd.R_alloc | apply Kd.R_drewN | apply Kd.R_drew)); exact HO_13.out⟩, ⟨by repeat (first | (with_reducible first | exact HB.out | apply below_alloc | apply pw_below_drewN | apply below_drew1) | exact HB.out)⟩⟩
                        · rw [if_neg c23] at H
                          have c23b0 : (t230 == 0) = false := beq_eq_false_iff_ne.mpr c23
                          have c23b1 : (t230 != 0) = true := bne_iff_ne.mpr c23
                          (first | rw [c23b0] | (simp only [i64_w, i32_w]; rw [c23b0]) | skip)
                          have H' := Aside0.mk H
                          clear H
                          go_wp2
                          go_meet
                          case rel => exact ⟨_, (true), (by first | rfl | (simp; done) | (simp [*]; done)), H', ⟨by have := HJ7.out; have := HJ13.out; have := HK3.out; first | omega | exact Nat.le_refl _⟩, ⟨by (with_reducible repeat (first | apply Kd.R_alloc | apply Kd.R_drewN | apply Kd.R_drew)); exact HO_13.out⟩, ⟨by repeat (first | (with_reducible first | exact HB.out | apply below_alloc | apply pw_below_drewN | apply below_drew1) | exact HB.out)⟩⟩
                      case rest =>
                        clear HC22
                        try clear c1
                        try clear c2
                        try clear p2
                        try clear c5
                        try clear c6
                        try clear p6
                        try clear c9
                        try clear c10
                        try clear c10b0
                        try clear c10b1
                        try clear c11
                        try clear c13
                        try clear c14
                        try clear c15
                        try clear c15b0
                        try clear c15b1
                        try clear c16
                        try clear c16b0
                        try clear c16b1
                        try clear c17
                        try clear c18
                        try clear c18b0
                        try clear c23
                        try clear c23b0
                        try clear c23b1
                        try clear c24
                        try clear c24b0
                        try clear c24b1
                        try clear c25
                        try clear c25b0
                        try clear c25b1
                        try clear p2
                        obtain ⟨kq, x114_21, rfl, HA, HJ21, HO_13, HB⟩ := hcut
                        cases kq with
                        | zero => exact absurd HA.out (by simp [cofferdamlaw08_ColourLines.j3])
                        | succ kj21 =>
                          have H := HA.out
                          clear HA
                          simp only [cofferdamlaw08_ColourLines.j3] at H
                          by_cases c26 : x114_21 = true
                          · subst c26
                            have H1 : (some false) = some r := by rw [if_pos rfl] at H; exact H
                            clear H
                            have H := H1
                            clear H1
                            obtain rfl := Option.some.inj H
                            go_wp2
                            go_ret
                            exact ⟨by first | rfl | (simp [errW_none, errW_some] <;> rfl) | (simp [*, errW_none, errW_some] <;> rfl), by repeat (first | (with_reducible first | exact HB.out | apply below_alloc | apply pw_below_drewN | apply below_drew1) | exact HB.out)⟩
                          · replace c26 := Bool.eq_false_iff.mpr c26
                            subst c26
                            have H1 : (cofferdamlaw08_ColourLines.l1 kj21 a0 a1 a2 t221 t223 x13_3 x14_3 x15_3 t229 t231 0) = some r := by rw [if_neg (show ¬ (false = true) by decide)] at H; exact H
                            clear H
                            have H := H1
                            clear H1
                            have H' := Aside0.mk H
                            clear H
                            go_wp2
                            go_loopg [22] kj21 (fun kq v22 w' => ∃ (x22_5 : Int), v22 = .int .i64 x22_5 ∧ Aside0 (cofferdamlaw08_ColourLines.l1 kq a0 a1 a2 t221 t223 x13_3 x14_3 x15_3 t229 t231 x22_5 = some r) ∧ Aside0 (kq ≤ kj21) ∧ Aside0 (Kd.R (Kd.int .i64) 3 w' w.heap.size (fun _ => True) u13 x13_3) ∧ Aside0 (Below w.heap.size w w'))
                            case atStart => exact ⟨(0), (by first | rfl | (simp; done) | (simp [*]; done)), H', ⟨Nat.le_refl _⟩, ⟨by (with_reducible repeat (first | apply Kd.R_alloc | apply Kd.R_drewN | apply Kd.R_drew)); exact HO_13.out⟩, ⟨by repeat (first | (with_reducible first | exact HB.out | apply below_alloc | apply pw_below_drewN | apply below_drew1) | exact HB.out)⟩⟩
                            case round =>
                              clear H'
                              try clear c1
                              try clear c2
                              try clear p2
                              try clear c5
                              try clear c6
                              try clear p6
                              try clear c9
                              try clear c10
                              try clear c10b0
                              try clear c10b1
                              try clear c11
                              try clear c13
                              try clear c14
                              try clear c15
                              try clear c15b0
                              try clear c15b1
                              try clear c16
                              try clear c16b0
                              try clear c16b1
                              try clear c17
                              try clear c18
                              try clear c18b0
                              try clear c23
                              try clear c23b0
                              try clear c23b1
                              try clear c24
                              try clear c24b0
                              try clear c24b1
                              try clear c25
                              try clear c25b0
                              try clear c25b1
                              try clear c26
                              try clear p2
                              try clear p6
                              obtain ⟨x22_5, rfl, HA, HK5, HO_13, HB⟩ := hrel
                              cases gk with
                              | zero => exact absurd HA.out (by simp [cofferdamlaw08_ColourLines.l1])
                              | succ k5 =>
                                have H := HA.out
                                clear HA
                                simp only [cofferdamlaw08_ColourLines.l1] at H
                                by_cases c27 : x22_5 < (x13_3.length : Int)
                                · rw [if_pos c27] at H
                                  have c27b0 : decide (x22_5 < (x13_3.length : Int)) = true := decide_eq_true c27
                                  clear c27
                                  by_cases c28 : 0 ≤ x22_5
                                  · rw [if_pos c28] at H
                                    have c28b0 : decide (0 ≤ x22_5) = true := decide_eq_true c28
                                    clear c28
                                    by_cases c29 : (rd x13_3 x22_5) = t229
                                    · rw [if_pos c29] at H
                                      have c29b0 : ((rd x13_3 x22_5) == t229) = true := beq_iff_eq.mpr c29
                                      have c29b1 : ((rd x13_3 x22_5) != t229) = false := bne_eq_false_iff_eq.mpr c29
                                      clear c29
                                      obtain rfl := Option.some.inj H
                                      obtain ⟨Ao30, co30, eo30⟩ := Kd.R_slice HO_13.out
                                      subst eo30
                                      have p235 : 0 ≤ (x22_5 : Int) := of_decide_eq_true (by first | (with_reducible assumption) | assumption)
                                      have q235 : x22_5 < (x13_3.length : Int) := of_decide_eq_true (by first | (with_reducible assumption) | assumption)
                                      obtain ⟨ad235, e235, hx235_0⟩ := Kd.at_int (Kd.R_reads' HO_13.out).2.2 x22_5 p235 q235
                                      cases e235
                                      replace p235 := eq_true p235
                                      replace q235 := eq_true q235
                                      go_wp2
                                      go_ret
                                      exact ⟨by first | rfl | (simp [errW_none, errW_some] <;> rfl) | (simp [*, errW_none, errW_some] <;> rfl), by repeat (first | (with_reducible first | exact HB.out | apply below_alloc | apply pw_below_drewN | apply below_drew1) | exact HB.out)⟩
                                    · rw [if_neg c29] at H
                                      have c29b0 : ((rd x13_3 x22_5) == t229) = false := beq_eq_false_iff_ne.mpr c29
                                      have c29b1 : ((rd x13_3 x22_5) != t229) = true := bne_iff_ne.mpr c29
                                      have H' := Aside0.mk H
                                      clear H
                                      obtain ⟨Ao31, co31, eo31⟩ := Kd.R_slice HO_13.out
                                      subst eo31
                                      have p235 : 0 ≤ (x22_5 : Int) := of_decide_eq_true (by first | (with_reducible assumption) | assumption)
                                      have q235 : x22_5 < (x13_3.length : Int) := of_decide_eq_true (by first | (with_reducible assumption) | assumption)
                                      obtain ⟨ad235, e235, hx235_0⟩ := Kd.at_int (Kd.R_reads' HO_13.out).2.2 x22_5 p235 q235
                                      cases e235
                                      replace p235 := eq_true p235
                                      replace q235 := eq_true q235
                                      go_wp2
                                      go_roundg k5
                                      case measure => have := HJ7.out; have := HJ13.out; have := HK3.out; have := HJ21.out; have := HK5.out; omega
                                      case rel => exact ⟨(wrap64 (x22_5 + 1)), (by first | rfl | (simp; done) | (simp [*]; done)), H', ⟨by have := HJ7.out; have := HJ13.out; have := HK3.out; have := HJ21.out; have := HK5.out; omega⟩, ⟨by (with_reducible repeat (first | apply Kd.R_alloc | apply Kd.R_drewN | apply Kd.R_drew)); exact HO_13.out⟩, ⟨by repeat (first | (with_reducible first | exact HB.out | apply below_alloc | apply pw_below_drewN | apply below_drew1) | exact HB.out)⟩⟩
                                  · rw [if_neg c28] at H
                                    exact absurd H (by simp)
                                · rw [if_neg c27] at H
                                  have c27b0 : decide (x22_5 < (x13_3.length : Int)) = false := decide_eq_false c27
                                  clear c27
                                  by_cases c32 : x13_3.length < 17592186044416
                                  · rw [if_pos c32] at H
                                    have LMc32 := Aside0.mk c32
                                    clear c32
                                    obtain ⟨y236, hy236⟩ : ∃ y_ : List Int, y_ = (x13_3 ++ [t229]) := ⟨_, rfl⟩
                                    replace H : (if x14_3 = true then (cofferdamlaw08_ColourLines.l0 k5 a0 a1 a2 t221 t223 y236 true (wrap64 (x15_3 + 1))) else (cofferdamlaw08_ColourLines.l0 k5 a0 a1 a2 t221 t223 y236 (t229 == t231) (wrap64 (x15_3 + 1)))) = some r := by first | (rw [hy236]; with_reducible exact H) | (have H2_ := (Option.bind_some _ _).symm.trans H; rw [hy236]; with_reducible exact H2_) | (have H2_ := (Option.bind_some _ _).symm.trans H; with_reducible exact H2_) | with_reducible exact H | (rw [hy236]; exact H) | exact H
                                    have Ny236 := Aside0.mk hy236
                                    clear hy236
                                    by_cases c33 : x14_3 = true
                                    · subst c33
                                      have H1 : (cofferdamlaw08_ColourLines.l0 k5 a0 a1 a2 t221 t223 y236 true (wrap64 (x15_3 + 1))) = some r := by rw [if_pos rfl] at H; exact H
                                      clear H
                                      have H := H1
                                      clear H1
                                      have H' := Aside0.mk H
                                      clear H
                                      obtain ⟨Ao34, co34, eo34⟩ := Kd.R_slice HO_13.out
                                      subst eo34
                                      go_wp2_with (first | ((with_reducible refine gate_builtin (b := .append) (xs := #[.tmp 127, .tmp 129]) rfl ?_); at_builtin; refine Kd.R_append (Kd.int .i64) (w0 := w) w.heap.size rfl (.tmp 127) (.tmp 129) 31 3 (.int .i64 0) 8 rfl Try.underlying31 info3 rfl (by decide) (by omega) (.slice Ao34 x13_3.length co34) x13_3 t229 [.int .i64 t229] (fun _ => True) (fun _ => False) rfl rfl ?aP (fun _ hk => hk.elim) ?aF ?aO ?aB ?aS ?aL ?_; (case aP => exact rfl); (case aB => exact (by repeat (first | (with_reducible first | exact HB.out | apply below_alloc | apply pw_below_drewN | apply below_drew1) | exact HB.out))); (case aF => exact (fun _ _ => trivial)); (case aO => exact (by (with_reducible repeat (first | apply Kd.R_alloc | apply Kd.R_drewN | apply Kd.R_drew)); exact HO_13.out)); (case aS => exact (below_size (by repeat (first | (with_reducible first | exact HB.out | apply below_alloc | apply pw_below_drewN | apply below_drew1) | exact HB.out)))); (case aL => have := LMc32.out; omega); intro v237 w35 ho hb hg hat; rw [← Ny236.out] at ho; have n0_ := Aside0.mk (hb); have n1_ := Aside0.mk (ho); clear HB; clear HO_13; have HB := n0_; have HO238 := n1_; clear n0_ n1_; clear ho hb hg hat))
                                      go_roundg k5
                                      case measure => have := HJ7.out; have := HJ13.out; have := HK3.out; have := HJ21.out; have := HK5.out; omega
                                      case rel => exact ⟨(y236), (true), (wrap64 (x15_3 + 1)), (by first | rfl | (simp; done) | (simp [*]; done)), (by first | rfl | (simp; done) | (simp [*]; done)), H', ⟨by have := HJ7.out; have := HJ13.out; have := HK3.out; have := HJ21.out; have := HK5.out; omega⟩, ⟨by (with_reducible repeat (first | apply Kd.R_alloc | apply Kd.R_drewN | apply Kd.R_drew)); exact HO238.out⟩, ⟨by repeat (first | (with_reducible first | exact HB.out | apply below_alloc | apply pw_below_drewN | apply below_drew1) | exact HB.out)⟩⟩
                                    · replace c33 := Bool.eq_false_iff.mpr c33
                                      subst c33
                                      have H1 : (cofferdamlaw08_ColourLines.l0 k5 a0 a1 a2 t221 t223 y236 (t229 == t231) (wrap64 (x15_3 + 1))) = some r := by rw [if_neg (show ¬ (false = true) by decide)] at H; exact H
                                      clear H
                                      have H := H1
                                      clear H1
                                      have H' := Aside0.mk H
                                      clear H
                                      obtain ⟨Ao36, co36, eo36⟩ := Kd.R_slice HO_13.out
                                      subst eo36
                                      go_wp2_with (first | ((with_reducible refine gate_builtin (b := .append) (xs := #[.tmp 127, .tmp 129]) rfl ?_); at_builtin; refine Kd.R_append (Kd.int .i64) (w0 := w) w.heap.size rfl (.tmp 127) (.tmp 129) 31 3 (.int .i64 0) 8 rfl Try.underlying31 info3 rfl (by decide) (by omega) (.slice Ao36 x13_3.length co36) x13_3 t229 [.int .i64 t229] (fun _ => True) (fun _ => False) rfl rfl ?aP (fun _ hk => hk.elim) ?aF ?aO ?aB ?aS ?aL ?_; (case aP => exact rfl); (case aB => exact (by repeat (first | (with_reducible first | exact HB.out | apply below_alloc | apply pw_below_drewN | apply below_drew1) | exact HB.out))); (case aF => exact (fun _ _ => trivial)); (case aO => exact (by (with_reducible repeat (first | apply Kd.R_alloc | apply Kd.R_drewN | apply Kd.R_drew)); exact HO_13.out)); (case aS => exact (below_size (by repeat (first | (with_reducible first | exact HB.out | apply below_alloc | apply pw_below_drewN | apply below_drew1) | exact HB.out)))); (case aL => have := LMc32.out; omega); intro v237 w37 ho hb hg hat; rw [← Ny236.out] at ho; have n0_ := Aside0.mk (hb); have n1_ := Aside0.mk (ho); clear HB; clear HO_13; have HB := n0_; have HO238 := n1_; clear n0_ n1_; clear ho hb hg hat))
                                      go_roundg k5
                                      case measure => have := HJ7.out; have := HJ13.out; have := HK3.out; have := HJ21.out; have := HK5.out; omega
                                      case rel => exact ⟨(y236), ((t229 == t231)), (wrap64 (x15_3 + 1)), (by first | rfl | (simp; done) | (simp [*]; done)), (by first | rfl | (simp; done) | (simp [*]; done)), H', ⟨by have := HJ7.out; have := HJ13.out; have := HK3.out; have := HJ21.out; have := HK5.out; omega⟩, ⟨by (with_reducible repeat (first | apply Kd.R_alloc | apply Kd.R_drewN | apply Kd.R_drew)); exact HO238.out⟩, ⟨by repeat (first | (with_reducible first | exact HB.out | apply below_alloc | apply pw_below_drewN | apply below_drew1) | exact HB.out)⟩⟩
                                  · rw [if_neg c32] at H
                                    exact absurd H (by simp)
                    · rw [if_neg c18] at H
                      have c18b0 : decide (x15_3 < 16) = false := decide_eq_false c18
                      clear c18
                      obtain rfl := Option.some.inj H
                      go_wp2
                      go_ret
                      exact ⟨by first | rfl | (simp [errW_none, errW_some] <;> rfl) | (simp [*, errW_none, errW_some] <;> rfl), by repeat (first | (with_reducible first | exact HB.out | apply below_alloc | apply pw_below_drewN | apply below_drew1) | exact HB.out)⟩
  · replace c5 := Bool.eq_false_iff.mpr c5
    subst c5
    have H1 : (some false) = some r := by rw [if_neg (show ¬ (false = true) by decide)] at H; exact H
    clear H
    have H := H1
    clear H1
    obtain rfl := Option.some.inj H
    go_enter Try.func6, Try.ntmps6
    go_wp2_with (first | ((with_reducible refine gate_callee (f := 13) rfl ?_); refine goesL_ (some 23) rfl rfl Try.func13 (by kernel_rfl) rfl #[] rfl (by (try simp only [List.map_toArray, List.map_cons, List.map_nil]); first | done | rfl | (simp only [List.length_drop, List.length_take]; rfl)) ?_; (with_reducible refine (cofferdamlaw08_works.calls k  false _ A4.out).mono ?_); rintro e w38 ⟨rfl, hb⟩; refine ⟨_, rfl, ?_⟩; have n0_ := Aside0.mk (below_step (by repeat (first | (with_reducible first | exact HB.out | apply below_alloc | apply pw_below_drewN | apply below_drew1) | exact HB.out)) hb); clear HB; have HB := n0_; clear n0_; (try clear hb); (try clear hb2); (try clear hk); (try clear hi)))
    go_ret
    exact ⟨by first | rfl | (simp [errW_none, errW_some] <;> rfl) | (simp [*, errW_none, errW_some] <;> rfl), by repeat (first | (with_reducible first | exact HB.out | apply below_alloc | apply pw_below_drewN | apply below_drew1) | exact HB.out)⟩

/-- THE ONE PURE STATEMENT of cofferdamlaw08_ColourLines: yours. -/
def cofferdamlaw08_ColourLines.Pure : Prop := ∀ (a0 : Int) (a1 : Int) (a2 : Int), (Lit.int .i64 a0).wf = true → (Lit.int .i64 a1).wf = true → (Lit.int .i64 a2).wf = true → ∃ k, cofferdamlaw08_ColourLines.f k a0 a1 a2 = some true
theorem cofferdamlaw08_ColourLines.walk (P : cofferdamlaw08_ColourLines.Pure) (a0 : Int) (a1 : Int) (a2 : Int) (w : World) (w0 : (Lit.int .i64 a0).wf = true) (w1 : (Lit.int .i64 a1).wf = true) (w2 : (Lit.int .i64 a2).wf = true) :
    Calls Try.prog 6 #[.int .i64 a0, .int .i64 a1, .int .i64 a2] w fun e w' => e = .returned (.bool true) ∧ Below w.heap.size w w' := by
  obtain ⟨k, h⟩ := P a0 a1 a2 w0 w1 w2
  refine (cofferdamlaw08_ColourLines.calls k a0 a1 a2 true w h).mono ?_
  rintro e w' ⟨rfl, hd⟩
  exact ⟨rfl, hd⟩

end Go.Proofs.Ytkihoeacojcdlaa.H
