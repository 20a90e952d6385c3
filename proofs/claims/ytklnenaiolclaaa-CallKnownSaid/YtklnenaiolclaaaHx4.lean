-- Written by hprint.py, a program of this session's, over the kit's printer.
import Derived.Test.YtklnenaiolclaaaHx0
import Derived.Test.YtklnenaiolclaaaHx1
import Derived.Test.YtklnenaiolclaaaHx2
import Derived.Test.YtklnenaiolclaaaHx3
namespace Go.Proofs.Ytklnenaiolclaaa.H
open Go.RowKit Go.Proofs.YtklnenaiolclaaaW.PrintWords Go.Proofs.YtklnenaiolclaaaW.PrintLast Go.Proofs.YtklnenaiolclaaaW.PrintMore
attribute [local go_sem] max2_int min2_int max_two min_two max_three min_three max_four min_four   -- for this text's walks alone
set_option linter.unusedVariables false
set_option linter.unusedSimpArgs false

attribute [local go_sem high] eqA26
/-! ### cofferdamref25_Check: function 19 -/
mutual
def cofferdamref25_Check.j0 : Nat → ByteArray → Bool → Int → Int → Int → Int → Int → Int → Int → Option (Int)
  | 0, _, _, _, _, _, _, _, _, _ => none
  | k + 1, x3, x34, x127000, x127001, x127002, x127003, x127004, x127005, x127006 => if x34 = true then (some 250) else (cofferdamref25_Check.l0 k x3 0 x127000 x127001 x127002 x127003 x127004 x127005 x127006 x127000 0 0 0 0 0 0)
def cofferdamref25_Check.l0 : Nat → ByteArray → Int → Int → Int → Int → Int → Int → Int → Int → Int → Int → Int → Int → Int → Int → Int → Option (Int)
  | 0, _, _, _, _, _, _, _, _, _, _, _, _, _, _, _, _ => none
  | k + 1, x3, x6, x127000, x127001, x127002, x127003, x127004, x127005, x127006, x133000, x133001, x133002, x133003, x133004, x133005, x133006 => if x6 < (x3.size : Int) then (if 0 ≤ x6 then ((cofferdamref25_word.f x127000 x127001 x127002 x127003 x127004 x127005 x127006 (bt x3 x6)).bind fun t133 => ((cofferdamref25_with.f x133000 x133001 x133002 x133003 x133004 x133005 x133006 (bt x3 x6) t133).bind fun bt134 => (cofferdamref25_Check.l0 k x3 (wrap64 (x6 + 1)) x127000 x127001 x127002 x127003 x127004 x127005 x127006 bt134.1 bt134.2.1 bt134.2.2.1 bt134.2.2.2.1 bt134.2.2.2.2.1 bt134.2.2.2.2.2.1 bt134.2.2.2.2.2.2.1))) else (none)) else (if (!(x133000 == x127000) || (!(x133001 == x127001) || (!(x133002 == x127002) || (!(x133003 == x127003) || (!(x133004 == x127004) || (!(x133005 == x127005) || (!(x133006 == x127006)))))))) = true then (some 250) else (some 0))
end
def cofferdamref25_Check.f (k : Nat) (a0_0 : Int) (a0_1 : Int) (a0_2 : Int) (a0_3 : Int) (a0_4 : Int) (a0_5 : Int) (a0_6 : Int) : Option (Int) := (cofferdamref25_Names.f k a0_0).bind fun bt127 => (if bt127.2 = true then ((cofferdamref01_Within.f a0_1 0 2147483647).bind fun t129 => (if t129 = true then ((cofferdamref01_Within.f a0_2 0 2147483647).bind fun t130 => (if t130 = true then ((cofferdamref01_Within.f a0_3 0 2147483647).bind fun t131 => (cofferdamref25_Check.j0 k bt127.1 (!t131) a0_0 a0_1 a0_2 a0_3 a0_4 a0_5 a0_6)) else (cofferdamref25_Check.j0 k bt127.1 true a0_0 a0_1 a0_2 a0_3 a0_4 a0_5 a0_6))) else (cofferdamref25_Check.j0 k bt127.1 true a0_0 a0_1 a0_2 a0_3 a0_4 a0_5 a0_6))) else (cofferdamref25_Check.j0 k bt127.1 true a0_0 a0_1 a0_2 a0_3 a0_4 a0_5 a0_6))
theorem cofferdamref25_Check.mono_l : ∀ k, (∀ y0 y1 y2 y3 y4 y5 y6 y7 y8, LeO (cofferdamref25_Check.j0 k y0 y1 y2 y3 y4 y5 y6 y7 y8) (cofferdamref25_Check.j0 (k + 1) y0 y1 y2 y3 y4 y5 y6 y7 y8)) ∧ (∀ y0 y1 y2 y3 y4 y5 y6 y7 y8 y9 y10 y11 y12 y13 y14 y15, LeO (cofferdamref25_Check.l0 k y0 y1 y2 y3 y4 y5 y6 y7 y8 y9 y10 y11 y12 y13 y14 y15) (cofferdamref25_Check.l0 (k + 1) y0 y1 y2 y3 y4 y5 y6 y7 y8 y9 y10 y11 y12 y13 y14 y15))
  | 0 => ⟨fun _ _ _ _ _ _ _ _ _ r h => by simp [cofferdamref25_Check.j0] at h, fun _ _ _ _ _ _ _ _ _ _ _ _ _ _ _ _ r h => by simp [cofferdamref25_Check.l0] at h⟩
  | k + 1 => by
    obtain ⟨ih0, ih1⟩ := cofferdamref25_Check.mono_l k
    refine ⟨?_, ?_⟩
    · intro y0 y1 y2 y3 y4 y5 y6 y7 y8
      unfold cofferdamref25_Check.j0
      repeat' first
      | (with_reducible exact ih0 _ _ _ _ _ _ _ _ _)
      | (with_reducible exact ih1 _ _ _ _ _ _ _ _ _ _ _ _ _ _ _ _)
      | (with_reducible exact cofferdamref25_Names.mono _ _)
      | (with_reducible exact LeO.refl _)
      | (with_reducible exact LeO.none _)
      | (with_reducible refine LeO.ite ?_ ?_)
      | (with_reducible refine LeO.bind ?_ (fun _ => ?_))
      | exact ih0 _ _ _ _ _ _ _ _ _
      | exact ih1 _ _ _ _ _ _ _ _ _ _ _ _ _ _ _ _
      | exact cofferdamref25_Names.mono _ _
      | exact LeO.none _
      | refine LeO.ite ?_ ?_
      | refine LeO.bind ?_ (fun _ => ?_)
    · intro y0 y1 y2 y3 y4 y5 y6 y7 y8 y9 y10 y11 y12 y13 y14 y15
      unfold cofferdamref25_Check.l0
      repeat' first
      | (with_reducible exact ih0 _ _ _ _ _ _ _ _ _)
      | (with_reducible exact ih1 _ _ _ _ _ _ _ _ _ _ _ _ _ _ _ _)
      | (with_reducible exact cofferdamref25_Names.mono _ _)
      | (with_reducible exact LeO.refl _)
      | (with_reducible exact LeO.none _)
      | (with_reducible refine LeO.ite ?_ ?_)
      | (with_reducible refine LeO.bind ?_ (fun _ => ?_))
      | exact ih0 _ _ _ _ _ _ _ _ _
      | exact ih1 _ _ _ _ _ _ _ _ _ _ _ _ _ _ _ _
      | exact cofferdamref25_Names.mono _ _
      | exact LeO.none _
      | refine LeO.ite ?_ ?_
      | refine LeO.bind ?_ (fun _ => ?_)
theorem cofferdamref25_Check.mono : ∀ a0 a1 a2 a3 a4 a5 a6 k, LeO (cofferdamref25_Check.f k a0 a1 a2 a3 a4 a5 a6) (cofferdamref25_Check.f (k + 1) a0 a1 a2 a3 a4 a5 a6) := by
  intro a0 a1 a2 a3 a4 a5 a6 k
  obtain ⟨ih0, ih1⟩ := cofferdamref25_Check.mono_l k
  unfold cofferdamref25_Check.f
  repeat' first
      | (with_reducible exact ih0 _ _ _ _ _ _ _ _ _)
      | (with_reducible exact ih1 _ _ _ _ _ _ _ _ _ _ _ _ _ _ _ _)
      | (with_reducible exact cofferdamref25_Names.mono _ _)
      | (with_reducible exact LeO.refl _)
      | (with_reducible exact LeO.none _)
      | (with_reducible refine LeO.ite ?_ ?_)
      | (with_reducible refine LeO.bind ?_ (fun _ => ?_))
      | exact ih0 _ _ _ _ _ _ _ _ _
      | exact ih1 _ _ _ _ _ _ _ _ _ _ _ _ _ _ _ _
      | exact cofferdamref25_Names.mono _ _
      | exact LeO.none _
      | refine LeO.ite ?_ ?_
      | refine LeO.bind ?_ (fun _ => ?_)
def cofferdamref25_Check.T8 : Bool × List (List Nat × List Nat) := (true, [([], []), ([], []), ([], []), ([1, 2], [1, 2]), ([], []), ([], []), ([], []), ([5, 6], [5, 6]), ([4, 7], [4, 7]), ([0, 3, 8, 8], [0, 3, 8]), ([9], [9]), ([10], [10]), ([10], [10]), ([], []), ([13, 11, 9, 0, 1, 2, 3, 4, 5, 6, 7, 8, 9, 10, 11, 13], [11, 13]), ([12, 14, 0, 1, 2, 3, 4, 5, 6, 7, 8, 9, 10, 11, 12, 13, 14], [12])])
def cofferdamref25_Check.B8 : List Nat := [0, 0, 0, 6, 0, 0, 0, 96, 240, 511, 1023, 2047, 2047, 0, 12287, 32767]
theorem cofferdamref25_Check.tab8 : rtab .any (opsOf Try.f19 8) = cofferdamref25_Check.T8 := by kernel_rfl
theorem cofferdamref25_Check.bits8 : waitsOk cofferdamref25_Check.T8.2 cofferdamref25_Check.B8 = true := by kernel_rfl
set_option maxHeartbeats 8000000 in
set_option maxRecDepth 100000 in
theorem cofferdamref25_Check.calls (k : Nat) (a0_0 : Int) (a0_1 : Int) (a0_2 : Int) (a0_3 : Int) (a0_4 : Int) (a0_5 : Int) (a0_6 : Int) (r : Int) (w : World) (h : cofferdamref25_Check.f k a0_0 a0_1 a0_2 a0_3 a0_4 a0_5 a0_6 = some r) :
    Calls Try.prog 19 #[.agg #[.int .u8 a0_0, .int .i64 a0_1, .int .i64 a0_2, .int .i64 a0_3, .int .u8 a0_4, .int .u64 a0_5, .int .u64 a0_6]] w fun e w' => e = .returned (.int .i64 r) ∧ Below w.heap.size w w' := by
  have hu26 := Try.underlying26
  have HB := Aside0.mk (Below.refl w.heap.size w)
  have H : ((cofferdamref25_Names.f k a0_0).bind fun bt127 => (if bt127.2 = true then ((cofferdamref01_Within.f a0_1 0 2147483647).bind fun t129 => (if t129 = true then ((cofferdamref01_Within.f a0_2 0 2147483647).bind fun t130 => (if t130 = true then ((cofferdamref01_Within.f a0_3 0 2147483647).bind fun t131 => (cofferdamref25_Check.j0 k bt127.1 (!t131) a0_0 a0_1 a0_2 a0_3 a0_4 a0_5 a0_6)) else (cofferdamref25_Check.j0 k bt127.1 true a0_0 a0_1 a0_2 a0_3 a0_4 a0_5 a0_6))) else (cofferdamref25_Check.j0 k bt127.1 true a0_0 a0_1 a0_2 a0_3 a0_4 a0_5 a0_6))) else (cofferdamref25_Check.j0 k bt127.1 true a0_0 a0_1 a0_2 a0_3 a0_4 a0_5 a0_6))) = some r := h
  clear h
  replace H := Option.bind_eq_some_iff.mp H
  obtain ⟨⟨t127, t128⟩, A20, H⟩ := H
  replace H : (if t128 = true then ((cofferdamref01_Within.f a0_1 0 2147483647).bind fun t129 => (if t129 = true then ((cofferdamref01_Within.f a0_2 0 2147483647).bind fun t130 => (if t130 = true then ((cofferdamref01_Within.f a0_3 0 2147483647).bind fun t131 => (cofferdamref25_Check.j0 k t127 (!t131) a0_0 a0_1 a0_2 a0_3 a0_4 a0_5 a0_6)) else (cofferdamref25_Check.j0 k t127 true a0_0 a0_1 a0_2 a0_3 a0_4 a0_5 a0_6))) else (cofferdamref25_Check.j0 k t127 true a0_0 a0_1 a0_2 a0_3 a0_4 a0_5 a0_6))) else (cofferdamref25_Check.j0 k t127 true a0_0 a0_1 a0_2 a0_3 a0_4 a0_5 a0_6)) = some r := H
  have A2 := Aside0.mk A20
  clear A20
  have HC3 := Aside0.mk H
  clear H
  go_enter Try.func19, Try.ntmps19
  go_upto_region 2 with (first | ((with_reducible refine gate_dst (N := 1) rfl ?_); refine box_event ?hg (N := 1) ?hd (cs := #[.int .u8 a0_0, .int .i64 a0_1, .int .i64 a0_2, .int .i64 a0_3, .int .u8 a0_4, .int .u64 a0_5, .int .u64 a0_6]) (t := 26) ?hr ?_; (case hd => rfl); (case hg => rfl); (case hr => first | (go_simp; done) | (go_simp; rfl)); intro gb126 hg w4 hbox hb; have n0_ := Aside0.mk (below_step (by repeat (first | (with_reducible first | exact HB.out | apply below_alloc | apply pw_below_drewN | apply below_drew1) | exact HB.out)) hb); have n1_ := Aside0.mk (hbox); have n2_ := Aside0.mk ((by rw [hg]; exact (below_size (by repeat (first | (with_reducible first | exact HB.out | apply below_alloc | apply pw_below_drewN | apply below_drew1) | exact HB.out))) : w.heap.size ≤ gb126)); have n3_ := Aside0.mk ((by rw [hg]; exact (below_size (by repeat (first | (with_reducible first | exact HB.out | apply below_alloc | apply pw_below_drewN | apply below_drew1) | exact HB.out))) : w.heap.size ≤ gb126)); clear HB; have HB := n0_; have BK126 := n1_; have GW126 := n2_; have GE126 := n3_; clear n0_ n1_ n2_ n3_; clear hb hbox hg; have hcz5_0 : w4.cell? ⟨gb126, 0, none⟩ = some (.int .u8 a0_0) := (blk_cell BK126.out 0).trans rfl; have hcz5_1 : w4.cell? ⟨gb126, 1, none⟩ = some (.int .i64 a0_1) := (blk_cell BK126.out 1).trans rfl; have hcz5_2 : w4.cell? ⟨gb126, 2, none⟩ = some (.int .i64 a0_2) := (blk_cell BK126.out 2).trans rfl; have hcz5_3 : w4.cell? ⟨gb126, 3, none⟩ = some (.int .i64 a0_3) := (blk_cell BK126.out 3).trans rfl; have hcz5_4 : w4.cell? ⟨gb126, 4, none⟩ = some (.int .u8 a0_4) := (blk_cell BK126.out 4).trans rfl; have hcz5_5 : w4.cell? ⟨gb126, 5, none⟩ = some (.int .u64 a0_5) := (blk_cell BK126.out 5).trans rfl; have hcz5_6 : w4.cell? ⟨gb126, 6, none⟩ = some (.int .u64 a0_6) := (blk_cell BK126.out 6).trans rfl; have hfz5_0 := blk_frozen BK126.out 0; have hfz5_1 := blk_frozen BK126.out 1; have hfz5_2 := blk_frozen BK126.out 2; have hfz5_3 := blk_frozen BK126.out 3; have hfz5_4 := blk_frozen BK126.out 4; have hfz5_5 := blk_frozen BK126.out 5; have hfz5_6 := blk_frozen BK126.out 6) | ((with_reducible refine gate_callee (f := 22) rfl ?_); refine goesL_ (some 12) rfl rfl Try.func22 (by kernel_rfl) rfl #[.int .u8 a0_0] rfl (by (try simp only [List.map_toArray, List.map_cons, List.map_nil]); first | done | rfl | (simp only [List.length_drop, List.length_take]; rfl)) ?_; (with_reducible refine (cofferdamref25_Names.calls k a0_0 t127 t128 _ A2.out).mono ?_); rintro e w' ⟨rfl, ⟨nd, rfl⟩⟩; refine ⟨_, rfl, ?_⟩))
  (try simp only [Act.put, List.setIfInBounds_toArray, List.set_cons_zero, List.set_cons_succ])
  go_cut [34] (fun v34 wc => ∃ (kq : Nat) (x34_2 : Bool), v34 = .bool x34_2 ∧ Aside0 (cofferdamref25_Check.j0 kq t127 x34_2 a0_0 a0_1 a0_2 a0_3 a0_4 a0_5 a0_6 = some r) ∧ Aside0 (kq ≤ k) ∧ Aside0 (wc.heap[gb126]? = some (.cells #[.int .u8 a0_0, .int .i64 a0_1, .int .i64 a0_2, .int .i64 a0_3, .int .u8 a0_4, .int .u64 a0_5, .int .u64 a0_6] 26 (0, 0))) ∧ Aside0 (Below w.heap.size w wc))
  case first =>
    have H := HC3.out
    clear HC3
    by_cases c6 : t128 = true
    · subst c6
      have H1 : ((cofferdamref01_Within.f a0_1 0 2147483647).bind fun t129 => (if t129 = true then ((cofferdamref01_Within.f a0_2 0 2147483647).bind fun t130 => (if t130 = true then ((cofferdamref01_Within.f a0_3 0 2147483647).bind fun t131 => (cofferdamref25_Check.j0 k t127 (!t131) a0_0 a0_1 a0_2 a0_3 a0_4 a0_5 a0_6)) else (cofferdamref25_Check.j0 k t127 true a0_0 a0_1 a0_2 a0_3 a0_4 a0_5 a0_6))) else (cofferdamref25_Check.j0 k t127 true a0_0 a0_1 a0_2 a0_3 a0_4 a0_5 a0_6))) = some r := by rw [if_pos rfl] at H; exact H
      clear H
      have H := H1
      clear H1
      replace H := Option.bind_eq_some_iff.mp H
      obtain ⟨t129, A70, H⟩ := H
      replace H : (if t129 = true then ((cofferdamref01_Within.f a0_2 0 2147483647).bind fun t130 => (if t130 = true then ((cofferdamref01_Within.f a0_3 0 2147483647).bind fun t131 => (cofferdamref25_Check.j0 k t127 (!t131) a0_0 a0_1 a0_2 a0_3 a0_4 a0_5 a0_6)) else (cofferdamref25_Check.j0 k t127 true a0_0 a0_1 a0_2 a0_3 a0_4 a0_5 a0_6))) else (cofferdamref25_Check.j0 k t127 true a0_0 a0_1 a0_2 a0_3 a0_4 a0_5 a0_6)) = some r := H
      have A7 := Aside0.mk A70
      clear A70
      by_cases c8 : t129 = true
      · subst c8
        have H1 : ((cofferdamref01_Within.f a0_2 0 2147483647).bind fun t130 => (if t130 = true then ((cofferdamref01_Within.f a0_3 0 2147483647).bind fun t131 => (cofferdamref25_Check.j0 k t127 (!t131) a0_0 a0_1 a0_2 a0_3 a0_4 a0_5 a0_6)) else (cofferdamref25_Check.j0 k t127 true a0_0 a0_1 a0_2 a0_3 a0_4 a0_5 a0_6))) = some r := by rw [if_pos rfl] at H; exact H
        clear H
        have H := H1
        clear H1
        replace H := Option.bind_eq_some_iff.mp H
        obtain ⟨t130, A90, H⟩ := H
        replace H : (if t130 = true then ((cofferdamref01_Within.f a0_3 0 2147483647).bind fun t131 => (cofferdamref25_Check.j0 k t127 (!t131) a0_0 a0_1 a0_2 a0_3 a0_4 a0_5 a0_6)) else (cofferdamref25_Check.j0 k t127 true a0_0 a0_1 a0_2 a0_3 a0_4 a0_5 a0_6)) = some r := H
        have A9 := Aside0.mk A90
        clear A90
        by_cases c10 : t130 = true
        · subst c10
          have H1 : ((cofferdamref01_Within.f a0_3 0 2147483647).bind fun t131 => (cofferdamref25_Check.j0 k t127 (!t131) a0_0 a0_1 a0_2 a0_3 a0_4 a0_5 a0_6)) = some r := by rw [if_pos rfl] at H; exact H
          clear H
          have H := H1
          clear H1
          replace H := Option.bind_eq_some_iff.mp H
          obtain ⟨t131, A110, H⟩ := H
          replace H : (cofferdamref25_Check.j0 k t127 (!t131) a0_0 a0_1 a0_2 a0_3 a0_4 a0_5 a0_6) = some r := H
          have A11 := Aside0.mk A110
          clear A110
          have H' := Aside0.mk H
          clear H
          have hcz12_0 : w4.cell? ⟨gb126, 0, none⟩ = some (.int .u8 a0_0) := (blk_cell BK126.out 0).trans rfl
          have hcz12_1 : w4.cell? ⟨gb126, 1, none⟩ = some (.int .i64 a0_1) := (blk_cell BK126.out 1).trans rfl
          have hcz12_2 : w4.cell? ⟨gb126, 2, none⟩ = some (.int .i64 a0_2) := (blk_cell BK126.out 2).trans rfl
          have hcz12_3 : w4.cell? ⟨gb126, 3, none⟩ = some (.int .i64 a0_3) := (blk_cell BK126.out 3).trans rfl
          have hcz12_4 : w4.cell? ⟨gb126, 4, none⟩ = some (.int .u8 a0_4) := (blk_cell BK126.out 4).trans rfl
          have hcz12_5 : w4.cell? ⟨gb126, 5, none⟩ = some (.int .u64 a0_5) := (blk_cell BK126.out 5).trans rfl
          have hcz12_6 : w4.cell? ⟨gb126, 6, none⟩ = some (.int .u64 a0_6) := (blk_cell BK126.out 6).trans rfl
          have hfz12_0 := blk_frozen BK126.out 0
          have hfz12_1 := blk_frozen BK126.out 1
          have hfz12_2 := blk_frozen BK126.out 2
          have hfz12_3 := blk_frozen BK126.out 3
          have hfz12_4 := blk_frozen BK126.out 4
          have hfz12_5 := blk_frozen BK126.out 5
          have hfz12_6 := blk_frozen BK126.out 6
          go_wp2_with (first | (go_at_call 27; (with_reducible refine (cofferdamref01_Within.calls a0_1 0 2147483647 true _ A7.out).mono ?_); rintro e w' ⟨rfl, ⟨nd, rfl⟩⟩) | (go_at_call 27; (with_reducible refine (cofferdamref01_Within.calls a0_2 0 2147483647 true _ A9.out).mono ?_); rintro e w' ⟨rfl, ⟨nd, rfl⟩⟩) | (go_at_call 27; (with_reducible refine (cofferdamref01_Within.calls a0_3 0 2147483647 t131 _ A11.out).mono ?_); rintro e w' ⟨rfl, ⟨nd, rfl⟩⟩))
          go_meet
          case rel => exact ⟨_, (!t131), (by first | rfl | (simp; done) | (simp [*]; done)), H', ⟨by first | omega | exact Nat.le_refl _⟩, ⟨by (with_reducible repeat (first | refine blk_drewN ?_ _ | refine blk_drew ?_ | refine blk_alloc ?_ _)); exact BK126.out⟩, ⟨by repeat (first | (with_reducible first | exact HB.out | apply below_alloc | apply pw_below_drewN | apply below_drew1 | refine below_set ?_ GE126.out) | exact HB.out)⟩⟩
        · replace c10 := Bool.eq_false_iff.mpr c10
          subst c10
          have H1 : (cofferdamref25_Check.j0 k t127 true a0_0 a0_1 a0_2 a0_3 a0_4 a0_5 a0_6) = some r := by rw [if_neg (show ¬ (false = true) by decide)] at H; exact H
          clear H
          have H := H1
          clear H1
          have H' := Aside0.mk H
          clear H
          have hcz13_0 : w4.cell? ⟨gb126, 0, none⟩ = some (.int .u8 a0_0) := (blk_cell BK126.out 0).trans rfl
          have hcz13_1 : w4.cell? ⟨gb126, 1, none⟩ = some (.int .i64 a0_1) := (blk_cell BK126.out 1).trans rfl
          have hcz13_2 : w4.cell? ⟨gb126, 2, none⟩ = some (.int .i64 a0_2) := (blk_cell BK126.out 2).trans rfl
          have hcz13_3 : w4.cell? ⟨gb126, 3, none⟩ = some (.int .i64 a0_3) := (blk_cell BK126.out 3).trans rfl
          have hcz13_4 : w4.cell? ⟨gb126, 4, none⟩ = some (.int .u8 a0_4) := (blk_cell BK126.out 4).trans rfl
          have hcz13_5 : w4.cell? ⟨gb126, 5, none⟩ = some (.int .u64 a0_5) := (blk_cell BK126.out 5).trans rfl
          have hcz13_6 : w4.cell? ⟨gb126, 6, none⟩ = some (.int .u64 a0_6) := (blk_cell BK126.out 6).trans rfl
          have hfz13_0 := blk_frozen BK126.out 0
          have hfz13_1 := blk_frozen BK126.out 1
          have hfz13_2 := blk_frozen BK126.out 2
          have hfz13_3 := blk_frozen BK126.out 3
          have hfz13_4 := blk_frozen BK126.out 4
          have hfz13_5 := blk_frozen BK126.out 5
          have hfz13_6 := blk_frozen BK126.out 6
          go_wp2_with (first | (go_at_call 27; (with_reducible refine (cofferdamref01_Within.calls a0_1 0 2147483647 true _ A7.out).mono ?_); rintro e w' ⟨rfl, ⟨nd, rfl⟩⟩) | (go_at_call 27; (with_reducible refine (cofferdamref01_Within.calls a0_2 0 2147483647 false _ A9.out).mono ?_); rintro e w' ⟨rfl, ⟨nd, rfl⟩⟩))
          go_meet
          case rel => exact ⟨_, (true), (by first | rfl | (simp; done) | (simp [*]; done)), H', ⟨by first | omega | exact Nat.le_refl _⟩, ⟨by (with_reducible repeat (first | refine blk_drewN ?_ _ | refine blk_drew ?_ | refine blk_alloc ?_ _)); exact BK126.out⟩, ⟨by repeat (first | (with_reducible first | exact HB.out | apply below_alloc | apply pw_below_drewN | apply below_drew1 | refine below_set ?_ GE126.out) | exact HB.out)⟩⟩
      · replace c8 := Bool.eq_false_iff.mpr c8
        subst c8
        have H1 : (cofferdamref25_Check.j0 k t127 true a0_0 a0_1 a0_2 a0_3 a0_4 a0_5 a0_6) = some r := by rw [if_neg (show ¬ (false = true) by decide)] at H; exact H
        clear H
        have H := H1
        clear H1
        have H' := Aside0.mk H
        clear H
        have hcz14_0 : w4.cell? ⟨gb126, 0, none⟩ = some (.int .u8 a0_0) := (blk_cell BK126.out 0).trans rfl
        have hcz14_1 : w4.cell? ⟨gb126, 1, none⟩ = some (.int .i64 a0_1) := (blk_cell BK126.out 1).trans rfl
        have hcz14_2 : w4.cell? ⟨gb126, 2, none⟩ = some (.int .i64 a0_2) := (blk_cell BK126.out 2).trans rfl
        have hcz14_3 : w4.cell? ⟨gb126, 3, none⟩ = some (.int .i64 a0_3) := (blk_cell BK126.out 3).trans rfl
        have hcz14_4 : w4.cell? ⟨gb126, 4, none⟩ = some (.int .u8 a0_4) := (blk_cell BK126.out 4).trans rfl
        have hcz14_5 : w4.cell? ⟨gb126, 5, none⟩ = some (.int .u64 a0_5) := (blk_cell BK126.out 5).trans rfl
        have hcz14_6 : w4.cell? ⟨gb126, 6, none⟩ = some (.int .u64 a0_6) := (blk_cell BK126.out 6).trans rfl
        have hfz14_0 := blk_frozen BK126.out 0
        have hfz14_1 := blk_frozen BK126.out 1
        have hfz14_2 := blk_frozen BK126.out 2
        have hfz14_3 := blk_frozen BK126.out 3
        have hfz14_4 := blk_frozen BK126.out 4
        have hfz14_5 := blk_frozen BK126.out 5
        have hfz14_6 := blk_frozen BK126.out 6
        go_wp2_with (first | (go_at_call 27; (with_reducible refine (cofferdamref01_Within.calls a0_1 0 2147483647 false _ A7.out).mono ?_); rintro e w' ⟨rfl, ⟨nd, rfl⟩⟩))
        go_meet
        case rel => exact ⟨_, (true), (by first | rfl | (simp; done) | (simp [*]; done)), H', ⟨by first | omega | exact Nat.le_refl _⟩, ⟨by (with_reducible repeat (first | refine blk_drewN ?_ _ | refine blk_drew ?_ | refine blk_alloc ?_ _)); exact BK126.out⟩, ⟨by repeat (first | (with_reducible first | exact HB.out | apply below_alloc | apply pw_below_drewN | apply below_drew1 | refine below_set ?_ GE126.out) | exact HB.out)⟩⟩
    · replace c6 := Bool.eq_false_iff.mpr c6
      subst c6
      have H1 : (cofferdamref25_Check.j0 k t127 true a0_0 a0_1 a0_2 a0_3 a0_4 a0_5 a0_6) = some r := by rw [if_neg (show ¬ (false = true) by decide)] at H; exact H
      clear H
      have H := H1
      clear H1
      have H' := Aside0.mk H
      clear H
      go_wp2
      go_meet
      case rel => exact ⟨_, (true), (by first | rfl | (simp; done) | (simp [*]; done)), H', ⟨by first | omega | exact Nat.le_refl _⟩, ⟨by (with_reducible repeat (first | refine blk_drewN ?_ _ | refine blk_drew ?_ | refine blk_alloc ?_ _)); exact BK126.out⟩, ⟨by repeat (first | (with_reducible first | exact HB.out | apply below_alloc | apply pw_below_drewN | apply below_drew1 | refine below_set ?_ GE126.out) | exact HB.out)⟩⟩
  case rest =>
    clear HC3
    try clear c1
    try clear c2
    try clear p2
    try clear c6
    try clear c8
    try clear c10
    try clear hcz12_0
    try clear hcz12_1
    try clear hcz12_2
    try clear hcz12_3
    try clear hcz12_4
    try clear hcz12_5
    try clear hcz12_6
    try clear hcz13_0
    try clear hcz13_1
    try clear hcz13_2
    try clear hcz13_3
    try clear hcz13_4
    try clear hcz13_5
    try clear hcz13_6
    try clear hcz14_0
    try clear hcz14_1
    try clear hcz14_2
    try clear hcz14_3
    try clear hcz14_4
    try clear hcz14_5
    try clear hcz14_6
    try clear hcz5_0
    try clear hcz5_1
    try clear hcz5_2
    try clear hcz5_3
    try clear hcz5_4
    try clear hcz5_5
    try clear hcz5_6
    try clear hfz12_0
    try clear hfz12_1
    try clear hfz12_2
    try clear hfz12_3
    try clear hfz12_4
    try clear hfz12_5
    try clear hfz12_6
    try clear hfz13_0
    try clear hfz13_1
    try clear hfz13_2
    try clear hfz13_3
    try clear hfz13_4
    try clear hfz13_5
    try clear hfz13_6
    try clear hfz14_0
    try clear hfz14_1
    try clear hfz14_2
    try clear hfz14_3
    try clear hfz14_4
    try clear hfz14_5
    try clear hfz14_6
    try clear hfz5_0
    try clear hfz5_1
    try clear hfz5_2
    try clear hfz5_3
    try clear hfz5_4
    try clear hfz5_5
    try clear hfz5_6
    obtain ⟨kq, x34_2, rfl, HA, HJ2, BK126, HB⟩ := hcut
    cases kq with
    | zero => exact absurd HA.out (by simp [cofferdamref25_Check.j0])
    | succ kj2 =>
      have H := HA.out
      clear HA
      simp only [cofferdamref25_Check.j0] at H
      by_cases c15 : x34_2 = true
      · subst c15
        have H1 : (some 250) = some r := by rw [if_pos rfl] at H; exact H
        clear H
        have H := H1
        clear H1
        obtain rfl := Option.some.inj H
        go_wp2
        go_ret
        exact ⟨by first | rfl | (simp [errW_none, errW_some] <;> rfl) | (simp [*, errW_none, errW_some] <;> rfl), by repeat (first | (with_reducible first | exact HB.out | apply below_alloc | apply pw_below_drewN | apply below_drew1 | refine below_set ?_ GE126.out) | exact HB.out)⟩
      · replace c15 := Bool.eq_false_iff.mpr c15
        subst c15
        have H1 : (cofferdamref25_Check.l0 kj2 t127 0 a0_0 a0_1 a0_2 a0_3 a0_4 a0_5 a0_6 a0_0 0 0 0 0 0 0) = some r := by rw [if_neg (show ¬ (false = true) by decide)] at H; exact H
        clear H
        have H := H1
        clear H1
        have H' := Aside0.mk H
        clear H
        have hcz16_0 : wc.cell? ⟨gb126, 0, none⟩ = some (.int .u8 a0_0) := (blk_cell BK126.out 0).trans rfl
        have hcz16_1 : wc.cell? ⟨gb126, 1, none⟩ = some (.int .i64 a0_1) := (blk_cell BK126.out 1).trans rfl
        have hcz16_2 : wc.cell? ⟨gb126, 2, none⟩ = some (.int .i64 a0_2) := (blk_cell BK126.out 2).trans rfl
        have hcz16_3 : wc.cell? ⟨gb126, 3, none⟩ = some (.int .i64 a0_3) := (blk_cell BK126.out 3).trans rfl
        have hcz16_4 : wc.cell? ⟨gb126, 4, none⟩ = some (.int .u8 a0_4) := (blk_cell BK126.out 4).trans rfl
        have hcz16_5 : wc.cell? ⟨gb126, 5, none⟩ = some (.int .u64 a0_5) := (blk_cell BK126.out 5).trans rfl
        have hcz16_6 : wc.cell? ⟨gb126, 6, none⟩ = some (.int .u64 a0_6) := (blk_cell BK126.out 6).trans rfl
        have hfz16_0 := blk_frozen BK126.out 0
        have hfz16_1 := blk_frozen BK126.out 1
        have hfz16_2 := blk_frozen BK126.out 2
        have hfz16_3 := blk_frozen BK126.out 3
        have hfz16_4 := blk_frozen BK126.out 4
        have hfz16_5 := blk_frozen BK126.out 5
        have hfz16_6 := blk_frozen BK126.out 6
        go_wp2_with (first | ((with_reducible refine gate_dst (N := 5) rfl ?_); refine box_event ?hg (N := 5) ?hd (cs := #[.int .u8 0, .int .i64 0, .int .i64 0, .int .i64 0, .int .u8 0, .int .u64 0, .int .u64 0]) (t := 26) ?hr ?_; (case hd => rfl); (case hg => rfl); (case hr => first | (go_simp; done) | (go_simp; rfl)); intro gb132 hg w17 hbox hb; have n0_ := Aside0.mk (blk_below (g := gb126) (o := .cells #[.int .u8 a0_0, .int .i64 a0_1, .int .i64 a0_2, .int .i64 a0_3, .int .u8 a0_4, .int .u64 a0_5, .int .u64 a0_6] 26 (0, 0)) (by (with_reducible repeat (first | refine blk_drewN ?_ _ | refine blk_drew ?_ | refine blk_alloc ?_ _)); exact BK126.out) hb); have n1_ := Aside0.mk (below_step (by repeat (first | (with_reducible first | exact HB.out | apply below_alloc | apply pw_below_drewN | apply below_drew1 | refine below_set ?_ GE126.out) | exact HB.out)) hb); have n2_ := Aside0.mk (hbox); have n3_ := Aside0.mk ((by rw [hg]; exact (below_size (by repeat (first | (with_reducible first | exact HB.out | apply below_alloc | apply pw_below_drewN | apply below_drew1 | refine below_set ?_ GE126.out) | exact HB.out))) : w.heap.size ≤ gb132)); have n4_ := Aside0.mk ((by rw [hg]; exact (below_size (by repeat (first | (with_reducible first | exact HB.out | apply below_alloc | apply pw_below_drewN | apply below_drew1 | refine below_set ?_ GE126.out) | exact HB.out))) : w.heap.size ≤ gb132)); have n5_ := Aside0.mk ((by rw [hg]; exact Nat.ne_of_lt (blk_lt (g := gb126) (o := .cells #[.int .u8 a0_0, .int .i64 a0_1, .int .i64 a0_2, .int .i64 a0_3, .int .u8 a0_4, .int .u64 a0_5, .int .u64 a0_6] 26 (0, 0)) (by (with_reducible repeat (first | refine blk_drewN ?_ _ | refine blk_drew ?_ | refine blk_alloc ?_ _)); exact BK126.out)) : gb126 ≠ gb132)); have n6_ := Aside0.mk ((by rw [hg]; exact Nat.ne_of_gt (blk_lt (g := gb126) (o := .cells #[.int .u8 a0_0, .int .i64 a0_1, .int .i64 a0_2, .int .i64 a0_3, .int .u8 a0_4, .int .u64 a0_5, .int .u64 a0_6] 26 (0, 0)) (by (with_reducible repeat (first | refine blk_drewN ?_ _ | refine blk_drew ?_ | refine blk_alloc ?_ _)); exact BK126.out)) : gb132 ≠ gb126)); clear BK126; clear HB; have BK126 := n0_; have HB := n1_; have BK132 := n2_; have GW132 := n3_; have GE132 := n4_; have NB126_132 := n5_; have NB132_126 := n6_; clear n0_ n1_ n2_ n3_ n4_ n5_ n6_; clear hb hbox hg; have hnb18 := NB132_126.out; have hnc18 := NB126_132.out; have hcz19_0 : w17.cell? ⟨gb132, 0, none⟩ = some (.int .u8 0) := (blk_cell BK132.out 0).trans rfl; have hcz19_1 : w17.cell? ⟨gb132, 1, none⟩ = some (.int .i64 0) := (blk_cell BK132.out 1).trans rfl; have hcz19_2 : w17.cell? ⟨gb132, 2, none⟩ = some (.int .i64 0) := (blk_cell BK132.out 2).trans rfl; have hcz19_3 : w17.cell? ⟨gb132, 3, none⟩ = some (.int .i64 0) := (blk_cell BK132.out 3).trans rfl; have hcz19_4 : w17.cell? ⟨gb132, 4, none⟩ = some (.int .u8 0) := (blk_cell BK132.out 4).trans rfl; have hcz19_5 : w17.cell? ⟨gb132, 5, none⟩ = some (.int .u64 0) := (blk_cell BK132.out 5).trans rfl; have hcz19_6 : w17.cell? ⟨gb132, 6, none⟩ = some (.int .u64 0) := (blk_cell BK132.out 6).trans rfl; have hfz19_0 := blk_frozen BK132.out 0; have hfz19_1 := blk_frozen BK132.out 1; have hfz19_2 := blk_frozen BK132.out 2; have hfz19_3 := blk_frozen BK132.out 3; have hfz19_4 := blk_frozen BK132.out 4; have hfz19_5 := blk_frozen BK132.out 5; have hfz19_6 := blk_frozen BK132.out 6))
        go_loopg [6] kj2 (fun kq v6 w' => ∃ (x6_2 : Int) (x133000_2 : Int) (x133001_2 : Int) (x133002_2 : Int) (x133003_2 : Int) (x133004_2 : Int) (x133005_2 : Int) (x133006_2 : Int), v6 = .int .i64 x6_2 ∧ Aside0 (cofferdamref25_Check.l0 kq t127 x6_2 a0_0 a0_1 a0_2 a0_3 a0_4 a0_5 a0_6 x133000_2 x133001_2 x133002_2 x133003_2 x133004_2 x133005_2 x133006_2 = some r) ∧ Aside0 (kq ≤ kj2) ∧ Aside0 (w'.heap[gb126]? = some (.cells #[.int .u8 a0_0, .int .i64 a0_1, .int .i64 a0_2, .int .i64 a0_3, .int .u8 a0_4, .int .u64 a0_5, .int .u64 a0_6] 26 (0, 0))) ∧ Aside0 (w'.heap[gb132]? = some (.cells #[.int .u8 x133000_2, .int .i64 x133001_2, .int .i64 x133002_2, .int .i64 x133003_2, .int .u8 x133004_2, .int .u64 x133005_2, .int .u64 x133006_2] 26 (0, 0))) ∧ Aside0 (Below w.heap.size w w'))
        case atStart => exact ⟨(0), (a0_0), (0), (0), (0), (0), (0), (0), (by first | rfl | (simp; done) | (simp [*]; done)), H', ⟨Nat.le_refl _⟩, ⟨by (with_reducible repeat (first | refine blk_drewN ?_ _ | refine blk_drew ?_ | refine blk_alloc ?_ _)); refine blk_far ?_ NB126_132.out _; (with_reducible repeat (first | refine blk_drewN ?_ _ | refine blk_drew ?_ | refine blk_alloc ?_ _)); refine blk_far ?_ NB126_132.out _; (with_reducible repeat (first | refine blk_drewN ?_ _ | refine blk_drew ?_ | refine blk_alloc ?_ _)); refine blk_far ?_ NB126_132.out _; (with_reducible repeat (first | refine blk_drewN ?_ _ | refine blk_drew ?_ | refine blk_alloc ?_ _)); refine blk_far ?_ NB126_132.out _; (with_reducible repeat (first | refine blk_drewN ?_ _ | refine blk_drew ?_ | refine blk_alloc ?_ _)); refine blk_far ?_ NB126_132.out _; (with_reducible repeat (first | refine blk_drewN ?_ _ | refine blk_drew ?_ | refine blk_alloc ?_ _)); refine blk_far ?_ NB126_132.out _; (with_reducible repeat (first | refine blk_drewN ?_ _ | refine blk_drew ?_ | refine blk_alloc ?_ _)); refine blk_far ?_ NB126_132.out _; (with_reducible repeat (first | refine blk_drewN ?_ _ | refine blk_drew ?_ | refine blk_alloc ?_ _)); exact BK126.out⟩, ⟨by (with_reducible repeat (first | refine blk_drewN ?_ _ | refine blk_drew ?_ | refine blk_alloc ?_ _)); refine blk_put (cs := #[.int .u8 a0_0, .int .i64 0, .int .i64 0, .int .i64 0, .int .u8 0, .int .u64 0, .int .u64 0]) ?_ 6 _ rfl; (with_reducible repeat (first | refine blk_drewN ?_ _ | refine blk_drew ?_ | refine blk_alloc ?_ _)); refine blk_put (cs := #[.int .u8 a0_0, .int .i64 0, .int .i64 0, .int .i64 0, .int .u8 0, .int .u64 0, .int .u64 0]) ?_ 5 _ rfl; (with_reducible repeat (first | refine blk_drewN ?_ _ | refine blk_drew ?_ | refine blk_alloc ?_ _)); refine blk_put (cs := #[.int .u8 a0_0, .int .i64 0, .int .i64 0, .int .i64 0, .int .u8 0, .int .u64 0, .int .u64 0]) ?_ 4 _ rfl; (with_reducible repeat (first | refine blk_drewN ?_ _ | refine blk_drew ?_ | refine blk_alloc ?_ _)); refine blk_put (cs := #[.int .u8 a0_0, .int .i64 0, .int .i64 0, .int .i64 0, .int .u8 0, .int .u64 0, .int .u64 0]) ?_ 3 _ rfl; (with_reducible repeat (first | refine blk_drewN ?_ _ | refine blk_drew ?_ | refine blk_alloc ?_ _)); refine blk_put (cs := #[.int .u8 a0_0, .int .i64 0, .int .i64 0, .int .i64 0, .int .u8 0, .int .u64 0, .int .u64 0]) ?_ 2 _ rfl; (with_reducible repeat (first | refine blk_drewN ?_ _ | refine blk_drew ?_ | refine blk_alloc ?_ _)); refine blk_put (cs := #[.int .u8 a0_0, .int .i64 0, .int .i64 0, .int .i64 0, .int .u8 0, .int .u64 0, .int .u64 0]) ?_ 1 _ rfl; (with_reducible repeat (first | refine blk_drewN ?_ _ | refine blk_drew ?_ | refine blk_alloc ?_ _)); refine blk_put (cs := #[.int .u8 0, .int .i64 0, .int .i64 0, .int .i64 0, .int .u8 0, .int .u64 0, .int .u64 0]) ?_ 0 _ rfl; (with_reducible repeat (first | refine blk_drewN ?_ _ | refine blk_drew ?_ | refine blk_alloc ?_ _)); exact BK132.out⟩, ⟨by repeat (first | (with_reducible first | exact HB.out | apply below_alloc | apply pw_below_drewN | apply below_drew1 | refine below_set ?_ GE126.out | refine below_set ?_ GE132.out) | exact HB.out)⟩⟩
        case round =>
          clear H'
          try clear c1
          try clear c2
          try clear p2
          try clear c6
          try clear c8
          try clear c10
          try clear c15
          try clear c18
          try clear c19
          try clear hcz12_0
          try clear hcz12_1
          try clear hcz12_2
          try clear hcz12_3
          try clear hcz12_4
          try clear hcz12_5
          try clear hcz12_6
          try clear hcz13_0
          try clear hcz13_1
          try clear hcz13_2
          try clear hcz13_3
          try clear hcz13_4
          try clear hcz13_5
          try clear hcz13_6
          try clear hcz14_0
          try clear hcz14_1
          try clear hcz14_2
          try clear hcz14_3
          try clear hcz14_4
          try clear hcz14_5
          try clear hcz14_6
          try clear hcz16_0
          try clear hcz16_1
          try clear hcz16_2
          try clear hcz16_3
          try clear hcz16_4
          try clear hcz16_5
          try clear hcz16_6
          try clear hcz19_0
          try clear hcz19_1
          try clear hcz19_2
          try clear hcz19_3
          try clear hcz19_4
          try clear hcz19_5
          try clear hcz19_6
          try clear hcz5_0
          try clear hcz5_1
          try clear hcz5_2
          try clear hcz5_3
          try clear hcz5_4
          try clear hcz5_5
          try clear hcz5_6
          try clear hfz12_0
          try clear hfz12_1
          try clear hfz12_2
          try clear hfz12_3
          try clear hfz12_4
          try clear hfz12_5
          try clear hfz12_6
          try clear hfz13_0
          try clear hfz13_1
          try clear hfz13_2
          try clear hfz13_3
          try clear hfz13_4
          try clear hfz13_5
          try clear hfz13_6
          try clear hfz14_0
          try clear hfz14_1
          try clear hfz14_2
          try clear hfz14_3
          try clear hfz14_4
          try clear hfz14_5
          try clear hfz14_6
          try clear hfz16_0
          try clear hfz16_1
          try clear hfz16_2
          try clear hfz16_3
          try clear hfz16_4
          try clear hfz16_5
          try clear hfz16_6
          try clear hfz19_0
          try clear hfz19_1
          try clear hfz19_2
          try clear hfz19_3
          try clear hfz19_4
          try clear hfz19_5
          try clear hfz19_6
          try clear hfz5_0
          try clear hfz5_1
          try clear hfz5_2
          try clear hfz5_3
          try clear hfz5_4
          try clear hfz5_5
          try clear hfz5_6
          try clear p2
          obtain ⟨x6_2, x133000_2, x133001_2, x133002_2, x133003_2, x133004_2, x133005_2, x133006_2, rfl, HA, HK2, BK126, BK132, HB⟩ := hrel
          cases gk with
          | zero => exact absurd HA.out (by simp [cofferdamref25_Check.l0])
          | succ k2 =>
            have H := HA.out
            clear HA
            simp only [cofferdamref25_Check.l0] at H
            by_cases c20 : x6_2 < (t127.size : Int)
            · rw [if_pos c20] at H
              have c20b0 : decide (x6_2 < (t127.size : Int)) = true := decide_eq_true c20
              clear c20
              by_cases c21 : 0 ≤ x6_2
              · rw [if_pos c21] at H
                have c21b0 : decide (0 ≤ x6_2) = true := decide_eq_true c21
                clear c21
                replace H := Option.bind_eq_some_iff.mp H
                obtain ⟨t133, A240, H⟩ := H
                replace H : ((cofferdamref25_with.f x133000_2 x133001_2 x133002_2 x133003_2 x133004_2 x133005_2 x133006_2 (bt t127 x6_2) t133).bind fun bt134 => (cofferdamref25_Check.l0 k2 t127 (wrap64 (x6_2 + 1)) a0_0 a0_1 a0_2 a0_3 a0_4 a0_5 a0_6 bt134.1 bt134.2.1 bt134.2.2.1 bt134.2.2.2.1 bt134.2.2.2.2.1 bt134.2.2.2.2.2.1 bt134.2.2.2.2.2.2.1)) = some r := H
                have A24 := Aside0.mk A240
                clear A240
                replace H := Option.bind_eq_some_iff.mp H
                obtain ⟨⟨t134, t135, t136, t137, t138, t139, t140, t141⟩, A250, H⟩ := H
                replace H : (cofferdamref25_Check.l0 k2 t127 (wrap64 (x6_2 + 1)) a0_0 a0_1 a0_2 a0_3 a0_4 a0_5 a0_6 t134 t135 t136 t137 t138 t139 t140) = some r := H
                have A25 := Aside0.mk A250
                clear A250
                have H' := Aside0.mk H
                clear H
                try go_wp2
                have n0_ := Aside0.mk (blk_drew BK126.out)
                have n1_ := Aside0.mk (blk_drew BK132.out)
                have n2_ := Aside0.mk (below_drew1 HB.out)
                clear BK126
                clear BK132
                clear HB
                have BK126 := n0_
                have BK132 := n1_
                have HB := n2_
                clear n0_ n1_ n2_
                have p22 : 0 ≤ (x6_2 : Int) := of_decide_eq_true (by first | (with_reducible assumption) | assumption)
                have q22 : x6_2 < (t127.size : Int) := of_decide_eq_true (by first | (with_reducible assumption) | assumption)
                have hx22 := bt_at t127 x6_2
                replace p22 := eq_true p22
                replace q22 := eq_true q22
                have p23 : 0 ≤ (x6_2 : Int) := of_decide_eq_true (by first | (with_reducible assumption) | assumption)
                have q23 : x6_2 < (t127.size : Int) := of_decide_eq_true (by first | (with_reducible assumption) | assumption)
                have hx23 := bt_at t127 x6_2
                replace p23 := eq_true p23
                replace q23 := eq_true q23
                refine start_ (n := 16) (S := fun w' => w'.cell? ⟨gb132, 0, none⟩ = some (.int .u8 x133000_2) ∧ w'.cell? ⟨gb132, 1, none⟩ = some (.int .i64 x133001_2) ∧ w'.cell? ⟨gb132, 2, none⟩ = some (.int .i64 x133002_2) ∧ w'.cell? ⟨gb132, 3, none⟩ = some (.int .i64 x133003_2) ∧ w'.cell? ⟨gb132, 4, none⟩ = some (.int .u8 x133004_2) ∧ w'.cell? ⟨gb132, 5, none⟩ = some (.int .u64 x133005_2) ∧ w'.cell? ⟨gb132, 6, none⟩ = some (.int .u64 x133006_2) ∧ w'.cell? ⟨gb126, 0, none⟩ = some (.int .u8 a0_0) ∧ w'.cell? ⟨gb126, 1, none⟩ = some (.int .i64 a0_1) ∧ w'.cell? ⟨gb126, 2, none⟩ = some (.int .i64 a0_2) ∧ w'.cell? ⟨gb126, 3, none⟩ = some (.int .i64 a0_3) ∧ w'.cell? ⟨gb126, 4, none⟩ = some (.int .u8 a0_4) ∧ w'.cell? ⟨gb126, 5, none⟩ = some (.int .u64 a0_5) ∧ w'.cell? ⟨gb126, 6, none⟩ = some (.int .u64 a0_6)) (ds := []) #[false, false, false, false, false, false, false, false, false, false, false, false, false, false, false, false] (by kernel_rfl) rfl rfl ⟨(blk_cell BK132.out 0).trans rfl, (blk_cell BK132.out 1).trans rfl, (blk_cell BK132.out 2).trans rfl, (blk_cell BK132.out 3).trans rfl, (blk_cell BK132.out 4).trans rfl, (blk_cell BK132.out 5).trans rfl, (blk_cell BK132.out 6).trans rfl, (blk_cell BK126.out 0).trans rfl, (blk_cell BK126.out 1).trans rfl, (blk_cell BK126.out 2).trans rfl, (blk_cell BK126.out 3).trans rfl, (blk_cell BK126.out 4).trans rfl, (blk_cell BK126.out 5).trans rfl, (blk_cell BK126.out 6).trans rfl⟩ (fun hHeld => ?_); refine with_tabW cofferdamref25_Check.tab8 cofferdamref25_Check.bits8 (fun HT_ HW_ => ?_)
                generalize wr.drew = w26 at BK126 BK132 HB hHeld ⊢
                refine pure_ (i := 1) (N := some 46) (v := ?_) (a' := ?_) #[false, true, false, false, false, false, false, false, false, false, false, false, false, false, false, false] rfl rfl (any_of HT_.out (by kernel_rfl)) (fun _ _ _ h => h) (Or.inl ⟨by rfl, ?_⟩) ?_ ?_
                rotate_left
                · intro w'
                  go_simp
                  with_reducible rfl
                rotate_left
                · simp only [Act.put, List.setIfInBounds_toArray, List.set_cons_zero, List.set_cons_succ, i64_w, i32_w]
                  rfl
                refine pure_ (i := 2) (N := some 47) (v := ?_) (a' := ?_) #[false, true, true, false, false, false, false, false, false, false, false, false, false, false, false, false] rfl rfl (any_of HT_.out (by kernel_rfl)) (fun _ _ _ h => h) (Or.inl ⟨by rfl, ?_⟩) ?_ ?_
                rotate_left
                · intro w'
                  go_simp
                  with_reducible rfl
                rotate_left
                · simp only [Act.put, List.setIfInBounds_toArray, List.set_cons_zero, List.set_cons_succ, i64_w, i32_w]
                  rfl
                refine pure_ (i := 5) (N := some 50) (v := ?_) (a' := ?_) #[false, true, true, false, false, true, false, false, false, false, false, false, false, false, false, false] rfl rfl (any_of HT_.out (by kernel_rfl)) (fun _ _ _ h => h) (Or.inl ⟨by rfl, ?_⟩) ?_ ?_
                rotate_left
                · intro w'
                  go_simp
                  with_reducible rfl
                rotate_left
                · simp only [Act.put, List.setIfInBounds_toArray, List.set_cons_zero, List.set_cons_succ, i64_w, i32_w]
                  rfl
                refine pure_ (i := 6) (N := some 51) (v := ?_) (a' := ?_) #[false, true, true, false, false, true, true, false, false, false, false, false, false, false, false, false] rfl rfl (any_of HT_.out (by kernel_rfl)) (fun _ _ _ h => h) (Or.inl ⟨by rfl, ?_⟩) ?_ ?_
                rotate_left
                · intro w'
                  go_simp
                  with_reducible rfl
                rotate_left
                · simp only [Act.put, List.setIfInBounds_toArray, List.set_cons_zero, List.set_cons_succ, i64_w, i32_w]
                  rfl
                refine take_ (i := 0) (N := some 45) (v := ?_) (a' := ?_) #[true, true, true, false, false, true, true, false, false, false, false, false, false, false, false, false] rfl rfl (take_ofW HT_.out HW_.out (by kernel_rfl)) (fun _ _ _ h => h) (Or.inl ⟨by rfl, ?_⟩) hHeld ?_ ?_
                rotate_left
                · rintro w' ⟨s0, s1, s2, s3, s4, s5, s6, s7, s8, s9, s10, s11, s12, s13⟩
                  go_simp
                  with_reducible rfl
                rotate_left
                · simp only [Act.put, List.setIfInBounds_toArray, List.set_cons_zero, List.set_cons_succ, i64_w, i32_w]
                  rfl
                refine take_ (i := 3) (N := some 48) (v := ?_) (a' := ?_) #[true, true, true, true, false, true, true, false, false, false, false, false, false, false, false, false] rfl rfl (take_ofW HT_.out HW_.out (by kernel_rfl)) (fun _ _ _ h => h) (Or.inl ⟨by rfl, ?_⟩) hHeld ?_ ?_
                rotate_left
                · rintro w' ⟨s0, s1, s2, s3, s4, s5, s6, s7, s8, s9, s10, s11, s12, s13⟩
                  go_simp
                  with_reducible rfl
                rotate_left
                · simp only [Act.put, List.setIfInBounds_toArray, List.set_cons_zero, List.set_cons_succ, i64_w, i32_w]
                  rfl
                refine take_ (i := 4) (N := some 49) (v := ?_) (a' := ?_) #[true, true, true, true, true, true, true, false, false, false, false, false, false, false, false, false] rfl rfl (take_ofW HT_.out HW_.out (by kernel_rfl)) (fun _ _ _ h => h) (Or.inl ⟨by rfl, ?_⟩) hHeld ?_ ?_
                rotate_left
                · rintro w' ⟨s0, s1, s2, s3, s4, s5, s6, s7, s8, s9, s10, s11, s12, s13⟩
                  go_simp
                  with_reducible rfl
                rotate_left
                · simp only [Act.put, List.setIfInBounds_toArray, List.set_cons_zero, List.set_cons_succ, i64_w, i32_w]
                  rfl
                refine take_ (i := 7) (N := some 52) (v := ?_) (a' := ?_) #[true, true, true, true, true, true, true, true, false, false, false, false, false, false, false, false] rfl rfl (take_ofW HT_.out HW_.out (by kernel_rfl)) (fun _ _ _ h => h) (Or.inl ⟨by rfl, ?_⟩) hHeld ?_ ?_
                rotate_left
                · rintro w' ⟨s0, s1, s2, s3, s4, s5, s6, s7, s8, s9, s10, s11, s12, s13⟩
                  go_simp
                  with_reducible rfl
                rotate_left
                · simp only [Act.put, List.setIfInBounds_toArray, List.set_cons_zero, List.set_cons_succ, i64_w, i32_w]
                  rfl
                refine join_ (σ := Nat) 2 #[true, true, true, true, true, true, true, true, true, true, true, true, true, true, false, false] (fun s_ => [(53, .int .u64 t133), (54, .tuple #[.agg #[.int .u8 t134, .int .i64 t135, .int .i64 t136, .int .i64 t137, .int .u8 t138, .int .u64 t139, .int .u64 t140], .bool t141]), (7, .pointer (some ⟨s_, 0, none⟩)), (44, .tuple #[.agg #[.int .u8 t134, .int .i64 t135, .int .i64 t136, .int .i64 t137, .int .u8 t138, .int .u64 t139, .int .u64 t140], .bool t141]), (55, .agg #[.int .u8 t134, .int .i64 t135, .int .i64 t136, .int .i64 t137, .int .u8 t138, .int .u64 t139, .int .u64 t140]), (56, .bool t141)]) (fun s_ w' => (w'.cell? ⟨gb132, 0, none⟩ = some (.int .u8 x133000_2) ∧ w'.cell? ⟨gb132, 1, none⟩ = some (.int .i64 x133001_2) ∧ w'.cell? ⟨gb132, 2, none⟩ = some (.int .i64 x133002_2) ∧ w'.cell? ⟨gb132, 3, none⟩ = some (.int .i64 x133003_2) ∧ w'.cell? ⟨gb132, 4, none⟩ = some (.int .u8 x133004_2) ∧ w'.cell? ⟨gb132, 5, none⟩ = some (.int .u64 x133005_2) ∧ w'.cell? ⟨gb132, 6, none⟩ = some (.int .u64 x133006_2) ∧ w'.cell? ⟨gb126, 0, none⟩ = some (.int .u8 a0_0) ∧ w'.cell? ⟨gb126, 1, none⟩ = some (.int .i64 a0_1) ∧ w'.cell? ⟨gb126, 2, none⟩ = some (.int .i64 a0_2) ∧ w'.cell? ⟨gb126, 3, none⟩ = some (.int .i64 a0_3) ∧ w'.cell? ⟨gb126, 4, none⟩ = some (.int .u8 a0_4) ∧ w'.cell? ⟨gb126, 5, none⟩ = some (.int .u64 a0_5) ∧ w'.cell? ⟨gb126, 6, none⟩ = some (.int .u64 a0_6)) ∧ (w'.heap[gb126]? = some (.cells #[.int .u8 a0_0, .int .i64 a0_1, .int .i64 a0_2, .int .i64 a0_3, .int .u8 a0_4, .int .u64 a0_5, .int .u64 a0_6] 26 (0, 0))) ∧ (w'.heap[gb132]? = some (.cells #[.int .u8 x133000_2, .int .i64 x133001_2, .int .i64 x133002_2, .int .i64 x133003_2, .int .u8 x133004_2, .int .u64 x133005_2, .int .u64 x133006_2] 26 (0, 0))) ∧ (w'.heap[s_]? = some (.cells #[.int .u8 0, .int .i64 0, .int .i64 0, .int .i64 0, .int .u8 0, .int .u64 0, .int .u64 0] 26 (0, 0))) ∧ (w.heap.size ≤ s_) ∧ (w.heap.size ≤ s_) ∧ (gb126 ≠ s_) ∧ (s_ ≠ gb126) ∧ (gb132 ≠ s_) ∧ (s_ ≠ gb132) ∧ (Below w.heap.size w w')) ?_ ?_
                rotate_left
                · intro hCont
                  refine two_ (i := 8) (j := 13) (Ni := some 53) (Nj := some 7) #[true, true, true, true, true, true, true, true, true, false, false, false, false, false, false, false] #[true, true, true, true, true, true, true, true, false, false, false, false, false, true, false, false] rfl rfl rfl rfl (two_of HT_.out (by kernel_rfl)) (by decide) (by decide) (fun K hK => ?_) (fun K hK => ?_)
                  · skip
                    refine goes_ Try.func26 (by kernel_rfl) rfl #[.agg #[.int .u8 a0_0, .int .i64 a0_1, .int .i64 a0_2, .int .i64 a0_3, .int .u8 a0_4, .int .u64 a0_5, .int .u64 a0_6], .int .u8 (bt t127 x6_2)] (by rfl) rfl rfl (by (try simp only [List.map_toArray, List.map_cons, List.map_nil]); first | done | rfl | (simp only [List.length_drop, List.length_take]; rfl)) ?_
                    with_reducible refine (cofferdamref25_word.calls a0_0 a0_1 a0_2 a0_3 a0_4 a0_5 a0_6 (bt t127 x6_2) t133 _ A24.out).mono ?_
                    rintro e w27 ⟨rfl, hb⟩
                    refine ⟨_, rfl, ?_⟩
                    have n0_ := Aside0.mk (blk_below (g := gb126) (o := .cells #[.int .u8 a0_0, .int .i64 a0_1, .int .i64 a0_2, .int .i64 a0_3, .int .u8 a0_4, .int .u64 a0_5, .int .u64 a0_6] 26 (0, 0)) (by (with_reducible repeat (first | refine blk_drewN ?_ _ | refine blk_drew ?_ | refine blk_alloc ?_ _)); exact BK126.out) hb)
                    have n1_ := Aside0.mk (blk_below (g := gb132) (o := .cells #[.int .u8 x133000_2, .int .i64 x133001_2, .int .i64 x133002_2, .int .i64 x133003_2, .int .u8 x133004_2, .int .u64 x133005_2, .int .u64 x133006_2] 26 (0, 0)) (by (with_reducible repeat (first | refine blk_drewN ?_ _ | refine blk_drew ?_ | refine blk_alloc ?_ _)); exact BK132.out) hb)
                    have n2_ := Aside0.mk (below_step (by repeat (first | (with_reducible first | exact HB.out | apply below_alloc | apply pw_below_drewN | apply below_drew1 | refine below_set ?_ GE126.out | refine below_set ?_ GE132.out) | exact HB.out)) hb)
                    clear BK126
                    clear BK132
                    clear HB
                    have BK126 := n0_
                    have BK132 := n1_
                    have HB := n2_
                    clear n0_ n1_ n2_
                    (try clear hb)
                    (try clear hb2)
                    (try clear hk)
                    (try clear hi)
                    refine hK.out _ _ ⟨(blk_cell BK132.out 0).trans rfl, (blk_cell BK132.out 1).trans rfl, (blk_cell BK132.out 2).trans rfl, (blk_cell BK132.out 3).trans rfl, (blk_cell BK132.out 4).trans rfl, (blk_cell BK132.out 5).trans rfl, (blk_cell BK132.out 6).trans rfl, (blk_cell BK126.out 0).trans rfl, (blk_cell BK126.out 1).trans rfl, (blk_cell BK126.out 2).trans rfl, (blk_cell BK126.out 3).trans rfl, (blk_cell BK126.out 4).trans rfl, (blk_cell BK126.out 5).trans rfl, (blk_cell BK126.out 6).trans rfl⟩ (fun hHeld => ?_)
                    clear hK K
                    refine norm_ (a' := ?_) ?_ ?_
                    rotate_left
                    · show Act.put _ (some 53) _ = _
                      simp only [Act.put, List.setIfInBounds_toArray, List.set_cons_zero, List.set_cons_succ, i64_w, i32_w]
                      rfl
                    refine two_ (i := 9) (j := 13) (Ni := some 54) (Nj := some 7) #[true, true, true, true, true, true, true, true, true, true, false, false, false, false, false, false] #[true, true, true, true, true, true, true, true, true, false, false, false, false, true, false, false] rfl rfl rfl rfl (two_of HT_.out (by kernel_rfl)) (by decide) (by decide) (fun K hK => ?_) (fun K hK => ?_)
                    · skip
                      refine goes_ Try.func23 (by kernel_rfl) rfl #[.agg #[.int .u8 x133000_2, .int .i64 x133001_2, .int .i64 x133002_2, .int .i64 x133003_2, .int .u8 x133004_2, .int .u64 x133005_2, .int .u64 x133006_2], .int .u8 (bt t127 x6_2), .int .u64 t133] (by rfl) rfl rfl (by (try simp only [List.map_toArray, List.map_cons, List.map_nil]); first | done | rfl | (simp only [List.length_drop, List.length_take]; rfl)) ?_
                      with_reducible refine (cofferdamref25_with.calls x133000_2 x133001_2 x133002_2 x133003_2 x133004_2 x133005_2 x133006_2 (bt t127 x6_2) t133 t134 t135 t136 t137 t138 t139 t140 t141 _ A25.out).mono ?_
                      rintro e w28 ⟨rfl, hb⟩
                      refine ⟨_, rfl, ?_⟩
                      have n0_ := Aside0.mk (blk_below (g := gb126) (o := .cells #[.int .u8 a0_0, .int .i64 a0_1, .int .i64 a0_2, .int .i64 a0_3, .int .u8 a0_4, .int .u64 a0_5, .int .u64 a0_6] 26 (0, 0)) (by (with_reducible repeat (first | refine blk_drewN ?_ _ | refine blk_drew ?_ | refine blk_alloc ?_ _)); exact BK126.out) hb)
                      have n1_ := Aside0.mk (blk_below (g := gb132) (o := .cells #[.int .u8 x133000_2, .int .i64 x133001_2, .int .i64 x133002_2, .int .i64 x133003_2, .int .u8 x133004_2, .int .u64 x133005_2, .int .u64 x133006_2] 26 (0, 0)) (by (with_reducible repeat (first | refine blk_drewN ?_ _ | refine blk_drew ?_ | refine blk_alloc ?_ _)); exact BK132.out) hb)
                      have n2_ := Aside0.mk (below_step (by repeat (first | (with_reducible first | exact HB.out | apply below_alloc | apply pw_below_drewN | apply below_drew1 | refine below_set ?_ GE126.out | refine below_set ?_ GE132.out) | exact HB.out)) hb)
                      clear BK126
                      clear BK132
                      clear HB
                      have BK126 := n0_
                      have BK132 := n1_
                      have HB := n2_
                      clear n0_ n1_ n2_
                      (try clear hb)
                      (try clear hb2)
                      (try clear hk)
                      (try clear hi)
                      refine hK.out _ _ ⟨(blk_cell BK132.out 0).trans rfl, (blk_cell BK132.out 1).trans rfl, (blk_cell BK132.out 2).trans rfl, (blk_cell BK132.out 3).trans rfl, (blk_cell BK132.out 4).trans rfl, (blk_cell BK132.out 5).trans rfl, (blk_cell BK132.out 6).trans rfl, (blk_cell BK126.out 0).trans rfl, (blk_cell BK126.out 1).trans rfl, (blk_cell BK126.out 2).trans rfl, (blk_cell BK126.out 3).trans rfl, (blk_cell BK126.out 4).trans rfl, (blk_cell BK126.out 5).trans rfl, (blk_cell BK126.out 6).trans rfl⟩ (fun hHeld => ?_)
                      clear hK K
                      refine norm_ (a' := ?_) ?_ ?_
                      rotate_left
                      · show Act.put _ (some 54) _ = _
                        simp only [Act.put, List.setIfInBounds_toArray, List.set_cons_zero, List.set_cons_succ, i64_w, i32_w]
                        rfl
                      refine pure_ (i := 10) (N := some 44) (v := ?_) (a' := ?_) #[true, true, true, true, true, true, true, true, true, true, true, false, false, false, false, false] rfl rfl (any_of HT_.out (by kernel_rfl)) (fun _ _ _ h => h) (Or.inl ⟨by rfl, ?_⟩) ?_ ?_
                      rotate_left
                      · intro w'
                        go_simp
                        with_reducible rfl
                      rotate_left
                      · simp only [Act.put, List.setIfInBounds_toArray, List.set_cons_zero, List.set_cons_succ, i64_w, i32_w]
                        rfl
                      refine pure_ (i := 11) (N := some 55) (v := ?_) (a' := ?_) #[true, true, true, true, true, true, true, true, true, true, true, true, false, false, false, false] rfl rfl (any_of HT_.out (by kernel_rfl)) (fun _ _ _ h => h) (Or.inl ⟨by rfl, ?_⟩) ?_ ?_
                      rotate_left
                      · intro w'
                        go_simp
                        with_reducible rfl
                      rotate_left
                      · simp only [Act.put, List.setIfInBounds_toArray, List.set_cons_zero, List.set_cons_succ, i64_w, i32_w]
                        rfl
                      refine pure_ (i := 12) (N := some 56) (v := ?_) (a' := ?_) #[true, true, true, true, true, true, true, true, true, true, true, true, true, false, false, false] rfl rfl (any_of HT_.out (by kernel_rfl)) (fun _ _ _ h => h) (Or.inl ⟨by rfl, ?_⟩) ?_ ?_
                      rotate_left
                      · intro w'
                        go_simp
                        with_reducible rfl
                      rotate_left
                      · simp only [Act.put, List.setIfInBounds_toArray, List.set_cons_zero, List.set_cons_succ, i64_w, i32_w]
                        rfl
                      refine one_ (i := 13) (N := some 7) #[true, true, true, true, true, true, true, true, true, true, true, true, true, true, false, false] rfl rfl (one_of HT_.out (by kernel_rfl)) (by decide) (fun K hK => ?_)
                      refine box_step ?hg (N := 7) ?hd (cs := #[.int .u8 0, .int .i64 0, .int .i64 0, .int .i64 0, .int .u8 0, .int .u64 0, .int .u64 0]) (t := 26) ?hr ?_; (case hd => rfl); (case hg => rfl); (case hr => first | (go_simp; done) | (go_simp; rfl))
                      intro gb142 hg w29 hbox hb
                      have n0_ := Aside0.mk (blk_below (g := gb126) (o := .cells #[.int .u8 a0_0, .int .i64 a0_1, .int .i64 a0_2, .int .i64 a0_3, .int .u8 a0_4, .int .u64 a0_5, .int .u64 a0_6] 26 (0, 0)) (by (with_reducible repeat (first | refine blk_drewN ?_ _ | refine blk_drew ?_ | refine blk_alloc ?_ _)); exact BK126.out) hb)
                      have n1_ := Aside0.mk (blk_below (g := gb132) (o := .cells #[.int .u8 x133000_2, .int .i64 x133001_2, .int .i64 x133002_2, .int .i64 x133003_2, .int .u8 x133004_2, .int .u64 x133005_2, .int .u64 x133006_2] 26 (0, 0)) (by (with_reducible repeat (first | refine blk_drewN ?_ _ | refine blk_drew ?_ | refine blk_alloc ?_ _)); exact BK132.out) hb)
                      have n2_ := Aside0.mk (below_step (by repeat (first | (with_reducible first | exact HB.out | apply below_alloc | apply pw_below_drewN | apply below_drew1 | refine below_set ?_ GE126.out | refine below_set ?_ GE132.out) | exact HB.out)) hb)
                      have n3_ := Aside0.mk (hbox)
                      have n4_ := Aside0.mk ((by rw [hg]; exact (below_size (by repeat (first | (with_reducible first | exact HB.out | apply below_alloc | apply pw_below_drewN | apply below_drew1 | refine below_set ?_ GE126.out | refine below_set ?_ GE132.out) | exact HB.out))) : w.heap.size ≤ gb142))
                      have n5_ := Aside0.mk ((by rw [hg]; exact (below_size (by repeat (first | (with_reducible first | exact HB.out | apply below_alloc | apply pw_below_drewN | apply below_drew1 | refine below_set ?_ GE126.out | refine below_set ?_ GE132.out) | exact HB.out))) : w.heap.size ≤ gb142))
                      have n6_ := Aside0.mk ((by rw [hg]; exact Nat.ne_of_lt (blk_lt (g := gb126) (o := .cells #[.int .u8 a0_0, .int .i64 a0_1, .int .i64 a0_2, .int .i64 a0_3, .int .u8 a0_4, .int .u64 a0_5, .int .u64 a0_6] 26 (0, 0)) (by (with_reducible repeat (first | refine blk_drewN ?_ _ | refine blk_drew ?_ | refine blk_alloc ?_ _)); exact BK126.out)) : gb126 ≠ gb142))
                      have n7_ := Aside0.mk ((by rw [hg]; exact Nat.ne_of_gt (blk_lt (g := gb126) (o := .cells #[.int .u8 a0_0, .int .i64 a0_1, .int .i64 a0_2, .int .i64 a0_3, .int .u8 a0_4, .int .u64 a0_5, .int .u64 a0_6] 26 (0, 0)) (by (with_reducible repeat (first | refine blk_drewN ?_ _ | refine blk_drew ?_ | refine blk_alloc ?_ _)); exact BK126.out)) : gb142 ≠ gb126))
                      have n8_ := Aside0.mk ((by rw [hg]; exact Nat.ne_of_lt (blk_lt (g := gb132) (o := .cells #[.int .u8 x133000_2, .int .i64 x133001_2, .int .i64 x133002_2, .int .i64 x133003_2, .int .u8 x133004_2, .int .u64 x133005_2, .int .u64 x133006_2] 26 (0, 0)) (by (with_reducible repeat (first | refine blk_drewN ?_ _ | refine blk_drew ?_ | refine blk_alloc ?_ _)); exact BK132.out)) : gb132 ≠ gb142))
                      have n9_ := Aside0.mk ((by rw [hg]; exact Nat.ne_of_gt (blk_lt (g := gb132) (o := .cells #[.int .u8 x133000_2, .int .i64 x133001_2, .int .i64 x133002_2, .int .i64 x133003_2, .int .u8 x133004_2, .int .u64 x133005_2, .int .u64 x133006_2] 26 (0, 0)) (by (with_reducible repeat (first | refine blk_drewN ?_ _ | refine blk_drew ?_ | refine blk_alloc ?_ _)); exact BK132.out)) : gb142 ≠ gb132))
                      clear BK126
                      clear BK132
                      clear HB
                      have BK126 := n0_
                      have BK132 := n1_
                      have HB := n2_
                      have BK142 := n3_
                      have GW142 := n4_
                      have GE142 := n5_
                      have NB126_142 := n6_
                      have NB142_126 := n7_
                      have NB132_142 := n8_
                      have NB142_132 := n9_
                      clear n0_ n1_ n2_ n3_ n4_ n5_ n6_ n7_ n8_ n9_
                      clear hb hbox hg
                      refine hK.out _ _ ⟨(blk_cell BK132.out 0).trans rfl, (blk_cell BK132.out 1).trans rfl, (blk_cell BK132.out 2).trans rfl, (blk_cell BK132.out 3).trans rfl, (blk_cell BK132.out 4).trans rfl, (blk_cell BK132.out 5).trans rfl, (blk_cell BK132.out 6).trans rfl, (blk_cell BK126.out 0).trans rfl, (blk_cell BK126.out 1).trans rfl, (blk_cell BK126.out 2).trans rfl, (blk_cell BK126.out 3).trans rfl, (blk_cell BK126.out 4).trans rfl, (blk_cell BK126.out 5).trans rfl, (blk_cell BK126.out 6).trans rfl⟩ (fun hHeld => ?_)
                      clear hK K
                      refine norm_ (a' := ?_) ?_ ?_
                      rotate_left
                      · show Act.put _ (some 7) _ = _
                        simp only [Act.put, List.setIfInBounds_toArray, List.set_cons_zero, List.set_cons_succ, i64_w, i32_w]
                        rfl
                      exact norm_ (by simp only [putAll, Act.put, List.setIfInBounds_toArray, List.set_cons_zero, List.set_cons_succ]) (hCont (gb142) _ ⟨hHeld, (by (with_reducible repeat (first | refine blk_drewN ?_ _ | refine blk_drew ?_ | refine blk_alloc ?_ _)); exact BK126.out), (by (with_reducible repeat (first | refine blk_drewN ?_ _ | refine blk_drew ?_ | refine blk_alloc ?_ _)); exact BK132.out), (by (with_reducible repeat (first | refine blk_drewN ?_ _ | refine blk_drew ?_ | refine blk_alloc ?_ _)); exact BK142.out), GW142.out, GE142.out, NB126_142.out, NB142_126.out, NB132_142.out, NB142_132.out, (by repeat (first | (with_reducible first | exact HB.out | apply below_alloc | apply pw_below_drewN | apply below_drew1 | refine below_set ?_ GE126.out | refine below_set ?_ GE132.out | refine below_set ?_ GE142.out) | exact HB.out))⟩)
                    · skip
                      refine box_step ?hg (N := 7) ?hd (cs := #[.int .u8 0, .int .i64 0, .int .i64 0, .int .i64 0, .int .u8 0, .int .u64 0, .int .u64 0]) (t := 26) ?hr ?_; (case hd => rfl); (case hg => rfl); (case hr => first | (go_simp; done) | (go_simp; rfl))
                      intro gb142 hg w28 hbox hb
                      have n0_ := Aside0.mk (blk_below (g := gb126) (o := .cells #[.int .u8 a0_0, .int .i64 a0_1, .int .i64 a0_2, .int .i64 a0_3, .int .u8 a0_4, .int .u64 a0_5, .int .u64 a0_6] 26 (0, 0)) (by (with_reducible repeat (first | refine blk_drewN ?_ _ | refine blk_drew ?_ | refine blk_alloc ?_ _)); exact BK126.out) hb)
                      have n1_ := Aside0.mk (blk_below (g := gb132) (o := .cells #[.int .u8 x133000_2, .int .i64 x133001_2, .int .i64 x133002_2, .int .i64 x133003_2, .int .u8 x133004_2, .int .u64 x133005_2, .int .u64 x133006_2] 26 (0, 0)) (by (with_reducible repeat (first | refine blk_drewN ?_ _ | refine blk_drew ?_ | refine blk_alloc ?_ _)); exact BK132.out) hb)
                      have n2_ := Aside0.mk (below_step (by repeat (first | (with_reducible first | exact HB.out | apply below_alloc | apply pw_below_drewN | apply below_drew1 | refine below_set ?_ GE126.out | refine below_set ?_ GE132.out) | exact HB.out)) hb)
                      have n3_ := Aside0.mk (hbox)
                      have n4_ := Aside0.mk ((by rw [hg]; exact (below_size (by repeat (first | (with_reducible first | exact HB.out | apply below_alloc | apply pw_below_drewN | apply below_drew1 | refine below_set ?_ GE126.out | refine below_set ?_ GE132.out) | exact HB.out))) : w.heap.size ≤ gb142))
                      have n5_ := Aside0.mk ((by rw [hg]; exact (below_size (by repeat (first | (with_reducible first | exact HB.out | apply below_alloc | apply pw_below_drewN | apply below_drew1 | refine below_set ?_ GE126.out | refine below_set ?_ GE132.out) | exact HB.out))) : w.heap.size ≤ gb142))
                      have n6_ := Aside0.mk ((by rw [hg]; exact Nat.ne_of_lt (blk_lt (g := gb126) (o := .cells #[.int .u8 a0_0, .int .i64 a0_1, .int .i64 a0_2, .int .i64 a0_3, .int .u8 a0_4, .int .u64 a0_5, .int .u64 a0_6] 26 (0, 0)) (by (with_reducible repeat (first | refine blk_drewN ?_ _ | refine blk_drew ?_ | refine blk_alloc ?_ _)); exact BK126.out)) : gb126 ≠ gb142))
                      have n7_ := Aside0.mk ((by rw [hg]; exact Nat.ne_of_gt (blk_lt (g := gb126) (o := .cells #[.int .u8 a0_0, .int .i64 a0_1, .int .i64 a0_2, .int .i64 a0_3, .int .u8 a0_4, .int .u64 a0_5, .int .u64 a0_6] 26 (0, 0)) (by (with_reducible repeat (first | refine blk_drewN ?_ _ | refine blk_drew ?_ | refine blk_alloc ?_ _)); exact BK126.out)) : gb142 ≠ gb126))
                      have n8_ := Aside0.mk ((by rw [hg]; exact Nat.ne_of_lt (blk_lt (g := gb132) (o := .cells #[.int .u8 x133000_2, .int .i64 x133001_2, .int .i64 x133002_2, .int .i64 x133003_2, .int .u8 x133004_2, .int .u64 x133005_2, .int .u64 x133006_2] 26 (0, 0)) (by (with_reducible repeat (first | refine blk_drewN ?_ _ | refine blk_drew ?_ | refine blk_alloc ?_ _)); exact BK132.out)) : gb132 ≠ gb142))
                      have n9_ := Aside0.mk ((by rw [hg]; exact Nat.ne_of_gt (blk_lt (g := gb132) (o := .cells #[.int .u8 x133000_2, .int .i64 x133001_2, .int .i64 x133002_2, .int .i64 x133003_2, .int .u8 x133004_2, .int .u64 x133005_2, .int .u64 x133006_2] 26 (0, 0)) (by (with_reducible repeat (first | refine blk_drewN ?_ _ | refine blk_drew ?_ | refine blk_alloc ?_ _)); exact BK132.out)) : gb142 ≠ gb132))
                      clear BK126
                      clear BK132
                      clear HB
                      have BK126 := n0_
                      have BK132 := n1_
                      have HB := n2_
                      have BK142 := n3_
                      have GW142 := n4_
                      have GE142 := n5_
                      have NB126_142 := n6_
                      have NB142_126 := n7_
                      have NB132_142 := n8_
                      have NB142_132 := n9_
                      clear n0_ n1_ n2_ n3_ n4_ n5_ n6_ n7_ n8_ n9_
                      clear hb hbox hg
                      refine hK.out _ _ ⟨(blk_cell BK132.out 0).trans rfl, (blk_cell BK132.out 1).trans rfl, (blk_cell BK132.out 2).trans rfl, (blk_cell BK132.out 3).trans rfl, (blk_cell BK132.out 4).trans rfl, (blk_cell BK132.out 5).trans rfl, (blk_cell BK132.out 6).trans rfl, (blk_cell BK126.out 0).trans rfl, (blk_cell BK126.out 1).trans rfl, (blk_cell BK126.out 2).trans rfl, (blk_cell BK126.out 3).trans rfl, (blk_cell BK126.out 4).trans rfl, (blk_cell BK126.out 5).trans rfl, (blk_cell BK126.out 6).trans rfl⟩ (fun hHeld => ?_)
                      clear hK K
                      refine norm_ (a' := ?_) ?_ ?_
                      rotate_left
                      · show Act.put _ (some 7) _ = _
                        simp only [Act.put, List.setIfInBounds_toArray, List.set_cons_zero, List.set_cons_succ, i64_w, i32_w]
                        rfl
                      refine one_ (i := 9) (N := some 54) #[true, true, true, true, true, true, true, true, true, true, false, false, false, true, false, false] rfl rfl (one_of HT_.out (by kernel_rfl)) (by decide) (fun K hK => ?_)
                      refine goes_ Try.func23 (by kernel_rfl) rfl #[.agg #[.int .u8 x133000_2, .int .i64 x133001_2, .int .i64 x133002_2, .int .i64 x133003_2, .int .u8 x133004_2, .int .u64 x133005_2, .int .u64 x133006_2], .int .u8 (bt t127 x6_2), .int .u64 t133] (by rfl) rfl rfl (by (try simp only [List.map_toArray, List.map_cons, List.map_nil]); first | done | rfl | (simp only [List.length_drop, List.length_take]; rfl)) ?_
                      with_reducible refine (cofferdamref25_with.calls x133000_2 x133001_2 x133002_2 x133003_2 x133004_2 x133005_2 x133006_2 (bt t127 x6_2) t133 t134 t135 t136 t137 t138 t139 t140 t141 _ A25.out).mono ?_
                      rintro e w29 ⟨rfl, hb⟩
                      refine ⟨_, rfl, ?_⟩
                      have n0_ := Aside0.mk (blk_below (g := gb126) (o := .cells #[.int .u8 a0_0, .int .i64 a0_1, .int .i64 a0_2, .int .i64 a0_3, .int .u8 a0_4, .int .u64 a0_5, .int .u64 a0_6] 26 (0, 0)) (by (with_reducible repeat (first | refine blk_drewN ?_ _ | refine blk_drew ?_ | refine blk_alloc ?_ _)); exact BK126.out) hb)
                      have n1_ := Aside0.mk (blk_below (g := gb132) (o := .cells #[.int .u8 x133000_2, .int .i64 x133001_2, .int .i64 x133002_2, .int .i64 x133003_2, .int .u8 x133004_2, .int .u64 x133005_2, .int .u64 x133006_2] 26 (0, 0)) (by (with_reducible repeat (first | refine blk_drewN ?_ _ | refine blk_drew ?_ | refine blk_alloc ?_ _)); exact BK132.out) hb)
                      have n2_ := Aside0.mk (blk_below (g := gb142) (o := .cells #[.int .u8 0, .int .i64 0, .int .i64 0, .int .i64 0, .int .u8 0, .int .u64 0, .int .u64 0] 26 (0, 0)) (by (with_reducible repeat (first | refine blk_drewN ?_ _ | refine blk_drew ?_ | refine blk_alloc ?_ _)); exact BK142.out) hb)
                      have n3_ := Aside0.mk (below_step (by repeat (first | (with_reducible first | exact HB.out | apply below_alloc | apply pw_below_drewN | apply below_drew1 | refine below_set ?_ GE126.out | refine below_set ?_ GE132.out | refine below_set ?_ GE142.out) | exact HB.out)) hb)
                      clear BK126
                      clear BK132
                      clear BK142
                      clear HB
                      have BK126 := n0_
                      have BK132 := n1_
                      have BK142 := n2_
                      have HB := n3_
                      clear n0_ n1_ n2_ n3_
                      (try clear hb)
                      (try clear hb2)
                      (try clear hk)
                      (try clear hi)
                      refine hK.out _ _ ⟨(blk_cell BK132.out 0).trans rfl, (blk_cell BK132.out 1).trans rfl, (blk_cell BK132.out 2).trans rfl, (blk_cell BK132.out 3).trans rfl, (blk_cell BK132.out 4).trans rfl, (blk_cell BK132.out 5).trans rfl, (blk_cell BK132.out 6).trans rfl, (blk_cell BK126.out 0).trans rfl, (blk_cell BK126.out 1).trans rfl, (blk_cell BK126.out 2).trans rfl, (blk_cell BK126.out 3).trans rfl, (blk_cell BK126.out 4).trans rfl, (blk_cell BK126.out 5).trans rfl, (blk_cell BK126.out 6).trans rfl⟩ (fun hHeld => ?_)
                      clear hK K
                      refine norm_ (a' := ?_) ?_ ?_
                      rotate_left
                      · show Act.put _ (some 54) _ = _
                        simp only [Act.put, List.setIfInBounds_toArray, List.set_cons_zero, List.set_cons_succ, i64_w, i32_w]
                        rfl
                      refine pure_ (i := 10) (N := some 44) (v := ?_) (a' := ?_) #[true, true, true, true, true, true, true, true, true, true, true, false, false, true, false, false] rfl rfl (any_of HT_.out (by kernel_rfl)) (fun _ _ _ h => h) (Or.inl ⟨by rfl, ?_⟩) ?_ ?_
                      rotate_left
                      · intro w'
                        go_simp
                        with_reducible rfl
                      rotate_left
                      · simp only [Act.put, List.setIfInBounds_toArray, List.set_cons_zero, List.set_cons_succ, i64_w, i32_w]
                        rfl
                      refine pure_ (i := 11) (N := some 55) (v := ?_) (a' := ?_) #[true, true, true, true, true, true, true, true, true, true, true, true, false, true, false, false] rfl rfl (any_of HT_.out (by kernel_rfl)) (fun _ _ _ h => h) (Or.inl ⟨by rfl, ?_⟩) ?_ ?_
                      rotate_left
                      · intro w'
                        go_simp
                        with_reducible rfl
                      rotate_left
                      · simp only [Act.put, List.setIfInBounds_toArray, List.set_cons_zero, List.set_cons_succ, i64_w, i32_w]
                        rfl
                      refine pure_ (i := 12) (N := some 56) (v := ?_) (a' := ?_) #[true, true, true, true, true, true, true, true, true, true, true, true, true, true, false, false] rfl rfl (any_of HT_.out (by kernel_rfl)) (fun _ _ _ h => h) (Or.inl ⟨by rfl, ?_⟩) ?_ ?_
                      rotate_left
                      · intro w'
                        go_simp
                        with_reducible rfl
                      rotate_left
                      · simp only [Act.put, List.setIfInBounds_toArray, List.set_cons_zero, List.set_cons_succ, i64_w, i32_w]
                        rfl
                      exact norm_ (by simp only [putAll, Act.put, List.setIfInBounds_toArray, List.set_cons_zero, List.set_cons_succ]) (hCont (gb142) _ ⟨hHeld, (by (with_reducible repeat (first | refine blk_drewN ?_ _ | refine blk_drew ?_ | refine blk_alloc ?_ _)); exact BK126.out), (by (with_reducible repeat (first | refine blk_drewN ?_ _ | refine blk_drew ?_ | refine blk_alloc ?_ _)); exact BK132.out), (by (with_reducible repeat (first | refine blk_drewN ?_ _ | refine blk_drew ?_ | refine blk_alloc ?_ _)); exact BK142.out), GW142.out, GE142.out, NB126_142.out, NB142_126.out, NB132_142.out, NB142_132.out, (by repeat (first | (with_reducible first | exact HB.out | apply below_alloc | apply pw_below_drewN | apply below_drew1 | refine below_set ?_ GE126.out | refine below_set ?_ GE132.out | refine below_set ?_ GE142.out) | exact HB.out))⟩)
                  · skip
                    refine box_step ?hg (N := 7) ?hd (cs := #[.int .u8 0, .int .i64 0, .int .i64 0, .int .i64 0, .int .u8 0, .int .u64 0, .int .u64 0]) (t := 26) ?hr ?_; (case hd => rfl); (case hg => rfl); (case hr => first | (go_simp; done) | (go_simp; rfl))
                    intro gb142 hg w27 hbox hb
                    have n0_ := Aside0.mk (blk_below (g := gb126) (o := .cells #[.int .u8 a0_0, .int .i64 a0_1, .int .i64 a0_2, .int .i64 a0_3, .int .u8 a0_4, .int .u64 a0_5, .int .u64 a0_6] 26 (0, 0)) (by (with_reducible repeat (first | refine blk_drewN ?_ _ | refine blk_drew ?_ | refine blk_alloc ?_ _)); exact BK126.out) hb)
                    have n1_ := Aside0.mk (blk_below (g := gb132) (o := .cells #[.int .u8 x133000_2, .int .i64 x133001_2, .int .i64 x133002_2, .int .i64 x133003_2, .int .u8 x133004_2, .int .u64 x133005_2, .int .u64 x133006_2] 26 (0, 0)) (by (with_reducible repeat (first | refine blk_drewN ?_ _ | refine blk_drew ?_ | refine blk_alloc ?_ _)); exact BK132.out) hb)
                    have n2_ := Aside0.mk (below_step (by repeat (first | (with_reducible first | exact HB.out | apply below_alloc | apply pw_below_drewN | apply below_drew1 | refine below_set ?_ GE126.out | refine below_set ?_ GE132.out) | exact HB.out)) hb)
                    have n3_ := Aside0.mk (hbox)
                    have n4_ := Aside0.mk ((by rw [hg]; exact (below_size (by repeat (first | (with_reducible first | exact HB.out | apply below_alloc | apply pw_below_drewN | apply below_drew1 | refine below_set ?_ GE126.out | refine below_set ?_ GE132.out) | exact HB.out))) : w.heap.size ≤ gb142))
                    have n5_ := Aside0.mk ((by rw [hg]; exact (below_size (by repeat (first | (with_reducible first | exact HB.out | apply below_alloc | apply pw_below_drewN | apply below_drew1 | refine below_set ?_ GE126.out | refine below_set ?_ GE132.out) | exact HB.out))) : w.heap.size ≤ gb142))
                    have n6_ := Aside0.mk ((by rw [hg]; exact Nat.ne_of_lt (blk_lt (g := gb126) (o := .cells #[.int .u8 a0_0, .int .i64 a0_1, .int .i64 a0_2, .int .i64 a0_3, .int .u8 a0_4, .int .u64 a0_5, .int .u64 a0_6] 26 (0, 0)) (by (with_reducible repeat (first | refine blk_drewN ?_ _ | refine blk_drew ?_ | refine blk_alloc ?_ _)); exact BK126.out)) : gb126 ≠ gb142))
                    have n7_ := Aside0.mk ((by rw [hg]; exact Nat.ne_of_gt (blk_lt (g := gb126) (o := .cells #[.int .u8 a0_0, .int .i64 a0_1, .int .i64 a0_2, .int .i64 a0_3, .int .u8 a0_4, .int .u64 a0_5, .int .u64 a0_6] 26 (0, 0)) (by (with_reducible repeat (first | refine blk_drewN ?_ _ | refine blk_drew ?_ | refine blk_alloc ?_ _)); exact BK126.out)) : gb142 ≠ gb126))
                    have n8_ := Aside0.mk ((by rw [hg]; exact Nat.ne_of_lt (blk_lt (g := gb132) (o := .cells #[.int .u8 x133000_2, .int .i64 x133001_2, .int .i64 x133002_2, .int .i64 x133003_2, .int .u8 x133004_2, .int .u64 x133005_2, .int .u64 x133006_2] 26 (0, 0)) (by (with_reducible repeat (first | refine blk_drewN ?_ _ | refine blk_drew ?_ | refine blk_alloc ?_ _)); exact BK132.out)) : gb132 ≠ gb142))
                    have n9_ := Aside0.mk ((by rw [hg]; exact Nat.ne_of_gt (blk_lt (g := gb132) (o := .cells #[.int .u8 x133000_2, .int .i64 x133001_2, .int .i64 x133002_2, .int .i64 x133003_2, .int .u8 x133004_2, .int .u64 x133005_2, .int .u64 x133006_2] 26 (0, 0)) (by (with_reducible repeat (first | refine blk_drewN ?_ _ | refine blk_drew ?_ | refine blk_alloc ?_ _)); exact BK132.out)) : gb142 ≠ gb132))
                    clear BK126
                    clear BK132
                    clear HB
                    have BK126 := n0_
                    have BK132 := n1_
                    have HB := n2_
                    have BK142 := n3_
                    have GW142 := n4_
                    have GE142 := n5_
                    have NB126_142 := n6_
                    have NB142_126 := n7_
                    have NB132_142 := n8_
                    have NB142_132 := n9_
                    clear n0_ n1_ n2_ n3_ n4_ n5_ n6_ n7_ n8_ n9_
                    clear hb hbox hg
                    refine hK.out _ _ ⟨(blk_cell BK132.out 0).trans rfl, (blk_cell BK132.out 1).trans rfl, (blk_cell BK132.out 2).trans rfl, (blk_cell BK132.out 3).trans rfl, (blk_cell BK132.out 4).trans rfl, (blk_cell BK132.out 5).trans rfl, (blk_cell BK132.out 6).trans rfl, (blk_cell BK126.out 0).trans rfl, (blk_cell BK126.out 1).trans rfl, (blk_cell BK126.out 2).trans rfl, (blk_cell BK126.out 3).trans rfl, (blk_cell BK126.out 4).trans rfl, (blk_cell BK126.out 5).trans rfl, (blk_cell BK126.out 6).trans rfl⟩ (fun hHeld => ?_)
                    clear hK K
                    refine norm_ (a' := ?_) ?_ ?_
                    rotate_left
                    · show Act.put _ (some 7) _ = _
                      simp only [Act.put, List.setIfInBounds_toArray, List.set_cons_zero, List.set_cons_succ, i64_w, i32_w]
                      rfl
                    refine one_ (i := 8) (N := some 53) #[true, true, true, true, true, true, true, true, true, false, false, false, false, true, false, false] rfl rfl (one_of HT_.out (by kernel_rfl)) (by decide) (fun K hK => ?_)
                    refine goes_ Try.func26 (by kernel_rfl) rfl #[.agg #[.int .u8 a0_0, .int .i64 a0_1, .int .i64 a0_2, .int .i64 a0_3, .int .u8 a0_4, .int .u64 a0_5, .int .u64 a0_6], .int .u8 (bt t127 x6_2)] (by rfl) rfl rfl (by (try simp only [List.map_toArray, List.map_cons, List.map_nil]); first | done | rfl | (simp only [List.length_drop, List.length_take]; rfl)) ?_
                    with_reducible refine (cofferdamref25_word.calls a0_0 a0_1 a0_2 a0_3 a0_4 a0_5 a0_6 (bt t127 x6_2) t133 _ A24.out).mono ?_
                    rintro e w28 ⟨rfl, hb⟩
                    refine ⟨_, rfl, ?_⟩
                    have n0_ := Aside0.mk (blk_below (g := gb126) (o := .cells #[.int .u8 a0_0, .int .i64 a0_1, .int .i64 a0_2, .int .i64 a0_3, .int .u8 a0_4, .int .u64 a0_5, .int .u64 a0_6] 26 (0, 0)) (by (with_reducible repeat (first | refine blk_drewN ?_ _ | refine blk_drew ?_ | refine blk_alloc ?_ _)); exact BK126.out) hb)
                    have n1_ := Aside0.mk (blk_below (g := gb132) (o := .cells #[.int .u8 x133000_2, .int .i64 x133001_2, .int .i64 x133002_2, .int .i64 x133003_2, .int .u8 x133004_2, .int .u64 x133005_2, .int .u64 x133006_2] 26 (0, 0)) (by (with_reducible repeat (first | refine blk_drewN ?_ _ | refine blk_drew ?_ | refine blk_alloc ?_ _)); exact BK132.out) hb)
                    have n2_ := Aside0.mk (blk_below (g := gb142) (o := .cells #[.int .u8 0, .int .i64 0, .int .i64 0, .int .i64 0, .int .u8 0, .int .u64 0, .int .u64 0] 26 (0, 0)) (by (with_reducible repeat (first | refine blk_drewN ?_ _ | refine blk_drew ?_ | refine blk_alloc ?_ _)); exact BK142.out) hb)
                    have n3_ := Aside0.mk (below_step (by repeat (first | (with_reducible first | exact HB.out | apply below_alloc | apply pw_below_drewN | apply below_drew1 | refine below_set ?_ GE126.out | refine below_set ?_ GE132.out | refine below_set ?_ GE142.out) | exact HB.out)) hb)
                    clear BK126
                    clear BK132
                    clear BK142
                    clear HB
                    have BK126 := n0_
                    have BK132 := n1_
                    have BK142 := n2_
                    have HB := n3_
                    clear n0_ n1_ n2_ n3_
                    (try clear hb)
                    (try clear hb2)
                    (try clear hk)
                    (try clear hi)
                    refine hK.out _ _ ⟨(blk_cell BK132.out 0).trans rfl, (blk_cell BK132.out 1).trans rfl, (blk_cell BK132.out 2).trans rfl, (blk_cell BK132.out 3).trans rfl, (blk_cell BK132.out 4).trans rfl, (blk_cell BK132.out 5).trans rfl, (blk_cell BK132.out 6).trans rfl, (blk_cell BK126.out 0).trans rfl, (blk_cell BK126.out 1).trans rfl, (blk_cell BK126.out 2).trans rfl, (blk_cell BK126.out 3).trans rfl, (blk_cell BK126.out 4).trans rfl, (blk_cell BK126.out 5).trans rfl, (blk_cell BK126.out 6).trans rfl⟩ (fun hHeld => ?_)
                    clear hK K
                    refine norm_ (a' := ?_) ?_ ?_
                    rotate_left
                    · show Act.put _ (some 53) _ = _
                      simp only [Act.put, List.setIfInBounds_toArray, List.set_cons_zero, List.set_cons_succ, i64_w, i32_w]
                      rfl
                    refine one_ (i := 9) (N := some 54) #[true, true, true, true, true, true, true, true, true, true, false, false, false, true, false, false] rfl rfl (one_of HT_.out (by kernel_rfl)) (by decide) (fun K hK => ?_)
                    refine goes_ Try.func23 (by kernel_rfl) rfl #[.agg #[.int .u8 x133000_2, .int .i64 x133001_2, .int .i64 x133002_2, .int .i64 x133003_2, .int .u8 x133004_2, .int .u64 x133005_2, .int .u64 x133006_2], .int .u8 (bt t127 x6_2), .int .u64 t133] (by rfl) rfl rfl (by (try simp only [List.map_toArray, List.map_cons, List.map_nil]); first | done | rfl | (simp only [List.length_drop, List.length_take]; rfl)) ?_
                    with_reducible refine (cofferdamref25_with.calls x133000_2 x133001_2 x133002_2 x133003_2 x133004_2 x133005_2 x133006_2 (bt t127 x6_2) t133 t134 t135 t136 t137 t138 t139 t140 t141 _ A25.out).mono ?_
                    rintro e w29 ⟨rfl, hb⟩
                    refine ⟨_, rfl, ?_⟩
                    have n0_ := Aside0.mk (blk_below (g := gb126) (o := .cells #[.int .u8 a0_0, .int .i64 a0_1, .int .i64 a0_2, .int .i64 a0_3, .int .u8 a0_4, .int .u64 a0_5, .int .u64 a0_6] 26 (0, 0)) (by (with_reducible repeat (first | refine blk_drewN ?_ _ | refine blk_drew ?_ | refine blk_alloc ?_ _)); exact BK126.out) hb)
                    have n1_ := Aside0.mk (blk_below (g := gb132) (o := .cells #[.int .u8 x133000_2, .int .i64 x133001_2, .int .i64 x133002_2, .int .i64 x133003_2, .int .u8 x133004_2, .int .u64 x133005_2, .int .u64 x133006_2] 26 (0, 0)) (by (with_reducible repeat (first | refine blk_drewN ?_ _ | refine blk_drew ?_ | refine blk_alloc ?_ _)); exact BK132.out) hb)
                    have n2_ := Aside0.mk (blk_below (g := gb142) (o := .cells #[.int .u8 0, .int .i64 0, .int .i64 0, .int .i64 0, .int .u8 0, .int .u64 0, .int .u64 0] 26 (0, 0)) (by (with_reducible repeat (first | refine blk_drewN ?_ _ | refine blk_drew ?_ | refine blk_alloc ?_ _)); exact BK142.out) hb)
                    have n3_ := Aside0.mk (below_step (by repeat (first | (with_reducible first | exact HB.out | apply below_alloc | apply pw_below_drewN | apply below_drew1 | refine below_set ?_ GE126.out | refine below_set ?_ GE132.out | refine below_set ?_ GE142.out) | exact HB.out)) hb)
                    clear BK126
                    clear BK132
                    clear BK142
                    clear HB
                    have BK126 := n0_
                    have BK132 := n1_
                    have BK142 := n2_
                    have HB := n3_
                    clear n0_ n1_ n2_ n3_
                    (try clear hb)
                    (try clear hb2)
                    (try clear hk)
                    (try clear hi)
                    refine hK.out _ _ ⟨(blk_cell BK132.out 0).trans rfl, (blk_cell BK132.out 1).trans rfl, (blk_cell BK132.out 2).trans rfl, (blk_cell BK132.out 3).trans rfl, (blk_cell BK132.out 4).trans rfl, (blk_cell BK132.out 5).trans rfl, (blk_cell BK132.out 6).trans rfl, (blk_cell BK126.out 0).trans rfl, (blk_cell BK126.out 1).trans rfl, (blk_cell BK126.out 2).trans rfl, (blk_cell BK126.out 3).trans rfl, (blk_cell BK126.out 4).trans rfl, (blk_cell BK126.out 5).trans rfl, (blk_cell BK126.out 6).trans rfl⟩ (fun hHeld => ?_)
                    clear hK K
                    refine norm_ (a' := ?_) ?_ ?_
                    rotate_left
                    · show Act.put _ (some 54) _ = _
                      simp only [Act.put, List.setIfInBounds_toArray, List.set_cons_zero, List.set_cons_succ, i64_w, i32_w]
                      rfl
                    refine pure_ (i := 10) (N := some 44) (v := ?_) (a' := ?_) #[true, true, true, true, true, true, true, true, true, true, true, false, false, true, false, false] rfl rfl (any_of HT_.out (by kernel_rfl)) (fun _ _ _ h => h) (Or.inl ⟨by rfl, ?_⟩) ?_ ?_
                    rotate_left
                    · intro w'
                      go_simp
                      with_reducible rfl
                    rotate_left
                    · simp only [Act.put, List.setIfInBounds_toArray, List.set_cons_zero, List.set_cons_succ, i64_w, i32_w]
                      rfl
                    refine pure_ (i := 11) (N := some 55) (v := ?_) (a' := ?_) #[true, true, true, true, true, true, true, true, true, true, true, true, false, true, false, false] rfl rfl (any_of HT_.out (by kernel_rfl)) (fun _ _ _ h => h) (Or.inl ⟨by rfl, ?_⟩) ?_ ?_
                    rotate_left
                    · intro w'
                      go_simp
                      with_reducible rfl
                    rotate_left
                    · simp only [Act.put, List.setIfInBounds_toArray, List.set_cons_zero, List.set_cons_succ, i64_w, i32_w]
                      rfl
                    refine pure_ (i := 12) (N := some 56) (v := ?_) (a' := ?_) #[true, true, true, true, true, true, true, true, true, true, true, true, true, true, false, false] rfl rfl (any_of HT_.out (by kernel_rfl)) (fun _ _ _ h => h) (Or.inl ⟨by rfl, ?_⟩) ?_ ?_
                    rotate_left
                    · intro w'
                      go_simp
                      with_reducible rfl
                    rotate_left
                    · simp only [Act.put, List.setIfInBounds_toArray, List.set_cons_zero, List.set_cons_succ, i64_w, i32_w]
                      rfl
                    exact norm_ (by simp only [putAll, Act.put, List.setIfInBounds_toArray, List.set_cons_zero, List.set_cons_succ]) (hCont (gb142) _ ⟨hHeld, (by (with_reducible repeat (first | refine blk_drewN ?_ _ | refine blk_drew ?_ | refine blk_alloc ?_ _)); exact BK126.out), (by (with_reducible repeat (first | refine blk_drewN ?_ _ | refine blk_drew ?_ | refine blk_alloc ?_ _)); exact BK132.out), (by (with_reducible repeat (first | refine blk_drewN ?_ _ | refine blk_drew ?_ | refine blk_alloc ?_ _)); exact BK142.out), GW142.out, GE142.out, NB126_142.out, NB142_126.out, NB132_142.out, NB142_132.out, (by repeat (first | (with_reducible first | exact HB.out | apply below_alloc | apply pw_below_drewN | apply below_drew1 | refine below_set ?_ GE126.out | refine below_set ?_ GE132.out | refine below_set ?_ GE142.out) | exact HB.out))⟩)
                rintro gb142 w30 ⟨hS_, h0_, h1_, h2_, h3_, h4_, h5_, h6_, h7_, h8_, h9_⟩
                have n0_ : Aside0 (w30.heap[gb126]? = some (.cells #[.int .u8 a0_0, .int .i64 a0_1, .int .i64 a0_2, .int .i64 a0_3, .int .u8 a0_4, .int .u64 a0_5, .int .u64 a0_6] 26 (0, 0))) := ⟨h0_⟩
                have n1_ : Aside0 (w30.heap[gb132]? = some (.cells #[.int .u8 x133000_2, .int .i64 x133001_2, .int .i64 x133002_2, .int .i64 x133003_2, .int .u8 x133004_2, .int .u64 x133005_2, .int .u64 x133006_2] 26 (0, 0))) := ⟨h1_⟩
                have n2_ : Aside0 (w30.heap[gb142]? = some (.cells #[.int .u8 0, .int .i64 0, .int .i64 0, .int .i64 0, .int .u8 0, .int .u64 0, .int .u64 0] 26 (0, 0))) := ⟨h2_⟩
                have n3_ : Aside0 (w.heap.size ≤ gb142) := ⟨h3_⟩
                have n4_ : Aside0 (w.heap.size ≤ gb142) := ⟨h4_⟩
                have n5_ : Aside0 (gb126 ≠ gb142) := ⟨h5_⟩
                have n6_ : Aside0 (gb142 ≠ gb126) := ⟨h6_⟩
                have n7_ : Aside0 (gb132 ≠ gb142) := ⟨h7_⟩
                have n8_ : Aside0 (gb142 ≠ gb132) := ⟨h8_⟩
                have n9_ : Aside0 (Below w.heap.size w w30) := ⟨h9_⟩
                clear BK126
                clear BK132
                clear HB
                clear h0_ h1_ h2_ h3_ h4_ h5_ h6_ h7_ h8_ h9_
                have BK126 := n0_
                have BK132 := n1_
                have BK142 := n2_
                have GW142 := n3_
                have GE142 := n4_
                have NB126_142 := n5_
                have NB142_126 := n6_
                have NB132_142 := n7_
                have NB142_132 := n8_
                have HB := n9_
                clear n0_ n1_ n2_ n3_ n4_ n5_ n6_ n7_ n8_ n9_
                have hHeld : w30.cell? ⟨gb132, 0, none⟩ = some (.int .u8 x133000_2) ∧ w30.cell? ⟨gb132, 1, none⟩ = some (.int .i64 x133001_2) ∧ w30.cell? ⟨gb132, 2, none⟩ = some (.int .i64 x133002_2) ∧ w30.cell? ⟨gb132, 3, none⟩ = some (.int .i64 x133003_2) ∧ w30.cell? ⟨gb132, 4, none⟩ = some (.int .u8 x133004_2) ∧ w30.cell? ⟨gb132, 5, none⟩ = some (.int .u64 x133005_2) ∧ w30.cell? ⟨gb132, 6, none⟩ = some (.int .u64 x133006_2) ∧ w30.cell? ⟨gb126, 0, none⟩ = some (.int .u8 a0_0) ∧ w30.cell? ⟨gb126, 1, none⟩ = some (.int .i64 a0_1) ∧ w30.cell? ⟨gb126, 2, none⟩ = some (.int .i64 a0_2) ∧ w30.cell? ⟨gb126, 3, none⟩ = some (.int .i64 a0_3) ∧ w30.cell? ⟨gb126, 4, none⟩ = some (.int .u8 a0_4) ∧ w30.cell? ⟨gb126, 5, none⟩ = some (.int .u64 a0_5) ∧ w30.cell? ⟨gb126, 6, none⟩ = some (.int .u64 a0_6) := hS_
                refine norm_ (a' := ?_) ?_ ?_
                rotate_left
                · simp only [putAll, Act.put, List.setIfInBounds_toArray, List.set_cons_zero, List.set_cons_succ]
                  rfl
                refine one_ (i := 14) (N := none) #[true, true, true, true, true, true, true, true, true, true, true, true, true, true, true, false] rfl rfl (one_of HT_.out (by kernel_rfl)) (by decide) (fun K hK => ?_)
                have hs31 : w30.cell? ⟨gb142, 0, none⟩ = some (.int .u8 0) := (blk_cell BK142.out 0).trans rfl
                have hfs31 := blk_frozen BK142.out 0
                have hns31_0 := NB126_142.out
                have hns31_1 := NB132_142.out
                have hms31_0 := NB142_126.out
                have hms31_1 := NB142_132.out
                have hs32 : w30.cell? ⟨gb142, 1, none⟩ = some (.int .i64 0) := (blk_cell BK142.out 1).trans rfl
                have hfs32 := blk_frozen BK142.out 1
                have hns32_0 := NB126_142.out
                have hns32_1 := NB132_142.out
                have hms32_0 := NB142_126.out
                have hms32_1 := NB142_132.out
                have hs33 : w30.cell? ⟨gb142, 2, none⟩ = some (.int .i64 0) := (blk_cell BK142.out 2).trans rfl
                have hfs33 := blk_frozen BK142.out 2
                have hns33_0 := NB126_142.out
                have hns33_1 := NB132_142.out
                have hms33_0 := NB142_126.out
                have hms33_1 := NB142_132.out
                have hs34 : w30.cell? ⟨gb142, 3, none⟩ = some (.int .i64 0) := (blk_cell BK142.out 3).trans rfl
                have hfs34 := blk_frozen BK142.out 3
                have hns34_0 := NB126_142.out
                have hns34_1 := NB132_142.out
                have hms34_0 := NB142_126.out
                have hms34_1 := NB142_132.out
                have hs35 : w30.cell? ⟨gb142, 4, none⟩ = some (.int .u8 0) := (blk_cell BK142.out 4).trans rfl
                have hfs35 := blk_frozen BK142.out 4
                have hns35_0 := NB126_142.out
                have hns35_1 := NB132_142.out
                have hms35_0 := NB142_126.out
                have hms35_1 := NB142_132.out
                have hs36 : w30.cell? ⟨gb142, 5, none⟩ = some (.int .u64 0) := (blk_cell BK142.out 5).trans rfl
                have hfs36 := blk_frozen BK142.out 5
                have hns36_0 := NB126_142.out
                have hns36_1 := NB132_142.out
                have hms36_0 := NB142_126.out
                have hms36_1 := NB142_132.out
                have hs37 : w30.cell? ⟨gb142, 6, none⟩ = some (.int .u64 0) := (blk_cell BK142.out 6).trans rfl
                have hfs37 := blk_frozen BK142.out 6
                have hns37_0 := NB126_142.out
                have hns37_1 := NB132_142.out
                have hms37_0 := NB142_126.out
                have hms37_1 := NB142_132.out
                refine skip_ (w1 := ?_) (by rfl) rfl ?_ ?_
                rotate_left
                · go_simp
                  rfl
                refine hK.out _ _ ⟨((cell_far (p := ⟨gb142, _, none⟩) NB132_142.out _).trans (((cell_far (p := ⟨gb142, _, none⟩) NB132_142.out _).trans (((cell_far (p := ⟨gb142, _, none⟩) NB132_142.out _).trans (((cell_far (p := ⟨gb142, _, none⟩) NB132_142.out _).trans (((cell_far (p := ⟨gb142, _, none⟩) NB132_142.out _).trans (((cell_far (p := ⟨gb142, _, none⟩) NB132_142.out _).trans (((cell_far (p := ⟨gb142, _, none⟩) NB132_142.out _).trans (hHeld.1)))))))))))))), ((cell_far (p := ⟨gb142, _, none⟩) NB132_142.out _).trans (((cell_far (p := ⟨gb142, _, none⟩) NB132_142.out _).trans (((cell_far (p := ⟨gb142, _, none⟩) NB132_142.out _).trans (((cell_far (p := ⟨gb142, _, none⟩) NB132_142.out _).trans (((cell_far (p := ⟨gb142, _, none⟩) NB132_142.out _).trans (((cell_far (p := ⟨gb142, _, none⟩) NB132_142.out _).trans (((cell_far (p := ⟨gb142, _, none⟩) NB132_142.out _).trans (hHeld.2.1)))))))))))))), ((cell_far (p := ⟨gb142, _, none⟩) NB132_142.out _).trans (((cell_far (p := ⟨gb142, _, none⟩) NB132_142.out _).trans (((cell_far (p := ⟨gb142, _, none⟩) NB132_142.out _).trans (((cell_far (p := ⟨gb142, _, none⟩) NB132_142.out _).trans (((cell_far (p := ⟨gb142, _, none⟩) NB132_142.out _).trans (((cell_far (p := ⟨gb142, _, none⟩) NB132_142.out _).trans (((cell_far (p := ⟨gb142, _, none⟩) NB132_142.out _).trans (hHeld.2.2.1)))))))))))))), ((cell_far (p := ⟨gb142, _, none⟩) NB132_142.out _).trans (((cell_far (p := ⟨gb142, _, none⟩) NB132_142.out _).trans (((cell_far (p := ⟨gb142, _, none⟩) NB132_142.out _).trans (((cell_far (p := ⟨gb142, _, none⟩) NB132_142.out _).trans (((cell_far (p := ⟨gb142, _, none⟩) NB132_142.out _).trans (((cell_far (p := ⟨gb142, _, none⟩) NB132_142.out _).trans (((cell_far (p := ⟨gb142, _, none⟩) NB132_142.out _).trans (hHeld.2.2.2.1)))))))))))))), ((cell_far (p := ⟨gb142, _, none⟩) NB132_142.out _).trans (((cell_far (p := ⟨gb142, _, none⟩) NB132_142.out _).trans (((cell_far (p := ⟨gb142, _, none⟩) NB132_142.out _).trans (((cell_far (p := ⟨gb142, _, none⟩) NB132_142.out _).trans (((cell_far (p := ⟨gb142, _, none⟩) NB132_142.out _).trans (((cell_far (p := ⟨gb142, _, none⟩) NB132_142.out _).trans (((cell_far (p := ⟨gb142, _, none⟩) NB132_142.out _).trans (hHeld.2.2.2.2.1)))))))))))))), ((cell_far (p := ⟨gb142, _, none⟩) NB132_142.out _).trans (((cell_far (p := ⟨gb142, _, none⟩) NB132_142.out _).trans (((cell_far (p := ⟨gb142, _, none⟩) NB132_142.out _).trans (((cell_far (p := ⟨gb142, _, none⟩) NB132_142.out _).trans (((cell_far (p := ⟨gb142, _, none⟩) NB132_142.out _).trans (((cell_far (p := ⟨gb142, _, none⟩) NB132_142.out _).trans (((cell_far (p := ⟨gb142, _, none⟩) NB132_142.out _).trans (hHeld.2.2.2.2.2.1)))))))))))))), ((cell_far (p := ⟨gb142, _, none⟩) NB132_142.out _).trans (((cell_far (p := ⟨gb142, _, none⟩) NB132_142.out _).trans (((cell_far (p := ⟨gb142, _, none⟩) NB132_142.out _).trans (((cell_far (p := ⟨gb142, _, none⟩) NB132_142.out _).trans (((cell_far (p := ⟨gb142, _, none⟩) NB132_142.out _).trans (((cell_far (p := ⟨gb142, _, none⟩) NB132_142.out _).trans (((cell_far (p := ⟨gb142, _, none⟩) NB132_142.out _).trans (hHeld.2.2.2.2.2.2.1)))))))))))))), ((cell_far (p := ⟨gb142, _, none⟩) NB126_142.out _).trans (((cell_far (p := ⟨gb142, _, none⟩) NB126_142.out _).trans (((cell_far (p := ⟨gb142, _, none⟩) NB126_142.out _).trans (((cell_far (p := ⟨gb142, _, none⟩) NB126_142.out _).trans (((cell_far (p := ⟨gb142, _, none⟩) NB126_142.out _).trans (((cell_far (p := ⟨gb142, _, none⟩) NB126_142.out _).trans (((cell_far (p := ⟨gb142, _, none⟩) NB126_142.out _).trans (hHeld.2.2.2.2.2.2.2.1)))))))))))))), ((cell_far (p := ⟨gb142, _, none⟩) NB126_142.out _).trans (((cell_far (p := ⟨gb142, _, none⟩) NB126_142.out _).trans (((cell_far (p := ⟨gb142, _, none⟩) NB126_142.out _).trans (((cell_far (p := ⟨gb142, _, none⟩) NB126_142.out _).trans (((cell_far (p := ⟨gb142, _, none⟩) NB126_142.out _).trans (((cell_far (p := ⟨gb142, _, none⟩) NB126_142.out _).trans (((cell_far (p := ⟨gb142, _, none⟩) NB126_142.out _).trans (hHeld.2.2.2.2.2.2.2.2.1)))))))))))))), ((cell_far (p := ⟨gb142, _, none⟩) NB126_142.out _).trans (((cell_far (p := ⟨gb142, _, none⟩) NB126_142.out _).trans (((cell_far (p := ⟨gb142, _, none⟩) NB126_142.out _).trans (((cell_far (p := ⟨gb142, _, none⟩) NB126_142.out _).trans (((cell_far (p := ⟨gb142, _, none⟩) NB126_142.out _).trans (((cell_far (p := ⟨gb142, _, none⟩) NB126_142.out _).trans (((cell_far (p := ⟨gb142, _, none⟩) NB126_142.out _).trans (hHeld.2.2.2.2.2.2.2.2.2.1)))))))))))))), ((cell_far (p := ⟨gb142, _, none⟩) NB126_142.out _).trans (((cell_far (p := ⟨gb142, _, none⟩) NB126_142.out _).trans (((cell_far (p := ⟨gb142, _, none⟩) NB126_142.out _).trans (((cell_far (p := ⟨gb142, _, none⟩) NB126_142.out _).trans (((cell_far (p := ⟨gb142, _, none⟩) NB126_142.out _).trans (((cell_far (p := ⟨gb142, _, none⟩) NB126_142.out _).trans (((cell_far (p := ⟨gb142, _, none⟩) NB126_142.out _).trans (hHeld.2.2.2.2.2.2.2.2.2.2.1)))))))))))))), ((cell_far (p := ⟨gb142, _, none⟩) NB126_142.out _).trans (((cell_far (p := ⟨gb142, _, none⟩) NB126_142.out _).trans (((cell_far (p := ⟨gb142, _, none⟩) NB126_142.out _).trans (((cell_far (p := ⟨gb142, _, none⟩) NB126_142.out _).trans (((cell_far (p := ⟨gb142, _, none⟩) NB126_142.out _).trans (((cell_far (p := ⟨gb142, _, none⟩) NB126_142.out _).trans (((cell_far (p := ⟨gb142, _, none⟩) NB126_142.out _).trans (hHeld.2.2.2.2.2.2.2.2.2.2.2.1)))))))))))))), ((cell_far (p := ⟨gb142, _, none⟩) NB126_142.out _).trans (((cell_far (p := ⟨gb142, _, none⟩) NB126_142.out _).trans (((cell_far (p := ⟨gb142, _, none⟩) NB126_142.out _).trans (((cell_far (p := ⟨gb142, _, none⟩) NB126_142.out _).trans (((cell_far (p := ⟨gb142, _, none⟩) NB126_142.out _).trans (((cell_far (p := ⟨gb142, _, none⟩) NB126_142.out _).trans (((cell_far (p := ⟨gb142, _, none⟩) NB126_142.out _).trans (hHeld.2.2.2.2.2.2.2.2.2.2.2.2.1)))))))))))))), ((cell_far (p := ⟨gb142, _, none⟩) NB126_142.out _).trans (((cell_far (p := ⟨gb142, _, none⟩) NB126_142.out _).trans (((cell_far (p := ⟨gb142, _, none⟩) NB126_142.out _).trans (((cell_far (p := ⟨gb142, _, none⟩) NB126_142.out _).trans (((cell_far (p := ⟨gb142, _, none⟩) NB126_142.out _).trans (((cell_far (p := ⟨gb142, _, none⟩) NB126_142.out _).trans (((cell_far (p := ⟨gb142, _, none⟩) NB126_142.out _).trans (hHeld.2.2.2.2.2.2.2.2.2.2.2.2.2))))))))))))))⟩ (fun hHeld => ?_)
                clear hK K
                refine pure_ (i := 15) (N := some 8) (v := ?_) (a' := ?_) #[true, true, true, true, true, true, true, true, true, true, true, true, true, true, true, true] rfl rfl (any_of HT_.out (by kernel_rfl)) (fun _ _ _ h => h) (Or.inl ⟨by rfl, ?_⟩) ?_ ?_
                rotate_left
                · intro w'
                  go_simp
                  with_reducible rfl
                rotate_left
                · simp only [Act.put, List.setIfInBounds_toArray, List.set_cons_zero, List.set_cons_succ, i64_w, i32_w]
                  rfl
                refine done_ (done_of HT_.out (by kernel_rfl)) ?_
                have hnb38 := NB142_126.out
                have hnc38 := NB126_142.out
                have hnb39 := NB142_132.out
                have hnc39 := NB132_142.out
                have hcz40_0 : w30.cell? ⟨gb142, 0, none⟩ = some (.int .u8 0) := (blk_cell BK142.out 0).trans rfl
                have hcz40_1 : w30.cell? ⟨gb142, 1, none⟩ = some (.int .i64 0) := (blk_cell BK142.out 1).trans rfl
                have hcz40_2 : w30.cell? ⟨gb142, 2, none⟩ = some (.int .i64 0) := (blk_cell BK142.out 2).trans rfl
                have hcz40_3 : w30.cell? ⟨gb142, 3, none⟩ = some (.int .i64 0) := (blk_cell BK142.out 3).trans rfl
                have hcz40_4 : w30.cell? ⟨gb142, 4, none⟩ = some (.int .u8 0) := (blk_cell BK142.out 4).trans rfl
                have hcz40_5 : w30.cell? ⟨gb142, 5, none⟩ = some (.int .u64 0) := (blk_cell BK142.out 5).trans rfl
                have hcz40_6 : w30.cell? ⟨gb142, 6, none⟩ = some (.int .u64 0) := (blk_cell BK142.out 6).trans rfl
                have hfz40_0 := blk_frozen BK142.out 0
                have hfz40_1 := blk_frozen BK142.out 1
                have hfz40_2 := blk_frozen BK142.out 2
                have hfz40_3 := blk_frozen BK142.out 3
                have hfz40_4 := blk_frozen BK142.out 4
                have hfz40_5 := blk_frozen BK142.out 5
                have hfz40_6 := blk_frozen BK142.out 6
                have hnb41 := NB132_126.out
                have hnc41 := NB126_132.out
                have hcz42_0 : w30.cell? ⟨gb132, 0, none⟩ = some (.int .u8 x133000_2) := (blk_cell BK132.out 0).trans rfl
                have hcz42_1 : w30.cell? ⟨gb132, 1, none⟩ = some (.int .i64 x133001_2) := (blk_cell BK132.out 1).trans rfl
                have hcz42_2 : w30.cell? ⟨gb132, 2, none⟩ = some (.int .i64 x133002_2) := (blk_cell BK132.out 2).trans rfl
                have hcz42_3 : w30.cell? ⟨gb132, 3, none⟩ = some (.int .i64 x133003_2) := (blk_cell BK132.out 3).trans rfl
                have hcz42_4 : w30.cell? ⟨gb132, 4, none⟩ = some (.int .u8 x133004_2) := (blk_cell BK132.out 4).trans rfl
                have hcz42_5 : w30.cell? ⟨gb132, 5, none⟩ = some (.int .u64 x133005_2) := (blk_cell BK132.out 5).trans rfl
                have hcz42_6 : w30.cell? ⟨gb132, 6, none⟩ = some (.int .u64 x133006_2) := (blk_cell BK132.out 6).trans rfl
                have hfz42_0 := blk_frozen BK132.out 0
                have hfz42_1 := blk_frozen BK132.out 1
                have hfz42_2 := blk_frozen BK132.out 2
                have hfz42_3 := blk_frozen BK132.out 3
                have hfz42_4 := blk_frozen BK132.out 4
                have hfz42_5 := blk_frozen BK132.out 5
                have hfz42_6 := blk_frozen BK132.out 6
                try go_wp2
                go_roundg k2
                case measure => have := HJ2.out; have := HK2.out; omega
                case rel => exact ⟨(wrap64 (x6_2 + 1)), (t134), (t135), (t136), (t137), (t138), (t139), (t140), (by first | rfl | (simp; done) | (simp [*]; done)), H', ⟨by have := HJ2.out; have := HK2.out; omega⟩, ⟨by (with_reducible repeat (first | refine blk_drewN ?_ _ | refine blk_drew ?_ | refine blk_alloc ?_ _)); refine blk_far ?_ NB126_132.out _; (with_reducible repeat (first | refine blk_drewN ?_ _ | refine blk_drew ?_ | refine blk_alloc ?_ _)); refine blk_far ?_ NB126_132.out _; (with_reducible repeat (first | refine blk_drewN ?_ _ | refine blk_drew ?_ | refine blk_alloc ?_ _)); refine blk_far ?_ NB126_132.out _; (with_reducible repeat (first | refine blk_drewN ?_ _ | refine blk_drew ?_ | refine blk_alloc ?_ _)); refine blk_far ?_ NB126_132.out _; (with_reducible repeat (first | refine blk_drewN ?_ _ | refine blk_drew ?_ | refine blk_alloc ?_ _)); refine blk_far ?_ NB126_132.out _; (with_reducible repeat (first | refine blk_drewN ?_ _ | refine blk_drew ?_ | refine blk_alloc ?_ _)); refine blk_far ?_ NB126_132.out _; (with_reducible repeat (first | refine blk_drewN ?_ _ | refine blk_drew ?_ | refine blk_alloc ?_ _)); refine blk_far ?_ NB126_132.out _; (with_reducible repeat (first | refine blk_drewN ?_ _ | refine blk_drew ?_ | refine blk_alloc ?_ _)); refine blk_far ?_ NB126_142.out _; (with_reducible repeat (first | refine blk_drewN ?_ _ | refine blk_drew ?_ | refine blk_alloc ?_ _)); refine blk_far ?_ NB126_142.out _; (with_reducible repeat (first | refine blk_drewN ?_ _ | refine blk_drew ?_ | refine blk_alloc ?_ _)); refine blk_far ?_ NB126_142.out _; (with_reducible repeat (first | refine blk_drewN ?_ _ | refine blk_drew ?_ | refine blk_alloc ?_ _)); refine blk_far ?_ NB126_142.out _; (with_reducible repeat (first | refine blk_drewN ?_ _ | refine blk_drew ?_ | refine blk_alloc ?_ _)); refine blk_far ?_ NB126_142.out _; (with_reducible repeat (first | refine blk_drewN ?_ _ | refine blk_drew ?_ | refine blk_alloc ?_ _)); refine blk_far ?_ NB126_142.out _; (with_reducible repeat (first | refine blk_drewN ?_ _ | refine blk_drew ?_ | refine blk_alloc ?_ _)); refine blk_far ?_ NB126_142.out _; (with_reducible repeat (first | refine blk_drewN ?_ _ | refine blk_drew ?_ | refine blk_alloc ?_ _)); exact BK126.out⟩, ⟨by (with_reducible repeat (first | refine blk_drewN ?_ _ | refine blk_drew ?_ | refine blk_alloc ?_ _)); refine blk_put (cs := #[.int .u8 t134, .int .i64 t135, .int .i64 t136, .int .i64 t137, .int .u8 t138, .int .u64 t139, .int .u64 x133006_2]) ?_ 6 _ rfl; (with_reducible repeat (first | refine blk_drewN ?_ _ | refine blk_drew ?_ | refine blk_alloc ?_ _)); refine blk_put (cs := #[.int .u8 t134, .int .i64 t135, .int .i64 t136, .int .i64 t137, .int .u8 t138, .int .u64 x133005_2, .int .u64 x133006_2]) ?_ 5 _ rfl; (with_reducible repeat (first | refine blk_drewN ?_ _ | refine blk_drew ?_ | refine blk_alloc ?_ _)); refine blk_put (cs := #[.int .u8 t134, .int .i64 t135, .int .i64 t136, .int .i64 t137, .int .u8 x133004_2, .int .u64 x133005_2, .int .u64 x133006_2]) ?_ 4 _ rfl; (with_reducible repeat (first | refine blk_drewN ?_ _ | refine blk_drew ?_ | refine blk_alloc ?_ _)); refine blk_put (cs := #[.int .u8 t134, .int .i64 t135, .int .i64 t136, .int .i64 x133003_2, .int .u8 x133004_2, .int .u64 x133005_2, .int .u64 x133006_2]) ?_ 3 _ rfl; (with_reducible repeat (first | refine blk_drewN ?_ _ | refine blk_drew ?_ | refine blk_alloc ?_ _)); refine blk_put (cs := #[.int .u8 t134, .int .i64 t135, .int .i64 x133002_2, .int .i64 x133003_2, .int .u8 x133004_2, .int .u64 x133005_2, .int .u64 x133006_2]) ?_ 2 _ rfl; (with_reducible repeat (first | refine blk_drewN ?_ _ | refine blk_drew ?_ | refine blk_alloc ?_ _)); refine blk_put (cs := #[.int .u8 t134, .int .i64 x133001_2, .int .i64 x133002_2, .int .i64 x133003_2, .int .u8 x133004_2, .int .u64 x133005_2, .int .u64 x133006_2]) ?_ 1 _ rfl; (with_reducible repeat (first | refine blk_drewN ?_ _ | refine blk_drew ?_ | refine blk_alloc ?_ _)); refine blk_put (cs := #[.int .u8 x133000_2, .int .i64 x133001_2, .int .i64 x133002_2, .int .i64 x133003_2, .int .u8 x133004_2, .int .u64 x133005_2, .int .u64 x133006_2]) ?_ 0 _ rfl; (with_reducible repeat (first | refine blk_drewN ?_ _ | refine blk_drew ?_ | refine blk_alloc ?_ _)); refine blk_far ?_ NB132_142.out _; (with_reducible repeat (first | refine blk_drewN ?_ _ | refine blk_drew ?_ | refine blk_alloc ?_ _)); refine blk_far ?_ NB132_142.out _; (with_reducible repeat (first | refine blk_drewN ?_ _ | refine blk_drew ?_ | refine blk_alloc ?_ _)); refine blk_far ?_ NB132_142.out _; (with_reducible repeat (first | refine blk_drewN ?_ _ | refine blk_drew ?_ | refine blk_alloc ?_ _)); refine blk_far ?_ NB132_142.out _; (with_reducible repeat (first | refine blk_drewN ?_ _ | refine blk_drew ?_ | refine blk_alloc ?_ _)); refine blk_far ?_ NB132_142.out _; (with_reducible repeat (first | refine blk_drewN ?_ _ | refine blk_drew ?_ | refine blk_alloc ?_ _)); refine blk_far ?_ NB132_142.out _; (with_reducible repeat (first | refine blk_drewN ?_ _ | refine blk_drew ?_ | refine blk_alloc ?_ _)); refine blk_far ?_ NB132_142.out _; (with_reducible repeat (first | refine blk_drewN ?_ _ | refine blk_drew ?_ | refine blk_alloc ?_ _)); exact BK132.out⟩, ⟨by repeat (first | (with_reducible first | exact HB.out | apply below_alloc | apply pw_below_drewN | apply below_drew1 | refine below_set ?_ GE126.out | refine below_set ?_ GE132.out | refine below_set ?_ GE142.out) | exact HB.out)⟩⟩
              · rw [if_neg c21] at H
                exact absurd H (by simp)
            · rw [if_neg c20] at H
              have c20b0 : decide (x6_2 < (t127.size : Int)) = false := decide_eq_false c20
              clear c20
              by_cases c43 : (!(x133000_2 == a0_0) || (!(x133001_2 == a0_1) || (!(x133002_2 == a0_2) || (!(x133003_2 == a0_3) || (!(x133004_2 == a0_4) || (!(x133005_2 == a0_5) || (!(x133006_2 == a0_6)))))))) = true
              · rw [if_pos c43] at H
                have c43b0 : (!(x133000_2 == a0_0) || (!(x133001_2 == a0_1) || (!(x133002_2 == a0_2) || (!(x133003_2 == a0_3) || (!(x133004_2 == a0_4) || (!(x133005_2 == a0_5) || (!(x133006_2 == a0_6)))))))) = true := c43
                clear c43
                obtain rfl := Option.some.inj H
                have hnb44 := NB132_126.out
                have hnc44 := NB126_132.out
                have hcz45_0 : wr.cell? ⟨gb132, 0, none⟩ = some (.int .u8 x133000_2) := (blk_cell BK132.out 0).trans rfl
                have hcz45_1 : wr.cell? ⟨gb132, 1, none⟩ = some (.int .i64 x133001_2) := (blk_cell BK132.out 1).trans rfl
                have hcz45_2 : wr.cell? ⟨gb132, 2, none⟩ = some (.int .i64 x133002_2) := (blk_cell BK132.out 2).trans rfl
                have hcz45_3 : wr.cell? ⟨gb132, 3, none⟩ = some (.int .i64 x133003_2) := (blk_cell BK132.out 3).trans rfl
                have hcz45_4 : wr.cell? ⟨gb132, 4, none⟩ = some (.int .u8 x133004_2) := (blk_cell BK132.out 4).trans rfl
                have hcz45_5 : wr.cell? ⟨gb132, 5, none⟩ = some (.int .u64 x133005_2) := (blk_cell BK132.out 5).trans rfl
                have hcz45_6 : wr.cell? ⟨gb132, 6, none⟩ = some (.int .u64 x133006_2) := (blk_cell BK132.out 6).trans rfl
                have hfz45_0 := blk_frozen BK132.out 0
                have hfz45_1 := blk_frozen BK132.out 1
                have hfz45_2 := blk_frozen BK132.out 2
                have hfz45_3 := blk_frozen BK132.out 3
                have hfz45_4 := blk_frozen BK132.out 4
                have hfz45_5 := blk_frozen BK132.out 5
                have hfz45_6 := blk_frozen BK132.out 6
                have hcz46_0 : wr.cell? ⟨gb126, 0, none⟩ = some (.int .u8 a0_0) := (blk_cell BK126.out 0).trans rfl
                have hcz46_1 : wr.cell? ⟨gb126, 1, none⟩ = some (.int .i64 a0_1) := (blk_cell BK126.out 1).trans rfl
                have hcz46_2 : wr.cell? ⟨gb126, 2, none⟩ = some (.int .i64 a0_2) := (blk_cell BK126.out 2).trans rfl
                have hcz46_3 : wr.cell? ⟨gb126, 3, none⟩ = some (.int .i64 a0_3) := (blk_cell BK126.out 3).trans rfl
                have hcz46_4 : wr.cell? ⟨gb126, 4, none⟩ = some (.int .u8 a0_4) := (blk_cell BK126.out 4).trans rfl
                have hcz46_5 : wr.cell? ⟨gb126, 5, none⟩ = some (.int .u64 a0_5) := (blk_cell BK126.out 5).trans rfl
                have hcz46_6 : wr.cell? ⟨gb126, 6, none⟩ = some (.int .u64 a0_6) := (blk_cell BK126.out 6).trans rfl
                have hfz46_0 := blk_frozen BK126.out 0
                have hfz46_1 := blk_frozen BK126.out 1
                have hfz46_2 := blk_frozen BK126.out 2
                have hfz46_3 := blk_frozen BK126.out 3
                have hfz46_4 := blk_frozen BK126.out 4
                have hfz46_5 := blk_frozen BK126.out 5
                have hfz46_6 := blk_frozen BK126.out 6
                go_wp2
                go_ret
                exact ⟨by first | rfl | (simp [errW_none, errW_some] <;> rfl) | (simp [*, errW_none, errW_some] <;> rfl), by repeat (first | (with_reducible first | exact HB.out | apply below_alloc | apply pw_below_drewN | apply below_drew1 | refine below_set ?_ GE126.out | refine below_set ?_ GE132.out) | exact HB.out)⟩
              · rw [if_neg c43] at H
                have c43b0 : (!(x133000_2 == a0_0) || (!(x133001_2 == a0_1) || (!(x133002_2 == a0_2) || (!(x133003_2 == a0_3) || (!(x133004_2 == a0_4) || (!(x133005_2 == a0_5) || (!(x133006_2 == a0_6)))))))) = false := by simpa using c43
                clear c43
                obtain rfl := Option.some.inj H
                have hnb47 := NB132_126.out
                have hnc47 := NB126_132.out
                have hcz48_0 : wr.cell? ⟨gb132, 0, none⟩ = some (.int .u8 x133000_2) := (blk_cell BK132.out 0).trans rfl
                have hcz48_1 : wr.cell? ⟨gb132, 1, none⟩ = some (.int .i64 x133001_2) := (blk_cell BK132.out 1).trans rfl
                have hcz48_2 : wr.cell? ⟨gb132, 2, none⟩ = some (.int .i64 x133002_2) := (blk_cell BK132.out 2).trans rfl
                have hcz48_3 : wr.cell? ⟨gb132, 3, none⟩ = some (.int .i64 x133003_2) := (blk_cell BK132.out 3).trans rfl
                have hcz48_4 : wr.cell? ⟨gb132, 4, none⟩ = some (.int .u8 x133004_2) := (blk_cell BK132.out 4).trans rfl
                have hcz48_5 : wr.cell? ⟨gb132, 5, none⟩ = some (.int .u64 x133005_2) := (blk_cell BK132.out 5).trans rfl
                have hcz48_6 : wr.cell? ⟨gb132, 6, none⟩ = some (.int .u64 x133006_2) := (blk_cell BK132.out 6).trans rfl
                have hfz48_0 := blk_frozen BK132.out 0
                have hfz48_1 := blk_frozen BK132.out 1
                have hfz48_2 := blk_frozen BK132.out 2
                have hfz48_3 := blk_frozen BK132.out 3
                have hfz48_4 := blk_frozen BK132.out 4
                have hfz48_5 := blk_frozen BK132.out 5
                have hfz48_6 := blk_frozen BK132.out 6
                have hcz49_0 : wr.cell? ⟨gb126, 0, none⟩ = some (.int .u8 a0_0) := (blk_cell BK126.out 0).trans rfl
                have hcz49_1 : wr.cell? ⟨gb126, 1, none⟩ = some (.int .i64 a0_1) := (blk_cell BK126.out 1).trans rfl
                have hcz49_2 : wr.cell? ⟨gb126, 2, none⟩ = some (.int .i64 a0_2) := (blk_cell BK126.out 2).trans rfl
                have hcz49_3 : wr.cell? ⟨gb126, 3, none⟩ = some (.int .i64 a0_3) := (blk_cell BK126.out 3).trans rfl
                have hcz49_4 : wr.cell? ⟨gb126, 4, none⟩ = some (.int .u8 a0_4) := (blk_cell BK126.out 4).trans rfl
                have hcz49_5 : wr.cell? ⟨gb126, 5, none⟩ = some (.int .u64 a0_5) := (blk_cell BK126.out 5).trans rfl
                have hcz49_6 : wr.cell? ⟨gb126, 6, none⟩ = some (.int .u64 a0_6) := (blk_cell BK126.out 6).trans rfl
                have hfz49_0 := blk_frozen BK126.out 0
                have hfz49_1 := blk_frozen BK126.out 1
                have hfz49_2 := blk_frozen BK126.out 2
                have hfz49_3 := blk_frozen BK126.out 3
                have hfz49_4 := blk_frozen BK126.out 4
                have hfz49_5 := blk_frozen BK126.out 5
                have hfz49_6 := blk_frozen BK126.out 6
                go_wp2
                go_ret
                exact ⟨by first | rfl | (simp [errW_none, errW_some] <;> rfl) | (simp [*, errW_none, errW_some] <;> rfl), by repeat (first | (with_reducible first | exact HB.out | apply below_alloc | apply pw_below_drewN | apply below_drew1 | refine below_set ?_ GE126.out | refine below_set ?_ GE132.out) | exact HB.out)⟩

end Go.Proofs.Ytklnenaiolclaaa.H
