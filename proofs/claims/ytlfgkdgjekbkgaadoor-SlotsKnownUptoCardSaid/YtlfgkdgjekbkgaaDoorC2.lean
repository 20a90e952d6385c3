/- The area of slots in memory; TrailingZeros64, OnesCount64, there, Free. -/
import Derived.Test.YtlfgkdgjekbkgaaDoorHx1
import Derived.Test.YtlfgkdgjekbkgaaDoorC1
import Derived.Laws.Cover3
namespace Go.Proofs.YtlfgkdgjekbkgaaDoor.H
open Go.RowKit Go.Proofs.YtlfgkdgjekbkgaaDoorW.PrintWords Go.Proofs.YtlfgkdgjekbkgaaDoorW.PrintLast Go.Proofs.YtlfgkdgjekbkgaaDoorW.PrintMore
set_option linter.unusedVariables false
set_option linter.unusedSimpArgs false
set_option maxHeartbeats 8000000
set_option maxRecDepth 100000
def Hold (p : Prop) : Prop := p
theorem Hold.of {p : Prop} (h : Hold p) : p := h
def Bl (w : World) (g : Nat) (t : TypeId) (cs : Array Value) : Prop := w.heap[g]? = some (.cells cs t (0, 0))
theorem Bl.later {w w' : World} {g : Nat} {t : TypeId} {cs : Array Value} (h : Bl w g t cs) (hb : Below w.heap.size w w') : Bl w' g t cs := blk_grown h (grown_of_below hb none) (by simp)
theorem Bl.free {w : World} {g : Nat} {t : TypeId} {cs : Array Value} (h : Bl w g t cs) : ∀ i, w.frozen? ⟨g, i, none⟩ = false := fun i => blk_frozen h i
/-- The table of the library's, as it was laid. -/
def Tb (w : World) : Prop := ∀ j, j < 64 → w.cell? ⟨0, j, none⟩ = some (.int .u8 (Lib.deBruijn64tab.getD j 0 : Nat))
theorem Tb.move {w w' : World} (h : Tb w) (hm : w'.heap[0]? = w.heap[0]?) : Tb w' := fun j hj => by
  have := h j hj
  rw [World.cell?_of_block (w := w) (a := ⟨0, j, none⟩) hm]; exact this
theorem Tb.pos {w : World} (h : Tb w) : 0 < w.heap.size := by
  have := h 0 (by decide)
  apply Nat.pos_of_ne_zero
  intro e
  have hn : w.heap[0]? = none := by simp [e]
  simp [World.cell?, hn] at this
theorem Tb.later {w w' : World} (h : Tb w) (hb : Below w.heap.size w w') : Tb w' := h.move (hb.block 0 h.pos)
/-- The values of the words. -/
def wv (T : List Bool) : List Value := (List.range (T.length / 64 + 1)).map (fun i => Value.int .u64 (wd T i : Nat))
theorem wv_get (T : List Bool) (i : Nat) (h : i < T.length / 64 + 1) : (wv T)[i]? = some (.int .u64 (wd T i : Nat)) := by
  unfold wv; simp [h]
theorem wv_len (T : List Bool) : (wv T).length = T.length / 64 + 1 := by simp [wv]
theorem wv_put (T : List Bool) (k : Nat) (h : k < T.length) : wv (T.set k true) = (wv T).set (k / 64) (.int .u64 (wd T (k / 64) ||| 2 ^ (k % 64) : Nat)) := by
  apply List.ext_getElem?
  intro i
  by_cases hi : i < T.length / 64 + 1
  · rw [wv_get _ _ (by simpa using hi), wd_put T k i h, List.getElem?_set]
    by_cases e : k / 64 = i
    · subst e
      rw [if_pos rfl, if_pos rfl, if_pos (by rw [wv_len]; exact hi)]
    · rw [if_neg (fun h => e h.symm), if_neg e, wv_get _ _ hi]
  · rw [List.getElem?_eq_none (by rw [wv_len]; simp; omega), List.getElem?_eq_none (by rw [List.length_set, wv_len]; omega)]
theorem wv_off (T : List Bool) (k : Nat) (h : k < T.length) : wv (T.set k false) = (wv T).set (k / 64) (.int .u64 (wd T (k / 64) &&& (18446744073709551615 - 2 ^ (k % 64)) : Nat)) := by
  apply List.ext_getElem?
  intro i
  by_cases hi : i < T.length / 64 + 1
  · rw [wv_get _ _ (by simpa using hi), wd_off T k i h, List.getElem?_set]
    by_cases e : k / 64 = i
    · subst e
      rw [if_pos rfl, if_pos rfl, if_pos (by rw [wv_len]; exact hi)]
    · rw [if_neg (fun h => e h.symm), if_neg e, wv_get _ _ hi]
  · rw [List.getElem?_eq_none (by rw [wv_len]; simp; omega), List.getElem?_eq_none (by rw [List.length_set, wv_len]; omega)]
def Foot (c b k : Nat) : Prop := k = c ∨ k = b
/-- An area that New made: its box c, its words b, what is taken T. -/
structure SP (w : World) (base c b : Nat) (T : List Bool) : Prop where
  hc : Bl w c 46 #[.int .i64 T.length, .slice (some ⟨b, 0, none⟩) (T.length / 64 + 1) (T.length / 64 + 1)]
  hb : Bl w b 50 (wv T).toArray
  tab : Tb w
  pos : 0 < base
  bc : base ≤ c
  bb : base ≤ b
  small : T.length ≤ 1024
theorem SP.lt {w : World} {base c b : Nat} {T : List Bool} (h : SP w base c b T) {k : Nat} (hk : Foot c b k) : base ≤ k ∧ k < w.heap.size := by
  rcases hk with rfl | rfl
  · exact ⟨h.bc, blk_lt h.hc⟩
  · exact ⟨h.bb, blk_lt h.hb⟩
theorem SP.move {w w' : World} {base c b : Nat} {T : List Bool} (h : SP w base c b T) (h0 : w'.heap[0]? = w.heap[0]?) (hm : ∀ k, Foot c b k → w'.heap[k]? = w.heap[k]?) : SP w' base c b T :=
  ⟨(hm c (.inl rfl)).trans h.hc, (hm b (.inr rfl)).trans h.hb, h.tab.move h0, h.pos, h.bc, h.bb, h.small⟩
theorem SP.later {w w' : World} {base c b : Nat} {T : List Bool} (h : SP w base c b T) (hb : Below w.heap.size w w') : SP w' base c b T :=
  h.move (hb.block 0 h.tab.pos) (fun k hk => hb.block k (h.lt hk).2)
theorem SP.kept {w w' : World} {S : Nat → Prop} {base c b : Nat} {T : List Bool} (h : SP w base c b T) (hb : Kept w w' S) (h0 : ¬ S 0) (hd : ∀ k, Foot c b k → ¬ S k) : SP w' base c b T :=
  h.move (hb.2 0 h.tab.pos h0) (fun k hk => hb.2 k (h.lt hk).2 (hd k hk))
theorem SP.word {w : World} {base c b : Nat} {T : List Bool} (h : SP w base c b T) {i : Nat} (hi : i < T.length / 64 + 1) : w.cell? ⟨b, i, none⟩ = some (.int .u64 (wd T i : Nat)) := by
  refine (blk_cell h.hb i).trans ?_
  have := wv_get T i hi
  simpa using this
theorem SP.ne {w : World} {base c b : Nat} {T : List Bool} (h : SP w base c b T) : c ≠ b := by
  intro e
  have h1 := h.hc
  rw [e] at h1
  have h2 := h.hb
  unfold Bl at h1 h2
  rw [h1] at h2
  simp at h2
/-- A word was written. -/
theorem SP.wrote {w : World} {base c b : Nat} {T : List Bool} (h : SP w base c b T) (i : Nat) (v : Value) (T' : List Bool) (hl : T'.length = T.length) (hv : wv T' = (wv T).set i v) :
    SP (w.setCell ⟨b, i, none⟩ v) base c b T' ∧ Kept w (w.setCell ⟨b, i, none⟩ v) (Foot c b) ∧ Below base w (w.setCell ⟨b, i, none⟩ v) := by
  have hb0 : b ≠ 0 := by have := h.bb; have := h.pos; omega
  have hsz : (w.setCell ⟨b, i, none⟩ v).heap.size = w.heap.size := by simp [World.setCell]
  refine ⟨⟨?_, ?_, h.tab.move (Below.heap_setCell w ⟨b, i, none⟩ v 0 (Ne.symm hb0)), h.pos, h.bc, h.bb, by rw [hl]; exact h.small⟩, ⟨by rw [hsz]; exact Nat.le_refl _, fun k hk hn => Below.heap_setCell w ⟨b, i, none⟩ v k (fun e => hn (.inr e))⟩, ⟨rfl, rfl, rfl, by rw [hsz]; exact Nat.le_refl _, fun k hk => Below.heap_setCell w ⟨b, i, none⟩ v k (by have := h.bb; show k ≠ b; omega)⟩⟩
  · rw [hl]
    exact (Below.heap_setCell w ⟨b, i, none⟩ v c h.ne).trans h.hc
  · have := blk_set h.hb i v
    rw [hv]
    have e : ((wv T).set i v).toArray = (wv T).toArray.setIfInBounds i v := by simp
    rw [e]
    exact this
theorem tz_key (x a : Nat) (hx : x < 18446744073709551616) (hx0 : x ≠ 0) (hlow : x &&& (18446744073709551616 - x) = a) :
    IntKind.u64.wrap (bits BinOp.and IntKind.u64 (x : Int) (IntKind.u64.wrap (-(x : Int))) * 285870213051353865) / 288230376151711744 = ((a * 285870213051353865 % 18446744073709551616 / 288230376151711744 : Nat) : Int) := by
  have e1 : IntKind.u64.wrap (-(x : Int)) = ((18446744073709551616 - x : Nat) : Int) := by rw [IntKind.wrap_u64]; omega
  rw [e1, u64_and_nat x _ hx (by omega), hlow, IntKind.wrap_u64]
  omega
theorem tz_core (x k idx : Nat) (w : World) (hx0 : ((x : Int) == 0) = false)
    (key : IntKind.u64.wrap (bits BinOp.and IntKind.u64 (x : Int) (IntKind.u64.wrap (-(x : Int))) * 285870213051353865) / 288230376151711744 = (idx : Int))
    (hi : idx < 64) (hk : k < 64) (hcell : w.cell? ⟨0, idx, none⟩ = some (.int .u8 k)) :
    Calls Tryd.prog 21 #[.int .u64 x] w fun e w' => e = .returned (.int .i64 k) ∧ w' = w := by
  go_enter Tryd.func21, Tryd.ntmps21
  go_wp2_with (simp only [key])
  go_ret
  exact ⟨rfl, rfl⟩
theorem tz_any (x : Nat) (hx : x < 18446744073709551616) (w : World) (hT : Tb w) :
    Calls Tryd.prog 21 #[.int .u64 x] w fun e w' => e = .returned (.int .i64 (Lib.ctz 64 x : Nat)) ∧ w' = w := by
  by_cases hx0 : x = 0
  · subst hx0
    rw [ctz_zero]
    go_enter Tryd.func21, Tryd.ntmps21
    go_wp2
    go_ret
    exact ⟨rfl, rfl⟩
  · obtain ⟨hlow, hk⟩ := Lib.lowest_bit 64 x hx0 hx
    obtain ⟨hi, htab⟩ := Lib.deBruijn64_at _ hk
    have hcell := hT _ hi
    rw [htab] at hcell
    exact tz_core x _ _ w (by simp; omega) (tz_key x _ hx hx0 hlow) hi hk hcell
theorem u64_in {x : Int} (h0 : 0 ≤ x) (h1 : x < 18446744073709551616) : IntKind.u64.wrap x = x := by rw [IntKind.wrap_u64]; omega
theorem u64_inN (x : Nat) (h1 : x < 18446744073709551616) : IntKind.u64.wrap (x : Int) = (x : Int) := u64_in (by omega) (by omega)
theorem div_nat (x d : Nat) : ((x : Int) / (d : Int)) = ((x / d : Nat) : Int) := by simp
theorem add_nat (x y : Nat) : ((x : Int) + (y : Int)) = ((x + y : Nat) : Int) := by simp
theorem i64_and127 (x : Nat) (h : x < 9223372036854775808) : bits .and .i64 (x : Int) 127 = ((x % 128 : Nat) : Int) := by
  have := (bits_nat .i64 63 (by decide) (fun n h0 h1 => IntWalk.i64_in _ (by omega)) x 127 (by simpa using h) (by decide)).1
  have e : ((127 : Nat) : Int) = 127 := rfl
  rw [e] at this
  rw [this, show x &&& 127 = x % 128 from Nat.and_two_pow_sub_one_eq_mod x 7]
theorem wrap64_nat (d : Nat) (h : d < 9223372036854775808) : wrap64 (d : Int) = (d : Int) := by unfold wrap64; omega
theorem ones_is (x : Nat) (hx : x < 18446744073709551616) : bits_OnesCount64.f (x : Int) = some (pcb x 64 : Nat) := by
  obtain ⟨y1, y2, y3, h1, l1, h2, l2, l3, h3, l4, l5, l6, l7, h4⟩ := ones_nat x hx
  unfold bits_OnesCount64.f
  congr 1
  have c2 : ((2 : Nat) : Int) = 2 := rfl
  have c4 : ((4 : Nat) : Int) = 4 := rfl
  have c16 : ((16 : Nat) : Int) = 16 := rfl
  have c256 : ((256 : Nat) : Int) = 256 := rfl
  have c64k : ((65536 : Nat) : Int) = 65536 := rfl
  have c4g : ((4294967296 : Nat) : Int) = 4294967296 := rfl
  have m1 : ((6148914691236517205 : Nat) : Int) = 6148914691236517205 := rfl
  have m2 : ((3689348814741910323 : Nat) : Int) = 3689348814741910323 := rfl
  have m3 : ((1085102592571150095 : Nat) : Int) = 1085102592571150095 := rfl
  simp only [← c2, ← c4, ← c16, ← c256, ← c64k, ← c4g, ← m1, ← m2, ← m3]
  have k1 : x / 2 < 18446744073709551616 := Nat.lt_of_le_of_lt (Nat.div_le_self _ _) hx
  rw [div_nat x, u64_and_nat _ _ k1 (by decide), u64_and_nat _ _ hx (by decide), add_nat, h1, u64_inN _ l1]
  have k2 : y1 / 4 < 18446744073709551616 := Nat.lt_of_le_of_lt (Nat.div_le_self _ _) l1
  rw [div_nat y1, u64_and_nat _ _ k2 (by decide), u64_and_nat _ _ l1 (by decide), add_nat, h2, u64_inN _ (Nat.lt_trans l2 (by decide))]
  rw [div_nat y2, add_nat, u64_inN _ l3, u64_and_nat _ _ l3 (by decide), h3]
  rw [div_nat y3, add_nat, u64_inN _ (Nat.lt_trans l5 (by decide))]
  generalize y3 + y3 / 256 = a at l5 l6 l7 h4
  rw [div_nat a, add_nat, u64_inN _ (Nat.lt_trans l6 (by decide))]
  generalize a + a / 65536 = b at l6 l7 h4
  rw [div_nat b, add_nat, u64_inN _ (Nat.lt_trans l7 (by decide))]
  generalize b + b / 4294967296 = d at l7 h4
  have hd63 : d < 9223372036854775808 := Nat.lt_trans l7 (by decide)
  rw [wrap64_nat d hd63, i64_and127 d hd63, h4]
theorem ones_any (x : Nat) (hx : x < 18446744073709551616) (w : World) :
    Calls Tryd.prog 22 #[.int .u64 x] w fun e w' => e = .returned (.int .i64 (pcb x 64 : Nat)) ∧ Drawn0 w w' := bits_OnesCount64.calls _ _ w (ones_is x hx)
theorem drawn_tr {a b c : World} (h : Drawn0 a b) (k : Drawn0 b c) : Drawn0 a c := by
  obtain ⟨n, rfl⟩ := k.out
  exact h.step n
theorem there_is (w : World) (base c b : Nat) (T : List Bool) (h : SP w base c b T) :
    Calls Tryd.prog 20 #[.pointer (some ⟨c, 0, none⟩)] w fun e w' => e = .returned (.bool true) ∧ Drawn0 w w' := by
  have hc1 : w.cell? ⟨c, 1, none⟩ = some (.slice (some ⟨b, 0, none⟩) (T.length / 64 + 1) (T.length / 64 + 1)) := blk_cell h.hc 1
  generalize T.length / 64 + 1 = m at hc1
  clear h
  go_enter Tryd.func20, Tryd.ntmps20
  go_wp2_with fail
  go_ret
  exact ⟨rfl, Drawn0.refl _⟩
theorem free_any (w : World) (base c b : Nat) (T : List Bool) (h : SP w base c b T) :
    Calls Tryd.prog 13 #[.pointer (some ⟨c, 0, none⟩)] w fun e w' => e = .returned (.int .i64 (T.length - (U T T.length).length : Int)) ∧ Drawn0 w w' := by
  have HS := Aside0.mk h
  have hn := h.small
  have HX := Aside0.mk (fun i => U_mono T (j := 64 * i) (k := 64 * (T.length / 64 + 1)))
  have HW := Aside0.mk (fun i => U_word T i)
  have HA := Aside0.mk (U_all T (64 * (T.length / 64 + 1)) (by omega))
  have HU := Aside0.mk (U_len T T.length)
  have HZ : Aside0 ((U T (64 * 0)).length = 0) := ⟨rfl⟩
  obtain ⟨m, hm⟩ : ∃ m, m = T.length / 64 + 1 := ⟨_, rfl⟩
  have hm17 : m ≤ 17 := by omega
  clear h
  rw [← hm] at HX HA
  go_enter Tryd.func13, Tryd.ntmps13
  go_wp2_with fail
  refine (there_is _ _ _ _ _ HS.out).mono ?_
  rintro e w1 ⟨rfl, hd⟩
  have HS1 := Aside0.mk (HS.out.later hd.below)
  have HD := Aside0.mk hd
  have hc0 : w1.cell? ⟨c, 0, none⟩ = some (.int .i64 T.length) := blk_cell HS1.out.hc 0
  have hc1 : w1.cell? ⟨c, 1, none⟩ = some (.slice (some ⟨b, 0, none⟩) m m) := by rw [hm]; exact blk_cell HS1.out.hc 1
  clear hd
  go_wp2_with fail
  clear hc0 hc1
  go_loopw [3, 18] (fun v3 v18 wr => ∃ i : Nat, i ≤ m ∧ v18 = .int .i64 i ∧ v3 = .int .i64 (T.length - (U T (64 * i)).length : Int) ∧ Aside0 (Drawn0 w wr)) (fun _ v18 _ => m - (intOf v18).toNat)
  case atStart => exact ⟨0, by omega, rfl, by rw [HZ.out]; go_num, HD⟩
  case round =>
    clear HD
    obtain ⟨i, hi, rfl, rfl, hD⟩ := hrel
    by_cases hlt : i < m
    · have hx := wd_lt T i
      have hw := pw_cell_below hD.out.below (HS.out.word (i := i) (by omega))
      have hwi := HW.out i
      have hmn := HX.out (i + 1) (by omega)
      have hmi := HX.out i (by omega)
      have hal := congrArg List.length HA.out
      have hul := HU.out
      generalize wd T i = x at hw hwi hx
      have hs : IntKind.i64.wrap ((T.length - (U T (64 * i)).length : Int) - (pcb x 64 : Nat)) = (T.length - (U T (64 * (i + 1))).length : Int) := by
        rw [hwi]
        rw [hwi] at hmn
        generalize (U T (64 * i)).length = p at hmn hmi
        generalize pcb x 64 = q at hmn
        rw [hal] at hmn
        have e : ((T.length : Int) - (p : Int)) - (q : Int) = (T.length : Int) - ((p + q : Nat) : Int) := by omega
        rw [e]
        exact IntWalk.i64_in _ (by omega)
      clear hwi hmn hmi hal hul
      go_wp2_with fail
      refine (ones_any x hx _).mono ?_
      rintro e w2 ⟨rfl, hd⟩
      have HD2 : Aside0 (Drawn0 w w2) := ⟨drawn_tr hD.out hd⟩
      clear hd hD hw
      go_wp2_with fail
      go_roundw
      case rel => exact ⟨i + 1, by omega, by go_num, by first | rfl | go_num, HD2⟩
      case measure => simp [intOf]; omega
    · have him : i = m := by omega
      subst him
      rw [HA.out]
      go_wp2_with fail
      go_ret
      exact ⟨rfl, hD.out⟩
end Go.Proofs.YtlfgkdgjekbkgaaDoor.H
