/- Contract of colour.Frames: the frames whose colour is in the list, if the list rises and may be. -/
import Derived.Test.YtkihoeacojcdlaaC1
namespace Go.Proofs.Ytkihoeacojcdlaa.H
open Go.RowKit Go.Proofs.YtkihoeacojcdlaaW.PrintWords Go.Proofs.YtkihoeacojcdlaaW.PrintLast Go.Proofs.YtkihoeacojcdlaaW.PrintMore
set_option linter.unusedVariables false
set_option linter.unusedSimpArgs false
theorem myInfo3 : (Try.prog.info? 3).map (fun i => (i.zero, i.size, i.bytes)) = some (some (.int .i64 0), 1, 8) := by kernel_rfl
set_option maxHeartbeats 4000000 in
set_option maxRecDepth 100000 in
theorem frames_no (m n : Int) (A : Option Addr) (c : Nat) (l : List Int) (w : World) (hb : ¬ (1 ≤ m ∧ m ≤ 4096 ∧ 1 ≤ n ∧ n ≤ 16)) :
    Calls Try.prog 20 #[.int .i64 m, .int .i64 n, .slice A l.length c] w fun e w' => e = .returned (.tuple #[.slice none 0 0, .int .i64 2]) ∧ Below w.heap.size w w' := by
  by_cases h1 : 1 ≤ m
  · by_cases h2 : m ≤ 4096
    · by_cases h3 : 1 ≤ n
      · have h4 : ¬ n ≤ 16 := by omega
        clear hb
        go_enter Try.func20, Try.ntmps20
        go_wp2
        go_ret2
        exact ⟨rfl, Below.refl _ _⟩
      · clear hb
        go_enter Try.func20, Try.ntmps20
        go_wp2
        go_ret2
        exact ⟨rfl, Below.refl _ _⟩
    · clear hb
      go_enter Try.func20, Try.ntmps20
      go_wp2
      go_ret2
      exact ⟨rfl, Below.refl _ _⟩
  · clear hb
    go_enter Try.func20, Try.ntmps20
    go_wp2
    go_ret2
    exact ⟨rfl, Below.refl _ _⟩
theorem within_yes (a b c : Int) (w : World) (h1 : b ≤ a) (h2 : a ≤ c) : Calls Try.prog 27 #[.int .i64 a, .int .i64 b, .int .i64 c] w fun e w' => e = .returned (.bool true) ∧ w = w' := by
  go_enter Try.func27, Try.ntmps27
  go_wp2
  go_ret
  exact ⟨rfl, rfl⟩
theorem may_yes (a : Int) (w : World) (h1 : 1 ≤ a) (h2 : a ≤ 16) : Calls Try.prog 25 #[.int .i64 a] w fun e w' => e = .returned (.bool true) ∧ w = w' := by
  go_enter Try.func25, Try.ntmps25
  go_wp2_with (go_at_call 27; refine (within_yes _ _ _ _ h1 h2).mono ?_; rintro e w' ⟨rfl, rfl⟩)
  go_ret
  exact ⟨rfl, rfl⟩
theorem ret_two' {v : Value} {c d : Int} (h : c = d) : Ending.returned (.tuple #[v, .int .i64 c]) = .returned (.tuple #[v, .int .i64 d]) := by rw [h]
/-- What the call answers: the list, and the error. -/
def Fr (m n : Int) (l : List Int) (v : Value) (w w' : World) (e : Ending) : Prop :=
  e = .returned (.tuple #[v, .int .i64 (if good n (-1) l = true then 0 else 2)]) ∧ w'.ownsRow w.heap.size 3 1 v (if good n (-1) l = true then fr n l m.toNat else []).length (nums .i64 (if good n (-1) l = true then fr n l m.toNat else [])) ∧ Below w.heap.size w w'
theorem Fr_bad {m n : Int} {l : List Int} {w w' : World} (h : good n (-1) l = false) (hb : Below w.heap.size w w') : Fr m n l (.slice none 0 0) w w' (.returned (.tuple #[.slice none 0 0, .int .i64 2])) := by
  unfold Fr
  rw [h]
  exact ⟨rfl, own_nil _ _ _ _, hb⟩
theorem Fr_good {m n : Int} {l : List Int} {w w' : World} {v : Value} (h : good n (-1) l = true) (ho : w'.ownsRow (w.heap.size + 1) 3 1 v (fr n l m.toNat).length (nums .i64 (fr n l m.toNat))) (hb : Below w.heap.size w w') : Fr m n l v w w' (.returned (.tuple #[v, .int .i64 0])) := by
  unfold Fr
  rw [if_pos h, if_pos h]
  exact ⟨rfl, own_weaken ho (Nat.le_succ _), hb⟩
theorem good_stop {n : Int} {l : List Int} {k : Nat} (hk : k < l.length) (hbad : ¬ (lastOf (-1) (l.take k) < rd l (k : Int) ∧ rd l (k : Int) < n)) : good n (-1) l = false := by
  cases h : good n (-1) l with
  | false => rfl
  | true =>
    have h2 : good n (-1) (l.take (k + 1)) = true := good_mono (l.take (k + 1)) (l.drop (k + 1)) (-1) (by rw [List.take_append_drop]; exact h)
    rw [take_snoc' l k hk, good_snoc] at h2
    exact absurd h2.2 hbad
def FrAny (m n : Int) (l : List Int) (w : World) (e : Ending) (w' : World) : Prop := ∃ v, Fr m n l v w w' e
set_option maxHeartbeats 4000000 in
set_option maxRecDepth 100000 in
theorem frames_yes (m n : Int) (A : Option Addr) (c : Nat) (l : List Int) (w : World) (h1 : 1 ≤ m) (h2 : m ≤ 4096) (h3 : 1 ≤ n) (h4 : n ≤ 16) (hr : Kd.C (Kd.int .i64) w A l.length l) :
    Calls Try.prog 20 #[.int .i64 m, .int .i64 n, .slice A l.length c] w (FrAny m n l w) := by
  have hR := Aside0.mk (Kd.reads_of_C (d := (0 : Int)) hr)
  have hmax : l.length ≤ 9223372036854775807 := (hR.out).2.1
  clear hr
  go_enter Try.func20, Try.ntmps20
  go_wp2_with (first | (go_at_call 27; refine (within_yes _ _ _ _ h1 h2).mono ?_; rintro e w' ⟨rfl, rfl⟩) | (go_at_call 25; refine (may_yes _ _ h3 h4).mono ?_; rintro e w' ⟨rfl, rfl⟩))
  go_loopw [9, 24] (fun v9 v24 wr => ∃ k : Nat, k ≤ l.length ∧ v24 = .int .i64 k ∧ v9 = .int .i64 (lastOf (-1) (l.take k)) ∧ Aside0 (good n (-1) (l.take k) = true) ∧ Aside0 (wr.heap[w.heap.size]? = some (.cells (mineA (l.take k)) 40 (0, 0))) ∧ Aside0 (Below w.heap.size w wr)) (fun _ v24 _ => l.length - (intOf v24).toNat)
  case atStart => exact ⟨0, Nat.zero_le _, rfl, rfl, ⟨rfl⟩, ⟨by rw [List.take_zero, mineA_nil]; exact blk_new w _⟩, ⟨below_alloc (Below.refl _ _) _⟩⟩
  case round =>
    obtain ⟨k, hk, rfl, rfl, hg, hblk, hB⟩ := hrel
    by_cases hlt : k < l.length
    · obtain ⟨ad, rfl, hcell⟩ := (hR.out).2.2 (by omega)
      have hce : wr.cell? (ad.add k) = some (.int .i64 (rd l (k : Int))) := by
        have := pw_cell_below hB.out (hcell k hlt)
        simpa [rd] using this
      clear hcell
      have hlo := good_lo _ _ hg.out
      by_cases ht : lastOf (-1) (l.take k) < rd l (k : Int) ∧ rd l (k : Int) < n
      · obtain ⟨t1, t2⟩ := ht
        have hg' : Aside0 (good n (-1) (l.take (k + 1)) = true) := ⟨by rw [take_snoc' l k hlt, good_snoc]; exact ⟨hg.out, t1, t2⟩⟩
        have hl' : Aside0 (lastOf (-1) (l.take (k + 1)) = rd l (k : Int)) := ⟨by rw [take_snoc' l k hlt, lastOf_snoc]⟩
        have hm' : Aside0 ((mineA (l.take k)).setIfInBounds (rd l (k : Int)).toNat (.bool true) = mineA (l.take (k + 1))) := ⟨by rw [take_snoc' l k hlt, mineA_set _ _ (by omega) (by omega)]⟩
        have hmc : wr.cell? ⟨w.heap.size, (rd l (k : Int)).toNat, none⟩ = some (.bool ((l.take k).contains (rd l (k : Int)))) := (blk_cell hblk.out _).trans (mineA_get _ _ (by omega) (by omega))
        have hmf := blk_frozen hblk.out (rd l (k : Int)).toNat
        go_wp2
        go_roundw
        case rel => exact ⟨k + 1, by omega, by go_num, by rw [hl'.out], hg', ⟨by rw [← hm'.out]; exact blk_set hblk.out _ _⟩, ⟨Below.setCell hB.out (Nat.le_refl _) _⟩⟩
        case measure => simp [intOf]; omega
      · have hbad : Aside0 (good n (-1) l = false) := ⟨good_stop hlt ht⟩
        by_cases t1 : lastOf (-1) (l.take k) < rd l (k : Int)
        · have t2 : ¬ rd l (k : Int) < n := fun h => ht ⟨t1, h⟩
          clear ht
          go_wp2
          go_ret2
          exact ⟨_, Fr_bad hbad.out hB.out⟩
        · clear ht
          go_wp2
          go_ret2
          exact ⟨_, Fr_bad hbad.out hB.out⟩
    · have hkl : k = l.length := by omega
      have hgl : Aside0 (good n (-1) l = true) := ⟨by have := hg.out; rw [hkl, List.take_length] at this; exact this⟩
      have hbl : Aside0 (wr.heap[w.heap.size]? = some (.cells (mineA l) 40 (0, 0))) := ⟨by have := hblk.out; rw [hkl, List.take_length] at this; exact this⟩
      clear hg hblk hkl
      obtain ⟨wo, rfl⟩ : ∃ wo : World, wo = wr := ⟨_, rfl⟩
      obtain ⟨M, rfl⟩ : ∃ M : Nat, m = (M : Int) := ⟨m.toNat, by omega⟩
      go_wp2
      go_loopw [12, 41] (fun v12 v41 wr => ∃ j : Nat, j ≤ M ∧ v41 = .int .i64 j ∧ Aside0 (wr.ownsRow (w.heap.size + 1) 3 1 v12 (fr n l j).length (nums .i64 (fr n l j))) ∧ Aside0 (wr.heap[w.heap.size]? = some (.cells (mineA l) 40 (0, 0))) ∧ Aside0 (Below w.heap.size w wr)) (fun _ v41 _ => M - (intOf v41).toNat)
      case atStart => exact ⟨0, Nat.zero_le _, rfl, ⟨own_nil _ _ _ _⟩, hbl, hB⟩
      case round =>
        obtain ⟨j, hj, rfl, ho, hb, hB2⟩ := hrel
        clear hbl hB
        have hfl := fr_len n l j
        by_cases hjm : j < M
        · have hmod : 0 ≤ (j : Int) % n ∧ (j : Int) % n < n := ⟨Int.emod_nonneg _ (by omega), Int.emod_lt_of_pos _ (by omega)⟩
          obtain ⟨q0, q1⟩ := hmod
          have hmc : wr.cell? ⟨w.heap.size, ((j : Int) % n).toNat, none⟩ = some (.bool (l.contains ((j : Int) % n))) := (blk_cell hb.out _).trans (mineA_get _ _ (by omega) (by omega))
          cases hcon : l.contains ((j : Int) % n) with
          | true =>
            rw [hcon] at hmc
            have hy : Aside0 (fr n l (j + 1) = fr n l j ++ [(j : Int)]) := ⟨fr_yes hcon⟩
            clear hcon
            have hbs : Aside0 (w.heap.size + 1 ≤ wr.heap.size) := ⟨blk_lt hb.out⟩
            have hln : Aside0 (((fr n l j).length + 1) * 8 ≤ 140737488355328) := ⟨by omega⟩
            go_wp2_with (at_builtin; refine print_append_num (w0 := wr) (w.heap.size + 1) rfl (.tmp 49) (.tmp 51) 31 3 .i64 8 rfl Try.underlying31 myInfo3 (by decide) _ (fr n l j) (j : Int) rfl rfl ho.out (Below.refl _ _) hbs.out hln.out ?_; intro v1 w1 ho1 hb1 hg1 hat1; clear hg1 hat1; have HO := Aside0.mk ho1; have H1 := Aside0.mk hb1; clear ho1 hb1)
            go_roundw
            case rel => exact ⟨j + 1, by omega, by go_num, ⟨by rw [hy.out]; exact HO.out⟩, ⟨((H1.out).block _ (Nat.lt_succ_self _)).trans hb.out⟩, ⟨(hB2.out).trans ((H1.out).mono (Nat.le_succ _))⟩⟩
            case measure => simp [intOf]; omega
          | false =>
            rw [hcon] at hmc
            have hy : Aside0 (fr n l (j + 1) = fr n l j) := ⟨fr_no hcon⟩
            clear hcon
            go_wp2
            go_roundw
            case rel => exact ⟨j + 1, by omega, by go_num, ⟨by rw [hy.out]; exact ho.out⟩, hb, hB2⟩
            case measure => simp [intOf]; omega
        · have hjl : j = M := by omega
          subst hjl
          go_wp2
          go_ret2
          exact ⟨_, Fr_good hgl.out (by have := ho.out; simpa using this) hB2.out⟩
end Go.Proofs.Ytkihoeacojcdlaa.H
