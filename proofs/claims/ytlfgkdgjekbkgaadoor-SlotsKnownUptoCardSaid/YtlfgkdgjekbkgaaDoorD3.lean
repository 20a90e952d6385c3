/- The law SlotsOnce by its contracts. -/
import Derived.Test.YtlfgkdgjekbkgaaDoorC7
namespace Go.Proofs.YtlfgkdgjekbkgaaDoor.H
open Go.RowKit Go.Proofs.YtlfgkdgjekbkgaaDoorW.PrintWords Go.Proofs.YtlfgkdgjekbkgaaDoorW.PrintLast Go.Proofs.YtlfgkdgjekbkgaaDoorW.PrintMore
set_option linter.unusedVariables false
set_option linter.unusedSimpArgs false
set_option maxHeartbeats 8000000
set_option maxRecDepth 100000
theorem fr_spec : ∀ T : List Bool, fr T ≤ T.length ∧ (∀ k, k < fr T → bt T k = true) ∧ bt T (fr T) = false
  | [] => ⟨by simp [fr], fun k hk => by simp [fr] at hk, by simp [fr, bt]⟩
  | false :: T => ⟨by simp [fr, List.idxOf_cons], fun k hk => by simp [fr, List.idxOf_cons] at hk, by simp [fr, bt, List.idxOf_cons]⟩
  | true :: T => by
    obtain ⟨h1, h2, h3⟩ := fr_spec T
    have e : fr (true :: T) = fr T + 1 := by
      unfold fr
      rw [List.idxOf_cons]
      rfl
    rw [e]
    refine ⟨by simpa using h1, fun k hk => ?_, ?_⟩
    · cases k with
      | zero => simp [bt]
      | succ k => have := h2 k (by omega); simpa [bt] using this
    · simpa [bt] using h3
theorem U_count (T : List Bool) : ∀ k, k ≤ T.length → (U T k).length = (T.take k).count true
  | 0, _ => by simp [U_zero]
  | k + 1, h => by
    have ih := U_count T k (by omega)
    have hk : k < T.length := h
    rw [U_succ, List.take_succ_eq_append_getElem hk, List.count_append]
    have hb : bt T k = T[k] := by simp [bt, hk]
    rw [hb]
    cases hT : T[k]
    · simp [ih]
    · simp [ih]
theorem cnt_is (T : List Bool) : (U T T.length).length = T.count true := by rw [U_count T T.length (Nat.le_refl _), List.take_length]
theorem cnt_up (T : List Bool) (k : Nat) (hk : k < T.length) (hb : bt T k = false) : (U (T.set k true) (T.set k true).length).length = (U T T.length).length + 1 := by
  rw [cnt_is, cnt_is, List.count_set hk]
  have : T[k] = false := by simpa [bt, hk] using hb
  simp [this]
theorem cnt_down (T : List Bool) (k : Nat) (hb : bt T k = true) : (U (T.set k false) (T.set k false).length).length + 1 = (U T T.length).length := by
  have hk := bt_lt hb
  rw [cnt_is, cnt_is, List.count_set hk]
  have h1 : T[k] = true := by simpa [bt, hk] using hb
  have h2 : 0 < T.count true := List.count_pos_iff.2 (by rw [← h1]; exact List.getElem_mem hk)
  simp [h1]
  omega
theorem cnt_full (T : List Bool) (h : fr T = T.length) : (U T T.length).length = T.length := by
  rw [cnt_is, List.count_eq_length]
  intro b hb
  obtain ⟨i, hi, rfl⟩ := List.mem_iff_getElem.1 hb
  have := (fr_spec T).2.1 i (by omega)
  simpa [bt, hi] using this.symm
theorem cnt_less (T : List Bool) (h : fr T < T.length) : (U T T.length).length < T.length := by
  have h1 := cnt_up T (fr T) h (fr_spec T).2.2
  have h2 := U_len (T.set (fr T) true) (T.set (fr T) true).length
  simp at h1 h2
  omega
/-- The area, and the law's own list of what is taken. -/
structure On (w : World) (base c b gm : Nat) (T Tm : List Bool) : Prop where
  sp : SP w base c b T
  hm : Bl w gm 4 (bv (Tm ++ [false])).toArray
  bm : base ≤ gm
theorem On.later {w w' : World} {base c b gm : Nat} {T Tm : List Bool} (h : On w base c b gm T Tm) (hb : Below w.heap.size w w') : On w' base c b gm T Tm := ⟨h.sp.later hb, h.hm.later hb, h.bm⟩
theorem On.ne {w : World} {base c b gm : Nat} {T Tm : List Bool} (h : On w base c b gm T Tm) : ¬ Foot c b gm := by
  have key : ∀ {k : Nat} {t t' : TypeId} {cs cs' : Array Value}, Bl w k t cs → Bl w k t' cs' → t = t' := by
    intro k t t' cs cs' h1 h2
    unfold Bl at h1 h2
    rw [h1] at h2
    injection h2 with h2
    injection h2
  have hm := h.hm
  rintro (rfl | rfl)
  · exact absurd (key h.sp.hc hm) (by decide)
  · exact absurd (key h.sp.hb hm) (by decide)
theorem On.bit {w : World} {base c b gm : Nat} {T Tm : List Bool} (h : On w base c b gm T Tm) {i : Nat} (hi : i ≤ Tm.length) : w.cell? ⟨gm, i, none⟩ = some (.bool (bt Tm i)) := by
  refine (blk_cell h.hm i).trans ?_
  by_cases e : i < Tm.length
  · simp [bv, bt, e, List.getElem?_append]
  · have : i = Tm.length := by omega
    subst this
    simp [bv, bt]
theorem On.put {w : World} {base c b gm : Nat} {T Tm : List Bool} (h : On w base c b gm T Tm) {k : Nat} (hk : k < Tm.length) (v : Bool) : On (w.setCell ⟨gm, k, none⟩ (.bool v)) base c b gm T (Tm.set k v) := by
  have hne := h.ne
  have hg0 : gm ≠ 0 := by have := h.bm; have := h.sp.pos; omega
  refine ⟨h.sp.move (Below.heap_setCell w ⟨gm, k, none⟩ (.bool v) 0 (Ne.symm hg0)) (fun j hj => Below.heap_setCell w ⟨gm, k, none⟩ (.bool v) j (fun e => hne (by rw [← show j = gm from e]; exact hj))), ?_, h.bm⟩
  have := blk_set h.hm k (.bool v)
  have e : bv (Tm.set k v ++ [false]) = (bv (Tm ++ [false])).set k (.bool v) := by
    rw [← List.set_append_left (t := [false]) k v hk, bv_set]
  rw [e]
  have e2 : ((bv (Tm ++ [false])).set k (.bool v)).toArray = (bv (Tm ++ [false])).toArray.setIfInBounds k (.bool v) := by simp
  rw [e2]
  exact this
theorem On.kept {w w' : World} {base c b gm : Nat} {T T' Tm : List Bool} (h : On w base c b gm T Tm) (hs : SP w' base c b T') (hk : Kept w w' (Foot c b)) : On w' base c b gm T' Tm :=
  ⟨hs, blk_kept h.hm hk h.ne, h.bm⟩
theorem o_give (w : World) (base c b gm : Nat) (T Tm : List Bool) (k : Nat) (h : On w base c b gm T Tm) (hb : bt T k = true) :
    Calls Tryd.prog 10 #[.pointer (some ⟨c, 0, none⟩), .int .i64 (k : Int)] w fun e w' => e = .returned (.int .i64 0) ∧ On w' base c b gm (T.set k false) Tm ∧ Below base w w' := by
  refine (give_any w base c b T (k : Int) h.sp).mono fun e w' hp => ?_
  obtain ⟨he, hs, hk, hbl⟩ := hp
  have hc : 0 ≤ (k : Int) ∧ bt T (k : Int).toNat = true := ⟨by omega, by simpa using hb⟩
  unfold gvE at he
  unfold gvT at hs
  rw [if_pos hc] at he hs
  exact ⟨he, h.kept hs hk, hbl⟩
theorem o_give_no (w : World) (base c b gm : Nat) (T Tm : List Bool) (k : Nat) (h : On w base c b gm T Tm) (hb : bt T k = false) :
    Calls Tryd.prog 10 #[.pointer (some ⟨c, 0, none⟩), .int .i64 (k : Int)] w fun e w' => e = .returned (.int .i64 91) ∧ On w' base c b gm T Tm ∧ Below base w w' := by
  refine (give_any w base c b T (k : Int) h.sp).mono fun e w' hp => ?_
  obtain ⟨he, hs, hk, hbl⟩ := hp
  have hc : ¬ (0 ≤ (k : Int) ∧ bt T (k : Int).toNat = true) := fun hh => by have := hh.2; rw [Int.toNat_natCast, hb] at this; cases this
  unfold gvE at he
  unfold gvT at hs
  rw [if_neg hc] at he hs
  exact ⟨he, h.kept hs hk, hbl⟩
theorem o_take (w : World) (base c b gm : Nat) (T Tm : List Bool) (k : Nat) (h : On w base c b gm T Tm) (hf : fr T = k) (hk : k < T.length) :
    Calls Tryd.prog 8 #[.pointer (some ⟨c, 0, none⟩)] w fun e w' => e = .returned (.tuple #[.int .i64 (k : Int), .int .i64 0]) ∧ On w' base c b gm (T.set k true) Tm ∧ Below base w w' := by
  refine (take_any w base c b T h.sp).mono fun e w' hp => ?_
  obtain ⟨he, hs, hkp, hb⟩ := hp
  rw [hf, if_pos hk, if_pos hk] at he
  rw [hf] at hs
  exact ⟨he, h.kept hs hkp, hb⟩
theorem o_full (w : World) (base c b gm : Nat) (T Tm : List Bool) (h : On w base c b gm T Tm) (hf : fr T = T.length) :
    Calls Tryd.prog 8 #[.pointer (some ⟨c, 0, none⟩)] w fun e w' => e = .returned (.tuple #[.int .i64 0, .int .i64 4]) ∧ On w' base c b gm T Tm ∧ Below base w w' := by
  refine (take_any w base c b T h.sp).mono fun e w' hp => ?_
  obtain ⟨he, hs, hkp, hb⟩ := hp
  rw [hf, if_neg (Nat.lt_irrefl _), if_neg (Nat.lt_irrefl _)] at he
  rw [hf, List.set_eq_of_length_le (Nat.le_refl _)] at hs
  exact ⟨he, h.kept hs hkp, hb⟩
def DoRow (w : World) (A : Option Addr) (len : Nat) : Prop := ∀ i, i < len → ∃ (ad : Addr) (x0 : Bool) (x1 : Int), A = some ad ∧ w.cell? (ad.add (i * 2 + 0)) = some (.bool x0) ∧ w.cell? (ad.add (i * 2 + 1)) = some (.int .i64 x1)
theorem within_is (x m : Int) (h0 : 0 < m) (h1 : m ≤ 4611686018427387904) : cofferdamref00_Within.f x m = some (x % m) := by
  unfold cofferdamref00_Within.f
  rw [if_neg (by omega)]
  have hr0 := Int.emod_nonneg x (show m ≠ 0 by omega)
  have hr1 := Int.emod_lt_of_pos x h0
  have ht := Int.tmod_eq_emod (a := x) (b := m)
  by_cases hd : 0 ≤ x ∨ m ∣ x
  · rw [if_pos hd] at ht
    rw [if_neg (by omega)]
    congr 1
    omega
  · rw [if_neg hd] at ht
    have hne : x % m ≠ 0 := fun e => hd (.inr (Int.dvd_of_emod_eq_zero e))
    have ha : ((m.natAbs : Nat) : Int) = m := by omega
    rw [ha] at ht
    rw [ht, if_pos (by omega)]
    congr 1
    unfold wrap64
    omega
theorem within_nat (x : Int) (m : Nat) (h0 : 0 < m) (h1 : m ≤ 2000) : ∃ k : Nat, k < m ∧ cofferdamref00_Within.f x (m : Int) = some (k : Int) := by
  refine ⟨(x % (m : Int)).toNat, ?_, ?_⟩
  · have h2 := Int.emod_nonneg x (show (m : Int) ≠ 0 by omega)
    have h3 := Int.emod_lt_of_pos x (show 0 < (m : Int) by omega)
    omega
  · rw [within_is x m (by omega) (by omega)]
    have h2 := Int.emod_nonneg x (show (m : Int) ≠ 0 by omega)
    congr 1
    omega
theorem once_c (a0 : Int) (A : Option Addr) (len cap : Nat) (w : World) (hTb : Tb w) (hS : DoRow w A len) :
    Calls Tryd.prog 4 #[.int .i64 a0, .slice A len cap] w fun e w' => e = .returned (.bool true) ∧ Below w.heap.size w w' := by
  have HRow := Aside0.mk hS
  have HTB := Aside0.mk hTb
  obtain ⟨n, hn, hw130⟩ := within_nat a0 130 (by decide) (by decide)
  have HW := Aside0.mk hw130
  clear hS hTb hw130
  go_enter Tryd.func4, Tryd.ntmps4
  go_wp2_with fail
  refine (works_yes _ HTB.out).mono ?_
  rintro e w1 ⟨rfl, hb⟩
  have HTB1 := Aside0.mk (HTB.out.later hb)
  have HB1 := Aside0.mk hb
  clear hb
  go_wp2_with fail
  refine (cofferdamref00_Within.calls a0 130 _ _ HW.out).mono ?_
  rintro e w2 ⟨rfl, hd⟩
  have HTB2 := Aside0.mk (HTB1.out.later hd.below)
  have HB2 := Aside0.mk (below_base HB1.out hd.below (Nat.le_refl _))
  clear hd HTB1 HB1
  go_wp2_with fail
  refine (new_ok n _ (by omega) HTB2.out).mono ?_
  rintro e w3 ⟨c, b, rfl, hs, hb⟩
  have HS := Aside0.mk hs
  have HB3 := Aside0.mk (below_base HB2.out hb (Nat.le_refl _))
  have HWB : Aside0 (w.heap.size ≤ w2.heap.size) := ⟨HB2.out.size⟩
  clear hs hb HTB2 HB2
  have hm1 : IntKind.i64.wrap ((n : Int) + 1) = ((n + 1 : Nat) : Int) := by rw [IntWalk.i64_in _ (by omega)]; omega
  obtain ⟨n1, hn1⟩ : ∃ n1, n1 = n + 1 := ⟨_, rfl⟩
  rw [← hn1] at hm1
  have HN1 := Aside0.mk hn1
  have hmk := make42 n1 (by omega)
  have hn1b : n1 ≤ 131 := by omega
  have hn1c : n < n1 := by omega
  have HO : Aside0 (On (w3.alloc (.cells (madeCells #[.bool false] n1) 4)) w.heap.size c b w3.heap.size (List.replicate n false) (List.replicate n false)) := ⟨by
    have hp : 0 < w.heap.size := HTB.out.pos
    refine ⟨⟨(HS.out.later (below_alloc (Below.refl _ _) _)).hc, (HS.out.later (below_alloc (Below.refl _ _) _)).hb, (HS.out.later (below_alloc (Below.refl _ _) _)).tab, hp, Nat.le_trans HWB.out HS.out.bc, Nat.le_trans HWB.out HS.out.bb, HS.out.small⟩, ?_, HB3.out.size⟩
    have := made_bools w3 n1
    rw [hn1] at this ⊢
    rw [← List.replicate_succ']
    exact this⟩
  have HB4 := Aside0.mk (below_base HB3.out (below_alloc (Below.refl _ _) (.cells (madeCells #[.bool false] n1) 4)) (Nat.le_refl _))
  have HL : Aside0 ((List.replicate n false).length = n) := ⟨by simp⟩
  have hz : (((U (List.replicate n false) (List.replicate n false).length).length : Nat) : Int) = 0 := by
    rw [cnt_is]
    simp [List.count_replicate]
  have HZ := Aside0.mk hz
  clear hn1 HB3 HS hz
  go_wp2_with fail
  clear hmk
  generalize w3.alloc (.cells (madeCells #[.bool false] n1) 4) = w4 at HO HB4 ⊢
  generalize w3.heap.size = gm at HO ⊢
  generalize List.replicate n false = T0 at HO HL HZ
  go_loopw [8, 9] (fun v8 v9 wr => ∃ (i : Nat) (T : List Bool), i ≤ 300 ∧ v9 = .int .i64 i ∧ v8 = .int .i64 ((U T T.length).length : Nat) ∧ Aside0 (T.length = n) ∧ Aside0 (On wr w.heap.size c b gm T T) ∧ Aside0 (Below w.heap.size w wr)) (fun _ v9 _ => 300 - (intOf v9).toNat)
  case atStart => exact ⟨0, T0, by omega, rfl, by rw [HZ.out], HL, HO, HB4⟩
  case round =>
    clear HO HB4 HL HZ T0
    obtain ⟨i, T, hi, rfl, rfl, hL, hO, hB⟩ := hrel
    by_cases hlt : i < len ∧ i < 300
    · obtain ⟨h1, h2⟩ := hlt
      obtain ⟨ad, x0, x1, rfl, q0, q1⟩ := HRow.out i h1
      rw [Nat.add_zero] at q0
      rw [add_field ad (i * 2) 1 (by decide)] at q1
      have Q0 := Aside0.mk q0
      replace q0 := pw_cell_below hB.out q0
      replace q1 := pw_cell_below hB.out q1
      obtain ⟨k, hk, hwk⟩ := within_nat x1 n1 (by omega) (by omega)
      have HWK := Aside0.mk hwk
      obtain ⟨ct0, hct0⟩ : ∃ ct0 : Nat, ct0 = (U T T.length).length := ⟨_, rfl⟩
      have HC0 := Aside0.mk hct0
      have hc0n : ct0 ≤ n := by have := U_len T T.length; have := hL.out; omega
      rw [← hct0]
      clear hwk hct0
      go_wp2_with fail
      refine (cofferdamref00_Within.calls x1 (n1 : Int) _ _ HWK.out).mono ?_
      rintro e w5 ⟨rfl, hd⟩
      have HO5 := Aside0.mk (hO.out.later hd.below)
      have HB5 := Aside0.mk (below_base hB.out hd.below (Nat.le_refl _))
      replace q0 := pw_cell_below HB5.out Q0.out
      clear hd hO hB q1
      cases x0
      · by_cases hfl : fr T < T.length
        · have hfn : fr T < n := by have := hL.out; omega
          have hcl : ct0 < n := by have := cnt_less T hfl; rw [← HC0.out, hL.out] at this; exact this
          have hcu := cnt_up T (fr T) hfl (fr_spec T).2.2
          rw [← HC0.out] at hcu
          have HCU := Aside0.mk hcu
          have HTk := Aside0.mk (fun w' (h : On w' w.heap.size c b gm T T) => o_take w' w.heap.size c b gm T T (fr T) h rfl hfl)
          have HFT := Aside0.mk (fr_spec T)
          clear hcu hfl
          obtain ⟨f, hf⟩ : ∃ f, f = fr T := ⟨_, rfl⟩
          rw [← hf] at HCU HTk HFT hfn
          clear hf
          have hci : (ct0 : Int) < (n : Int) := by omega
          have hfi : (f : Int) < (n : Int) := by omega
          have hf0 : (0 : Int) ≤ (f : Int) := by omega
          have hfi1 : (f : Int) < (n1 : Int) := by omega
          go_wp2_with fail
          refine (HTk.out _ HO5.out).mono ?_
          rintro e w6 ⟨rfl, hO6, hb6⟩
          have HO6 := Aside0.mk hO6
          have HB6 := Aside0.mk (HB5.out.trans hb6)
          have hmf := hO6.bit (i := f) (by have := hL.out; omega)
          rw [HFT.out.2.2] at hmf
          clear hO6 hb6 HB5 HO5 q0
          go_wp2_with fail
          clear hmf
          go_loopw [14] (fun v14 wr => ∃ j : Nat, j ≤ f ∧ v14 = .int .i64 j ∧ Aside0 (On wr w.heap.size c b gm (T.set f true) T) ∧ Aside0 (Below w.heap.size w wr)) (fun v14 _ => f - (intOf v14).toNat)
          case atStart => exact ⟨0, by omega, rfl, HO6, HB6⟩
          case round =>
            clear HO6 HB6
            obtain ⟨j, hj, rfl, hO6, hB6⟩ := hrel
            by_cases hjf : j < f
            · have hmj := hO6.out.bit (i := j) (by have := hL.out; omega)
              rw [HFT.out.2.1 j hjf] at hmj
              have hji : (j : Int) < (f : Int) := by omega
              have hj0 : (0 : Int) ≤ (j : Int) := by omega
              have hj1 : (j : Int) < (n1 : Int) := by omega
              go_wp2_with fail
              go_roundw
              case rel => exact ⟨j + 1, by omega, by go_num, hO6, hB6⟩
              case measure => simp [intOf]; omega
            · have hmf := hO6.out.bit (i := f) (by have := hL.out; omega)
              have hfz := hO6.out.hm.free f
              have hji : (j : Int) = (f : Int) := by omega
              have HO' : Aside0 (On (wr.setCell ⟨gm, f, none⟩ (.bool true)) w.heap.size c b gm (T.set f true) (T.set f true)) := ⟨hO6.out.put (by have := hL.out; omega) true⟩
              have HB' : Aside0 (Below w.heap.size w (wr.setCell ⟨gm, f, none⟩ (.bool true))) := ⟨hB6.out.setCell hO6.out.bm _⟩
              obtain ⟨ct, hcte⟩ : ∃ ct : Nat, ct = ct0 + 1 := ⟨_, rfl⟩
              have hca : IntKind.i64.wrap ((ct0 : Int) + 1) = (ct : Int) := by rw [IntWalk.i64_in _ (by omega)]; omega
              have HCT : Aside0 (ct = (U (T.set f true) (T.set f true).length).length) := ⟨by rw [HCU.out, hcte]⟩
              have hcn : ct ≤ n := by omega
              have HL' : Aside0 ((T.set f true).length = n) := ⟨by rw [List.length_set]; exact hL.out⟩
              clear hO6 hB6 HC0 hcte HCU
              generalize T.set f true = T' at HO' HCT HL'
              have hsub : IntKind.i64.wrap ((n : Int) - (ct : Int)) = (n : Int) - (ct : Int) := IntWalk.i64_in _ (by omega)
              go_wp2_with fail
              refine (free_any _ _ _ _ _ HO'.out.1).mono ?_
              rintro e w8 ⟨rfl, hd⟩
              have HO8 := Aside0.mk (HO'.out.later hd.below)
              have HB8 := Aside0.mk (below_base HB'.out hd.below (Nat.le_refl _))
              clear hd HB' HO'
              rw [← HCT.out, HL'.out]
              go_wp2_with fail
              refine (used_any _ _ _ _ _ HO8.out.1).mono ?_
              rintro e w9 ⟨v, rfl, ho, hb⟩
              have HO9 := Aside0.mk (HO8.out.later hb)
              have HB9 := Aside0.mk (below_base HB8.out hb (Nat.le_refl _))
              rw [← HCT.out] at ho
              obtain ⟨Av, cv, hv⟩ := own_slice ho
              subst hv
              clear ho hb HB8 HO8
              go_wp2_with fail
              go_roundw
              case rel => exact ⟨i + 1, T', by omega, by go_num, by rw [← HCT.out], HL', HO9, HB9⟩
              case measure => simp [intOf]; omega
        · have hfe : fr T = T.length := by have := (fr_spec T).1; omega
          have hce : ct0 = n := by have := cnt_full T hfe; rw [← HC0.out, hL.out] at this; exact this
          have HTk := Aside0.mk (fun w' (h : On w' w.heap.size c b gm T T) => o_full w' w.heap.size c b gm T T h hfe)
          have hci2 : (n : Int) ≤ (ct0 : Int) := by omega
          clear hfe hfl hce
          go_wp2_with fail
          refine (HTk.out _ HO5.out).mono ?_
          rintro e w6 ⟨rfl, hO6, hb6⟩
          have HO' := Aside0.mk hO6
          have HB' := Aside0.mk (HB5.out.trans hb6)
          have HL' := hL
          obtain ⟨T', hT'⟩ : ∃ T', T' = T := ⟨_, rfl⟩
          subst hT'
          clear hO6 hb6 HB5 HO5 q0
          obtain ⟨ct, hct⟩ : ∃ ct, ct = ct0 := ⟨_, rfl⟩
          subst hct
          have HCT := HC0
          have hcn := hc0n
          have hsub : IntKind.i64.wrap ((n : Int) - (ct : Int)) = (n : Int) - (ct : Int) := IntWalk.i64_in _ (by omega)
          go_wp2_with fail
          refine (free_any _ _ _ _ _ HO'.out.1).mono ?_
          rintro e w8 ⟨rfl, hd⟩
          have HO8 := Aside0.mk (HO'.out.later hd.below)
          have HB8 := Aside0.mk (below_base HB'.out hd.below (Nat.le_refl _))
          clear hd HB' HO'
          rw [← HCT.out, HL'.out]
          go_wp2_with fail
          refine (used_any _ _ _ _ _ HO8.out.1).mono ?_
          rintro e w9 ⟨v, rfl, ho, hb⟩
          have HO9 := Aside0.mk (HO8.out.later hb)
          have HB9 := Aside0.mk (below_base HB8.out hb (Nat.le_refl _))
          rw [← HCT.out] at ho
          obtain ⟨Av, cv, hv⟩ := own_slice ho
          subst hv
          clear ho hb HB8 HO8
          go_wp2_with fail
          go_roundw
          case rel => exact ⟨i + 1, T', by omega, by go_num, by rw [← HCT.out], HL', HO9, HB9⟩
          case measure => simp [intOf]; omega
      · have hki0 : (0 : Int) ≤ (k : Int) := by omega
        have hki1 : (k : Int) < (n1 : Int) := by omega
        cases hbk : bt T k
        · have HTk := Aside0.mk (fun w' (h : On w' w.heap.size c b gm T T) => o_give_no w' w.heap.size c b gm T T k h hbk)
          by_cases hkn : k < n
          · have hkn1 : (k : Int) < (n : Int) := by omega
            have hmk0 := HO5.out.bit (i := k) (by have := hL.out; omega)
            rw [hbk] at hmk0
            have HMK := Aside0.mk (fun w' (h : On w' w.heap.size c b gm T T) => h.bit (i := k) (by have := hL.out; omega))
            rw [hbk] at HMK
            clear hmk0 hbk
            go_wp2_with fail
            refine (HTk.out _ HO5.out).mono ?_
            rintro e w6 ⟨rfl, hO6, hb6⟩
            have HO' := Aside0.mk hO6
            have HB' := Aside0.mk (HB5.out.trans hb6)
            have hmk6 := HMK.out _ hO6
            have HL' := hL
            obtain ⟨T', hT'⟩ : ∃ T', T' = T := ⟨_, rfl⟩
            subst hT'
            clear hO6 hb6 HB5 HO5 q0
            obtain ⟨ct, hct⟩ : ∃ ct, ct = ct0 := ⟨_, rfl⟩
            subst hct
            have HCT := HC0
            have hcn := hc0n
            have hsub : IntKind.i64.wrap ((n : Int) - (ct : Int)) = (n : Int) - (ct : Int) := IntWalk.i64_in _ (by omega)
            go_wp2_with fail
            refine (free_any _ _ _ _ _ HO'.out.1).mono ?_
            rintro e w8 ⟨rfl, hd⟩
            have HO8 := Aside0.mk (HO'.out.later hd.below)
            have HB8 := Aside0.mk (below_base HB'.out hd.below (Nat.le_refl _))
            clear hd HB' HO'
            rw [← HCT.out, HL'.out]
            go_wp2_with fail
            refine (used_any _ _ _ _ _ HO8.out.1).mono ?_
            rintro e w9 ⟨v, rfl, ho, hb⟩
            have HO9 := Aside0.mk (HO8.out.later hb)
            have HB9 := Aside0.mk (below_base HB8.out hb (Nat.le_refl _))
            rw [← HCT.out] at ho
            obtain ⟨Av, cv, hv⟩ := own_slice ho
            subst hv
            clear ho hb HB8 HO8
            go_wp2_with fail
            go_roundw
            case rel => exact ⟨i + 1, T', by omega, by go_num, by rw [← HCT.out], HL', HO9, HB9⟩
            case measure => simp [intOf]; omega
          · have hkn1 : (n : Int) ≤ (k : Int) := by omega
            clear hbk
            go_wp2_with fail
            refine (HTk.out _ HO5.out).mono ?_
            rintro e w6 ⟨rfl, hO6, hb6⟩
            have HO' := Aside0.mk hO6
            have HB' := Aside0.mk (HB5.out.trans hb6)
            have HL' := hL
            obtain ⟨T', hT'⟩ : ∃ T', T' = T := ⟨_, rfl⟩
            subst hT'
            clear hO6 hb6 HB5 HO5 q0
            obtain ⟨ct, hct⟩ : ∃ ct, ct = ct0 := ⟨_, rfl⟩
            subst hct
            have HCT := HC0
            have hcn := hc0n
            have hsub : IntKind.i64.wrap ((n : Int) - (ct : Int)) = (n : Int) - (ct : Int) := IntWalk.i64_in _ (by omega)
            go_wp2_with fail
            refine (free_any _ _ _ _ _ HO'.out.1).mono ?_
            rintro e w8 ⟨rfl, hd⟩
            have HO8 := Aside0.mk (HO'.out.later hd.below)
            have HB8 := Aside0.mk (below_base HB'.out hd.below (Nat.le_refl _))
            clear hd HB' HO'
            rw [← HCT.out, HL'.out]
            go_wp2_with fail
            refine (used_any _ _ _ _ _ HO8.out.1).mono ?_
            rintro e w9 ⟨v, rfl, ho, hb⟩
            have HO9 := Aside0.mk (HO8.out.later hb)
            have HB9 := Aside0.mk (below_base HB8.out hb (Nat.le_refl _))
            rw [← HCT.out] at ho
            obtain ⟨Av, cv, hv⟩ := own_slice ho
            subst hv
            clear ho hb HB8 HO8
            go_wp2_with fail
            go_roundw
            case rel => exact ⟨i + 1, T', by omega, by go_num, by rw [← HCT.out], HL', HO9, HB9⟩
            case measure => simp [intOf]; omega
        · have HTk := Aside0.mk (fun w' (h : On w' w.heap.size c b gm T T) => o_give w' w.heap.size c b gm T T k h hbk)
          have hkl := bt_lt hbk
          have hkn1 : (k : Int) < (n : Int) := by have := hL.out; omega
          have HMK := Aside0.mk (fun w' (h : On w' w.heap.size c b gm (T.set k false) T) => h.bit (i := k) (by omega))
          rw [hbk] at HMK
          have hcd := cnt_down T k hbk
          rw [← HC0.out] at hcd
          have HCD := Aside0.mk hcd
          have HKL := Aside0.mk hkl
          clear hcd hbk hkl
          go_wp2_with fail
          refine (HTk.out _ HO5.out).mono ?_
          rintro e w6 ⟨rfl, hO6, hb6⟩
          have HO6 := Aside0.mk hO6
          have HB6 := Aside0.mk (HB5.out.trans hb6)
          have hmk6 := HMK.out _ hO6
          have hfz := hO6.hm.free k
          have HO' : Aside0 (On (w6.setCell ⟨gm, k, none⟩ (.bool false)) w.heap.size c b gm (T.set k false) (T.set k false)) := ⟨HO6.out.put HKL.out false⟩
          have HB' : Aside0 (Below w.heap.size w (w6.setCell ⟨gm, k, none⟩ (.bool false))) := ⟨HB6.out.setCell HO6.out.bm _⟩
          obtain ⟨ct, hcte⟩ : ∃ ct : Nat, ct + 1 = ct0 := ⟨_, HCD.out⟩
          have hca : IntKind.i64.wrap ((ct0 : Int) - 1) = (ct : Int) := by rw [IntWalk.i64_in _ (by omega)]; omega
          have HCT : Aside0 (ct = (U (T.set k false) (T.set k false).length).length) := ⟨by have := HCD.out; omega⟩
          have hcn : ct ≤ n := by omega
          have HL' : Aside0 ((T.set k false).length = n) := ⟨by rw [List.length_set]; exact hL.out⟩
          clear hO6 hb6 HB5 HO5 HO6 HB6 q0 HMK HTk hcte HCD
          generalize T.set k false = T' at HO' HCT HL'
          have hsub : IntKind.i64.wrap ((n : Int) - (ct : Int)) = (n : Int) - (ct : Int) := IntWalk.i64_in _ (by omega)
          go_wp2_with fail
          refine (free_any _ _ _ _ _ HO'.out.1).mono ?_
          rintro e w8 ⟨rfl, hd⟩
          have HO8 := Aside0.mk (HO'.out.later hd.below)
          have HB8 := Aside0.mk (below_base HB'.out hd.below (Nat.le_refl _))
          clear hd HB' HO'
          rw [← HCT.out, HL'.out]
          go_wp2_with fail
          refine (used_any _ _ _ _ _ HO8.out.1).mono ?_
          rintro e w9 ⟨v, rfl, ho, hb⟩
          have HO9 := Aside0.mk (HO8.out.later hb)
          have HB9 := Aside0.mk (below_base HB8.out hb (Nat.le_refl _))
          rw [← HCT.out] at ho
          obtain ⟨Av, cv, hv⟩ := own_slice ho
          subst hv
          clear ho hb HB8 HO8
          go_wp2_with fail
          go_roundw
          case rel => exact ⟨i + 1, T', by omega, by go_num, by rw [← HCT.out], HL', HO9, HB9⟩
          case measure => simp [intOf]; omega
    · have hx2 : ¬ i < len ∨ (i < len ∧ ¬ i < 300) := by omega
      clear hlt
      rcases hx2 with hx2 | ⟨hx2, hx3⟩
      · go_wp2_with fail
        go_ret
        exact ⟨rfl, hB.out⟩
      · go_wp2_with fail
        go_ret
        exact ⟨rfl, hB.out⟩
theorem once_any (a0 : Int) (A : Option Addr) (len cap : Nat) (w : World) (hTb : Tb w) (h0 : (Lit.int .i64 a0).wf = true)
    (hS : len ≤ cap ∧ cap ≤ maxLen ∧ ∀ i, i < len → ∃ (ad : Addr) (x0 : Bool) (x1 : Int), A = some ad ∧ w.cell? (ad.add (i * 2 + 0)) = some (.bool x0) ∧ w.cell? (ad.add (i * 2 + 1)) = some (.int .i64 x1) ∧ (Lit.int .i64 x1).wf = true) :
    Calls Tryd.prog 4 #[.int .i64 a0, .slice A len cap] w fun e w' => e = .returned (.bool true) ∧ Below w.heap.size w w' :=
  once_c a0 A len cap w hTb (fun i hi => by
    obtain ⟨ad, x0, x1, e, q0, q1, _⟩ := hS.2.2 i hi
    exact ⟨ad, x0, x1, e, q0, q1⟩)
end Go.Proofs.YtlfgkdgjekbkgaaDoor.H
