/- The law CacheKeeps by its contracts. -/
import Derived.Test.YtcneepffhplpiaaC4
import Derived.Test.YtcneepffhplpiaaC5
import Derived.Test.YtcneepffhplpiaaR
namespace Go.Proofs.Ytcneepffhplpiaa.H
open Go.RowKit Go.Proofs.YtcneepffhplpiaaW.PrintWords Go.Proofs.YtcneepffhplpiaaW.PrintLast Go.Proofs.YtcneepffhplpiaaW.PrintMore
set_option linter.unusedVariables false
set_option linter.unusedSimpArgs false
set_option maxHeartbeats 8000000
set_option maxRecDepth 100000
theorem info3 : (Try.prog.info? 3).map (fun i => (i.zero, i.size, i.bytes)) = some (some (.int .i64 0), 1, 8) := by kernel_rfl
theorem own_C3 {w : World} {base n : Nat} {v : Value} {l : List Int} (h : w.ownsRow base 3 1 v n (nums .i64 l)) (hn : n = l.length) : ∃ A c, v = .slice A l.length c ∧ l.length ≤ c ∧ Kd.C (Kd.int .i64) w A l.length l := by
  subst hn
  exact Kd.R_reads (Kd.R_of_own (enc := Value.int .i64) (h1 := fun _ => rfl) (ok := fun _ => True) h (fun _ _ => trivial))
theorem row_at {w w' : World} {k : IntKind} {a : Option Addr} {len cap : Nat} {zs : List Int} (h : Rw.IsRow k w a len cap zs) (hb : Below w.heap.size w w') {i : Nat} (hi : i < len) : ∃ x z, a = some x ∧ w'.cell? (x.add i) = some (.int k z) ∧ (Lit.int k z).wf = true := by
  rcases h with ⟨_, h0, _⟩ | ⟨x, rfl, hl, _, hz, hc, hw⟩
  · omega
  · refine ⟨x, _, rfl, pw_cell_below hb (hc i (by omega)), hw _ ?_⟩
    have : i < zs.length := by omega
    simp [this]
theorem hist_same (s t : Int) (H : List (Int × Int)) : hist s ((s, t) :: H) = t :: hist s H := by simp [hist]
theorem hist_other (s s' t : Int) (H : List (Int × Int)) (h : s ≠ s') : hist s' ((s, t) :: H) = hist s' H := by simp [hist, h]
theorem u64_24 {z : Int} (h : (Lit.int .u64 z).wf = true) : 0 ≤ z ∧ z ≤ 18446744073709551615 := by
  simp [Lit.wf, IntKind.min, IntKind.max, IntKind.signed, IntKind.bits] at h
  omega
theorem two_pos (k : Int) : 1 ≤ two k ∧ two k ≤ 16 := by
  unfold two
  repeat' split
  all_goals omega
/-- The sets' tags are those last touched. -/
def Last (M : List (List Int)) (H : List (Int × Int)) (n w : Nat) : Prop := M.length = n ∧ ∀ s : Nat, s < n → M.getD s [] = (dd (hist (s : Int) H)).take w
theorem Last.start (n w : Nat) : Last (emp n) [] n w := ⟨by simp [emp], fun s _ => by rw [emp_get]; simp [hist, dd]⟩
theorem Last.next {M : List (List Int)} {H : List (Int × Int)} {n w : Nat} (h : Last M H n w) (h1 : 1 ≤ w) {s : Nat} (hs : s < n) (t : Int) : Last (M.set s (tl (w : Int) (M.getD s []) t)) (((s : Int), t) :: H) n w := by
  refine ⟨by rw [List.length_set]; exact h.1, fun s' hs' => ?_⟩
  by_cases e : s' = s
  · subst e
    rw [getD_set_same _ _ _ _ (by rw [h.1]; exact hs), h.2 s' hs', hist_same, tl_dd _ _ h1]
  · rw [getD_set_other _ _ _ _ _ e, h.2 s' hs', hist_other _ _ _ _ (by omega)]
theorem own_lower {w : World} {base base' : Nat} {e : TypeId} {size n : Nat} {v : Value} {xs : List Value} (h : w.ownsRow base e size v n xs) (hb : base' ≤ base) : w.ownsRow base' e size v n xs := by
  obtain ⟨h1, h2⟩ := h
  refine ⟨h1, ?_⟩
  rcases h2 with h2 | ⟨g, cap, cur, rfl, hg, r⟩
  · exact .inl h2
  · exact .inr ⟨g, cap, cur, rfl, Nat.le_trans hb hg, r⟩
theorem St.lower {w : World} {base base' c b : Nat} {wy : Int} {vs : List Value} {M : List (List Int)} (h : St w base c b wy vs M) (hb : base' ≤ base) : St w base' c b wy vs M :=
  ⟨h.hc, h.hb, ⟨h.rows.1, fun i hi => own_lower (h.rows.2.1 i hi) hb, h.rows.2.2⟩, Nat.le_trans hb h.bc, Nat.le_trans hb h.bb, h.small, h.wy1, h.wy16, h.lens⟩
theorem foot_ne {w : World} {base base' c b : Nat} {wy : Int} {vs : List Value} {M : List (List Int)} (h : St w base c b wy vs M) {e size n : Nat} {v : Value} {xs : List Value} (ho : w.ownsRow base' e size v n xs) (h1 : e ≠ 58) (h2 : e ≠ 23) (h3 : e ≠ 31) : ∀ k, v.ownBlock = some k → ¬ Foot c b vs k := by
  intro k hk hf
  obtain ⟨cs, hh⟩ := own_typed ho k hk
  rcases hf with rfl | rfl | ⟨i, hi, hk'⟩
  · rw [h.hc] at hh
    simp at hh
    exact h1 hh.2.symm
  · rw [h.hb] at hh
    simp at hh
    exact h2 hh.2.symm
  · obtain ⟨cs', hh'⟩ := own_typed (h.rows.2.1 i (by rw [← h.rows.1]; exact hi)) k hk'
    rw [hh'] at hh
    simp at hh
    exact h3 hh.2.symm
theorem keeps_any (K W0 S0 : Int) (sA : Option Addr) (sl sc : Nat) (sz : List Int) (tA : Option Addr) (tl0 tc : Nat) (tz : List Int) (oA : Option Addr) (ol oc : Nat) (oz : List Int) (w : World)
    (hK : (Lit.int .i64 K).wf = true) (hW : (Lit.int .i64 W0).wf = true) (hS : (Lit.int .i64 S0).wf = true) (hs : Rw.IsRow .i64 w sA sl sc sz) (ht : Rw.IsRow .u64 w tA tl0 tc tz) (ho : Rw.IsRow .u64 w oA ol oc oz) :
    Calls Try.prog 3 #[.agg #[.int .i64 K, .int .i64 W0, .int .i64 S0, .slice sA sl sc, .slice tA tl0 tc, .slice oA ol oc]] w fun e w' => e = .returned (.bool true) ∧ Below w.heap.size w w' := by
  have HSR := Aside0.mk hs
  have HTR := Aside0.mk ht
  clear hK hW hS hs ht ho
  have HB0 := Aside0.mk (below_alloc (Below.refl w.heap.size w) (.cells #[.int .i64 K, .int .i64 W0, .int .i64 S0, .slice sA sl sc, .slice tA tl0 tc, .slice oA ol oc] 25))
  have hbx : Bl (w.alloc (.cells #[.int .i64 K, .int .i64 W0, .int .i64 S0, .slice sA sl sc, .slice tA tl0 tc, .slice oA ol oc] 25)) w.heap.size 25 #[.int .i64 K, .int .i64 W0, .int .i64 S0, .slice sA sl sc, .slice tA tl0 tc, .slice oA ol oc] := heap_alloc_new w _
  have b0 : (w.alloc (.cells #[.int .i64 K, .int .i64 W0, .int .i64 S0, .slice sA sl sc, .slice tA tl0 tc, .slice oA ol oc] 25)).cell? ⟨w.heap.size, 0, none⟩ = some (.int .i64 K) := blk_cell hbx 0
  have b1 : (w.alloc (.cells #[.int .i64 K, .int .i64 W0, .int .i64 S0, .slice sA sl sc, .slice tA tl0 tc, .slice oA ol oc] 25)).cell? ⟨w.heap.size, 1, none⟩ = some (.int .i64 W0) := blk_cell hbx 1
  have b3 : (w.alloc (.cells #[.int .i64 K, .int .i64 W0, .int .i64 S0, .slice sA sl sc, .slice tA tl0 tc, .slice oA ol oc] 25)).cell? ⟨w.heap.size, 3, none⟩ = some (.slice sA sl sc) := blk_cell hbx 3
  have b4 : (w.alloc (.cells #[.int .i64 K, .int .i64 W0, .int .i64 S0, .slice sA sl sc, .slice tA tl0 tc, .slice oA ol oc] 25)).cell? ⟨w.heap.size, 4, none⟩ = some (.slice tA tl0 tc) := blk_cell hbx 4
  clear hbx
  go_enter Try.func3, Try.ntmps3
  go_wp2_with fail
  go_quiet (fail)
  have hdq : Below (w.alloc (.cells #[.int .i64 K, .int .i64 W0, .int .i64 S0, .slice sA sl sc, .slice tA tl0 tc, .slice oA ol oc] 25)).heap.size (w.alloc (.cells #[.int .i64 K, .int .i64 W0, .int .i64 S0, .slice sA sl sc, .slice tA tl0 tc, .slice oA ol oc] 25)) (World.drewN (w.alloc (.cells #[.int .i64 K, .int .i64 W0, .int .i64 S0, .slice sA sl sc, .slice tA tl0 tc, .slice oA ol oc] 25)) nq) := pw_below_drewN (Below.refl _ _) nq
  have HBq := Aside0.mk (below_step HB0.out hdq)
  have b0' := pw_cell_below hdq b0
  have b1' := pw_cell_below hdq b1
  clear b0 b1 b3 b4 hdq HB0
  generalize World.drewN (w.alloc (.cells #[.int .i64 K, .int .i64 W0, .int .i64 S0, .slice sA sl sc, .slice tA tl0 tc, .slice oA ol oc] 25)) nq = wq at HBq b0' b1' ⊢
  go_wp2_with fail
  refine (made_any K W0 _).mono ?_
  rintro e w1 ⟨c, b, rfl, hS, hB⟩
  have hbase : w.heap.size ≤ wq.heap.size := HBq.out.size
  have HS := Aside0.mk (hS.lower hbase)
  have HB := Aside0.mk (below_step HBq.out hB)
  clear hS hB b0' b1' HBq hbase
  have hw0 : 0 ≤ W0 % 8 := Int.emod_nonneg _ (by omega)
  have hw1 : W0 % 8 < 8 := Int.emod_lt_of_pos _ (by omega)
  obtain ⟨wy, hwy⟩ : ∃ wy : Nat, (wy : Int) = 1 + W0 % 8 := ⟨(1 + W0 % 8).toNat, by omega⟩
  have hy1 : 1 ≤ wy := by omega
  have hy16 : wy ≤ 8 := by omega
  rw [← hwy] at HS ⊢
  have hn1 := (two_pos (K % 5)).1
  have hn16 := (two_pos (K % 5)).2
  clear hw0 hw1 hwy
  have HLs := Aside0.mk (Last.start (two (K % 5)) wy)
  generalize hnn : two (K % 5) = n at HS HLs hn1 hn16 ⊢
  clear hnn
  generalize List.replicate n nilV = vs at HS
  generalize emp n = M at HS HLs
  go_wp2_with fail
  refine (awake_any _).mono ?_
  rintro e w2 ⟨rfl, hb⟩
  have HS2 := Aside0.mk (HS.out.later hb)
  have HB2 := Aside0.mk (below_step HB.out hb)
  clear HS HB hb
  go_wp2_with fail
  go_loopw [8, 9, 10] (fun v8 v9 v10 wr => ∃ (i : Nat) (H : List (Int × Int)) (vs : List Value) (M : List (List Int)), i ≤ 200 ∧ H.length = i ∧ v10 = .int .i64 i ∧ Aside0 (St wr w.heap.size c b wy vs M) ∧ Aside0 (Last M H n wy) ∧ Aside0 (wr.ownsRow w.heap.size 3 1 v8 (H.reverse.map Prod.fst).length (nums .i64 (H.reverse.map Prod.fst))) ∧ Aside0 (wr.ownsRow w.heap.size 31 1 v9 (H.reverse.map Prod.snd).length (nums .u64 (H.reverse.map Prod.snd))) ∧ Aside0 (∀ k, v9.ownBlock = some k → ¬ Foot c b vs k) ∧ Aside0 (Below w.heap.size w wr)) (fun _ _ v10 _ => 200 - (intOf v10).toNat)
  case atStart => exact ⟨0, [], vs, M, by omega, rfl, rfl, HS2, HLs, ⟨own_nil _ _ _ _⟩, ⟨own_nil _ _ _ _⟩, ⟨fun k hk => by simp [Value.ownBlock] at hk⟩, HB2⟩
  case round =>
    clear HS2 HLs HB2 vs M
    obtain ⟨i, H, vs, M, hi, hHi, rfl, hS, hL, hA, hT, hAP, hB⟩ := hrel
    by_cases h1 : i < sl
    · by_cases h2 : i < tl0
      · by_cases h3 : i < 200
        · obtain ⟨x, z, rfl, hz, hzw⟩ := row_at HSR.out hB.out h1
          obtain ⟨y, u, rfl, hu, huw⟩ := row_at HTR.out hB.out h2
          go_wp2_with fail
          have hwi := within_is z (n : Int) (by omega) (by omega)
          have hz0 : 0 ≤ z % (n : Int) := Int.emod_nonneg _ (by omega)
          have hz1 : z % (n : Int) < (n : Int) := Int.emod_lt_of_pos _ (by omega)
          obtain ⟨s, hs⟩ : ∃ s : Nat, (s : Int) = z % (n : Int) := ⟨(z % (n : Int)).toNat, by omega⟩
          rw [← hs] at hwi hz1
          have hsn : s < n := by omega
          refine (cofferdamref00_Within.calls z (n : Int) _ _ hwi).mono ?_
          rintro e w3 ⟨rfl, hd⟩
          have HS3 := Aside0.mk (hS.out.later hd.below)
          have HA3 := Aside0.mk (pw_own_below hA.out hd.below)
          have HT3 := Aside0.mk (pw_own_below hT.out hd.below)
          have HB3 := Aside0.mk (below_step hB.out hd.below)
          have hu3 := pw_cell_below hd.below hu
          have hu0 := (u64_24 huw).1
          clear hd hz hu hS hA hT hB hwi hz0 hz1 hs hzw huw
          go_wp2_with fail
          generalize u % 24 = t
          have hsM : s < M.length := by rw [hL.out.1]; exact hsn
          refine (touch_on _ _ c b (wy : Int) vs M s t HS3.out hsM).mono ?_
          rintro e w4 ⟨vs', rfl, hS', hK, hF, hB'⟩
          have HS4 := Aside0.mk hS'
          have HA4 : Aside0 (w4.ownsRow w.heap.size 3 1 u8 (H.reverse.map Prod.fst).length (nums .i64 (H.reverse.map Prod.fst))) := ⟨own_move HA3.out (fun k hk => hK.2 k (HA3.out.lt k hk).2 (fun hf => foot_ne HS3.out HA3.out (by decide) (by decide) (by decide) k hk hf))⟩
          have HT4 : Aside0 (w4.ownsRow w.heap.size 31 1 u9 (H.reverse.map Prod.snd).length (nums .u64 (H.reverse.map Prod.snd))) := ⟨own_move HT3.out (fun k hk => hK.2 k (HT3.out.lt k hk).2 (hAP.out k hk))⟩
          have HAP4 : Aside0 (∀ k, u9.ownBlock = some k → ¬ Foot c b vs' k) := ⟨fun k hk hf => by
            rcases hF k hf with h | h
            · exact hAP.out k hk h
            · have := (HT3.out.lt k hk).2; omega⟩
          have HB4 := Aside0.mk (HB3.out.trans hB')
          have HL4 := Aside0.mk (hL.out.next hy1 hsn t)
          have HKP := Aside0.mk (kept_says H (s : Int) t wy hy1 (by omega) (by omega))
          have hMs : M.getD s [] = (dd (hist (s : Int) H)).take wy := hL.out.2 s hsn
          rw [← hMs] at HKP
          clear hS' hK hF hB' HS3 HA3 HT3 HB3 hu3 hu0 hAP hL hMs
          generalize decide (0 ≤ idx (M.getD s []) t) = q at HKP ⊢
          generalize M.set s (tl (wy : Int) (M.getD s []) t) = M' at HS4 HL4
          obtain ⟨A8, c8, hv8, hc8, hC8⟩ := own_C3 HA4.out rfl
          obtain ⟨A9, c9, hv9, hc9, hC9⟩ := own_C HT4.out rfl
          have HC8 := Aside0.mk hC8
          have HC9 := Aside0.mk hC9
          subst hv8 hv9
          clear hC8 hC9
          have hl8 : (H.reverse.map Prod.fst).length = i := by simp [hHi]
          have hl9 : (H.reverse.map Prod.snd).length = i := by simp [hHi]
          have hcall := cofferdamlaw03_kept.calls (H.length + 20) A8 c8 _ A9 c9 _ (s : Int) t (wy : Int) q w4 HC8.out hc8 HC9.out hc9 HKP.out
          rw [hl8, hl9] at hcall
          have HCL := Aside0.mk hcall
          have HA5 : Aside0 (w4.ownsRow w.heap.size 3 1 (.slice A8 i c8) (H.reverse.map Prod.fst).length (nums .i64 (H.reverse.map Prod.fst))) := ⟨by have := HA4.out; rw [hl8] at this ⊢; exact this⟩
          have HT5 : Aside0 (w4.ownsRow w.heap.size 31 1 (.slice A9 i c9) (H.reverse.map Prod.snd).length (nums .u64 (H.reverse.map Prod.snd))) := ⟨by have := HT4.out; rw [hl9] at this ⊢; exact this⟩
          have HAP5 : Aside0 (∀ k, (Value.slice A9 i c9).ownBlock = some k → ¬ Foot c b vs' k) := ⟨fun k hk => HAP4.out k (by cases A9 <;> exact hk)⟩
          clear hcall hl8 hl9 HC8 HC9 HKP HA4 HT4 HAP4 hc8 hc9
          go_wp2_with fail
          refine HCL.out.mono ?_
          rintro e w5 ⟨rfl, hb⟩
          have HS := Aside0.mk (HS4.out.later hb)
          have HA := Aside0.mk (pw_own_below HA5.out hb)
          have HT := Aside0.mk (pw_own_below HT5.out hb)
          have HBx := Aside0.mk (below_step HB4.out hb)
          have hbs : Aside0 (w.heap.size ≤ w5.heap.size) := ⟨HBx.out.size⟩
          have hln : Aside0 (((H.reverse.map Prod.fst).length + 1) * 8 ≤ 140737488355328) := ⟨by simp; omega⟩
          have hln9 : Aside0 (((H.reverse.map Prod.snd).length + 1) * 8 ≤ 140737488355328) := ⟨by simp; omega⟩
          clear hb HS4 HA5 HT5 HB4 HCL
          go_wp2_with (at_builtin; refine print_append_num (w0 := w) w.heap.size rfl (.tmp 80) (.tmp 82) 22 3 .i64 8 rfl Try.underlying22 info3 (by decide) _ (H.reverse.map Prod.fst) (s : Int) rfl rfl HA.out HBx.out hbs.out hln.out ?_; intro v8' wa ho1 hb1 hg1 hat1; have HO8 := Aside0.mk ho1; have HB8 := Aside0.mk hb1; have HG8 := Aside0.mk hg1; have HT8 := Aside0.mk hat1; clear ho1 hb1 hg1 hat1; refine Hold.of ?_)
          have HS6 : Aside0 (St wa w.heap.size c b (wy : Int) vs' M') := ⟨HS.out.move (fun k hk => HG8.out.block k (HS.out.foot_lt hk).2 (fun e => foot_ne HS.out HA.out (by decide) (by decide) (by decide) k e.symm hk))⟩
          have HTg : Aside0 (wa.ownsRow w.heap.size 31 1 (.slice A9 i c9) (H.reverse.map Prod.snd).length (nums .u64 (H.reverse.map Prod.snd))) := ⟨own_other HT.out HG8.out (own_type_ne HT.out HA.out (by decide))⟩
          have hbs9 : Aside0 (w.heap.size ≤ wa.heap.size) := ⟨HB8.out.size⟩
          clear HS HA HT HBx hbs hln HG8 HT8
          unfold Hold
          go_wp2_with (at_builtin; refine print_append_num (w0 := w) w.heap.size rfl (.tmp 84) (.tmp 86) 23 31 .u64 8 rfl Try.underlying23 info31 (by decide) _ (H.reverse.map Prod.snd) t rfl rfl HTg.out HB8.out hbs9.out hln9.out ?_; intro v9' wb ho1 hb1 hg1 hat1; have HO9 := Aside0.mk ho1; have HB9 := Aside0.mk hb1; have HG9 := Aside0.mk hg1; have HT9 := Aside0.mk hat1; clear ho1 hb1 hg1 hat1; refine Hold.of ?_)
          have HS7 : Aside0 (St wb w.heap.size c b (wy : Int) vs' M') := ⟨HS6.out.move (fun k hk => HG9.out.block k (HS6.out.foot_lt hk).2 (fun e => HAP5.out k e.symm hk))⟩
          have HO87 : Aside0 (wb.ownsRow w.heap.size 3 1 v8' (H.reverse.map Prod.fst ++ [(s : Int)]).length (nums .i64 (H.reverse.map Prod.fst ++ [(s : Int)]))) := ⟨own_other HO8.out HG9.out (own_type_ne HO8.out HTg.out (by decide))⟩
          have HAP7 : Aside0 (∀ k, v9'.ownBlock = some k → ¬ Foot c b vs' k) := ⟨fun k hk hf => by
            rcases HT9.out with e | ⟨b', e, hb'⟩
            · have e2 : v9'.ownBlock = (Value.slice A9 i c9).ownBlock := e
              exact HAP5.out k (e2.symm.trans hk) hf
            · rw [e] at hk
              injection hk with hk
              have := (HS6.out.foot_lt hf).2
              omega⟩
          clear HS6 HTg HG9 HT9 HAP5 HO8 HB8 hbs9 hln9
          unfold Hold
          go_wp2_with fail
          have e8 : (((s : Int), t) :: H).reverse.map Prod.fst = H.reverse.map Prod.fst ++ [(s : Int)] := by simp
          have e9 : (((s : Int), t) :: H).reverse.map Prod.snd = H.reverse.map Prod.snd ++ [t] := by simp
          go_roundw
          case rel => exact ⟨i + 1, ((s : Int), t) :: H, vs', M', by omega, by simp [hHi], by go_num, HS7, HL4, by rw [e8]; exact HO87, by rw [e9]; exact HO9, HAP7, HB9⟩
          case measure => simp [intOf]; omega
        · go_wp2_with fail
          go_ret
          exact ⟨rfl, hB.out⟩
      · go_wp2_with fail
        go_ret
        exact ⟨rfl, hB.out⟩
    · go_wp2_with fail
      go_ret
      exact ⟨rfl, hB.out⟩
end Go.Proofs.Ytcneepffhplpiaa.H
