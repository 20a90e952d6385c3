/- Touch by its contract. -/
import Derived.Test.YtcneepffhplpiaaC2
namespace Go.Proofs.Ytcneepffhplpiaa.H
open Go.RowKit Go.Proofs.YtcneepffhplpiaaW.PrintWords Go.Proofs.YtcneepffhplpiaaW.PrintLast Go.Proofs.YtcneepffhplpiaaW.PrintMore
set_option linter.unusedVariables false
set_option linter.unusedSimpArgs false
set_option maxHeartbeats 8000000
set_option maxRecDepth 100000
/-- A set's tags behind a touch. -/
def tl (wy : Int) (l : List Int) (t : Int) : List Int :=
  if 0 ≤ idx l t then t :: (l.take (idx l t).toNat ++ l.drop ((idx l t).toNat + 1))
  else if (l.length : Int) < wy then t :: l else t :: l.take (l.length - 1)
theorem size31 : (Try.prog.info? 31).map (·.size) = some 1 := by kernel_rfl
def Hold (p : Prop) : Prop := p
theorem Hold.of {p : Prop} (h : Hold p) : p := h
theorem own_cap {w : World} {base g n cap : Nat} {e : TypeId} {xs : List Value} (h : w.ownsRow base e 1 (.slice (some ⟨g, 0, none⟩) n cap) n xs) : n ≤ cap := by
  rcases h.2 with ⟨hr, _⟩ | ⟨g', cap', cur, hv2, _, _, h1, h2, _⟩
  · cases hr
  · injection hv2 with _ _ h3; subst h3; exact h1
theorem touch_off (w : World) (base c b : Nat) (wy : Int) (vs : List Value) (M : List (List Int)) (s t : Int) (h : St w base c b wy vs M) (hs : ¬ (0 ≤ s ∧ s < M.length)) :
    Calls Try.prog 11 #[.pointer (some ⟨c, 0, none⟩), .int .i64 s, .int .u64 t] w fun e w' => e = .returned (.tuple #[.bool false, .int .i64 2]) ∧ Drawn0 w w' := by
  have HL := Aside0.mk (look_any w base c b wy vs M s t h)
  have e1 : lk M s t = 0 := if_neg hs
  have e2 : lkE M s = 2 := if_neg hs
  rw [e1, e2] at HL
  clear e1 e2 h hs
  go_enter Try.func11, Try.ntmps11
  go_wp2_with fail
  refine HL.out.mono ?_
  rintro e w1 ⟨rfl, hd⟩
  go_wp2_with fail
  go_ret2
  exact ⟨rfl, hd⟩
def TP (w : World) (base c b : Nat) (wy : Int) (vs : List Value) (M : List (List Int)) (n : Nat) (t : Int) (e : Ending) (w' : World) : Prop :=
  ∃ vs', e = .returned (.tuple #[.bool (decide (0 ≤ idx (M.getD n []) t)), .int .i64 0]) ∧ St w' base c b wy vs' (M.set n (tl wy (M.getD n []) t)) ∧ Kept w w' (Foot c b vs) ∧ (∀ k, Foot c b vs' k → Foot c b vs k ∨ w.heap.size ≤ k) ∧ Below base w w'
theorem touch_on (w : World) (base c b : Nat) (wy : Int) (vs : List Value) (M : List (List Int)) (n : Nat) (t : Int) (h : St w base c b wy vs M) (hn : n < M.length) :
    Calls Try.prog 11 #[.pointer (some ⟨c, 0, none⟩), .int .i64 (n : Int), .int .u64 t] w (TP w base c b wy vs M n t) := by
  have HL := Aside0.mk (look_any w base c b wy vs M (n : Int) t h)
  have e1 : lk M (n : Int) t = idx (M.getD n []) t := by unfold lk; rw [if_pos (by omega)]; rfl
  have e2 : lkE M (n : Int) = 0 := if_pos (by omega)
  rw [e1, e2] at HL
  have hM := h.small
  have HS := Aside0.mk h
  have hl16 : (M.getD n []).length ≤ 16 := by have := h.lens n hn; have := h.wy16; omega
  have hvl : n < vs.length := by rw [h.rows.1]; exact hn
  clear e1 e2 h
  rcases idx_says (M.getD n []) t with ⟨hi, hno⟩ | ⟨k, hkl, hi, hat, hno⟩
  · rw [hi] at HL
    have hhit : decide (0 ≤ idx (M.getD n []) t) = false := by rw [hi]; simp
    by_cases hlw : ((M.getD n []).length : Int) < wy
    · have hres : (M.set n (tl wy (M.getD n []) t)) = M.set n (t :: M.getD n []) := by
        unfold tl; rw [hi, if_neg (by omega), if_pos hlw]
      have HT : Aside0 (∀ e w', (∃ vs', e = .returned (.tuple #[.bool false, .int .i64 0]) ∧ St w' base c b wy vs' (M.set n (t :: M.getD n [])) ∧ Kept w w' (Foot c b vs) ∧ (∀ k, Foot c b vs' k → Foot c b vs k ∨ w.heap.size ≤ k) ∧ Below base w w') → TP w base c b wy vs M n t e w') := ⟨fun e w' h => by unfold TP; rw [hres, hhit]; exact h⟩
      have HRow := Aside0.mk (HS.out.rows.2.1 n hn)
      have HTch := Aside0.mk (fun w2 v' L' => @St.touched w w2 base c b wy vs M HS.out n hn v' L')
      clear hres hhit hi hno
      generalize M.getD n [] = L at HL hl16 HT HRow hlw
      obtain ⟨A, cc, hv⟩ := own_slice HRow.out
      rw [hv] at HRow HTch
      have hvs : w.cell? ⟨b, n, none⟩ = some (.slice A L.length cc) := by
        refine (blk_cell HS.out.hb n).trans ?_
        rw [← hv]
        simp [hvl]
      have hc0 : w.cell? ⟨c, 0, none⟩ = some (.slice (some ⟨b, 0, none⟩) M.length M.length) := blk_cell HS.out.hc 0
      have hc1 : w.cell? ⟨c, 1, none⟩ = some (.int .i64 wy) := blk_cell HS.out.hc 1
      have HX := Aside0.mk hvs
      have HY := Aside0.mk hc0
      have HW := Aside0.mk hc1
      have HF0 := Aside0.mk HS.out.hb
      have HAP : Aside0 ((Value.slice A L.length cc).ownBlock ≠ some c ∧ (Value.slice A L.length cc).ownBlock ≠ some b ∧ c ≠ b) := ⟨by have := HS.out.apart hn; rw [hv] at this; exact this⟩
      clear hvs hc0 hc1
      have hbw : base ≤ w.heap.size := Nat.le_trans HS.out.bc (Nat.le_of_lt (blk_lt HS.out.hc))
      have HCB := Aside0.mk (And.intro (blk_lt HS.out.hc) (blk_lt HS.out.hb))
      clear HS
      go_enter Try.func11, Try.ntmps11
      go_wp2_with fail
      refine HL.out.mono ?_
      rintro e w1 ⟨rfl, hd⟩
      have hvs := pw_cell_below hd.below HX.out
      have hc0 := pw_cell_below hd.below HY.out
      have hc1 := pw_cell_below hd.below HW.out
      have HR1 := Aside0.mk (pw_own_below HRow.out hd.below)
      have HD := Aside0.mk hd.below
      have HBw : Aside0 (Below base w w1) := ⟨⟨HD.out.os, HD.out.tape, HD.out.output, HD.out.size, fun k hk => HD.out.block k (by omega)⟩⟩
      have HF : Aside0 (w1.frozen? ⟨b, n, none⟩ = false) := ⟨(HF0.out.later hd.below).free n⟩
      have hbs : Aside0 (base ≤ w1.heap.size) := ⟨Nat.le_trans hbw HD.out.size⟩
      have hln : Aside0 ((L.length + 1) * 8 ≤ 140737488355328) := ⟨by omega⟩
      clear hd HX HY HW HL HRow hbw
      go_wp2_with (at_builtin; refine print_append_num (w0 := w) base rfl (.tmp 40) (.tmp 42) 23 31 .u64 8 rfl Try.underlying23 info31 (by decide) _ L t rfl rfl HR1.out HBw.out hbs.out hln.out ?_; intro v1 wA ho1 hb1 hg1 hat1; obtain ⟨g, cap, rfl, hbg, hgl⟩ := ho1.form (by simp); obtain ⟨X, hX⟩ : ∃ X, X = L ++ [t] := ⟨_, rfl⟩; rw [← hX] at ho1 ⊢; have HXX := Aside0.mk hX; have HG1 := Aside0.mk hg1; have HAT := Aside0.mk hat1; have HXL : Aside0 (X.length = L.length + 1) := ⟨by rw [hX]; simp⟩; have hc0 := hg1.cell hc0 (show some c ≠ _ from fun e => HAP.out.1 e.symm); have hvs := hg1.cell hvs (show some b ≠ _ from fun e => HAP.out.2.1 e.symm); have hcp : X.length ≤ cap := own_cap ho1; have HR := Aside0.mk ho1; clear hg1 hat1 ho1 hb1 hX)
      obtain ⟨k, hk⟩ : ∃ k, k = L.length := ⟨_, rfl⟩
      have hXk : X.length = k + 1 := by rw [HXL.out, hk]
      have hkX : k < X.length := by rw [hXk]; exact Nat.lt_succ_self k
      have hk16 : k ≤ 16 := by rw [hk]; exact hl16
      have hwk : wrap64 ((X.length : Int) - 1) = (k : Int) := by rw [hXk]; unfold wrap64; omega
      rw [hwk]
      have hXe : X.take k ++ X.drop (k + 1) = L := by rw [HXX.out, hk]; simp
      have HXe := Aside0.mk hXe
      have HXk := Aside0.mk hXk
      have HK := Aside0.mk hk
      have hk1 : (0 : Int) ≤ (k : Int) + 1 := by omega
      have hk0 : (0 : Int) ≤ (k : Int) := by omega
      have hw : IntKind.i64.wrap ((k : Int) + 1) = (k : Int) + 1 := IntWalk.i64_in _ (by omega)
      have hkc : (k : Int) + 1 ≤ cap := by omega
      have hkc' : (k : Int) ≤ cap := by omega
      have h1k : (1 : Int) ≤ (k : Int) + 1 := by omega
      have h1c : (1 : Int) ≤ cap := by omega
      have HAPg : Aside0 (some g ≠ some c ∧ some g ≠ some b ∧ c ≠ b) := ⟨by
        rcases HAT.out with e | ⟨b', e, hb'⟩
        · have e2 : some g = (Value.slice A L.length cc).ownBlock := e
          rw [e2]; exact HAP.out
        · have e2 : some g = some b' := e
          injection e2 with e2
          have h1 := HCB.out.1
          have h2 := HCB.out.2
          have h3 := HD.out.size
          exact ⟨fun h => by injection h with h; omega, fun h => by injection h with h; omega, HAP.out.2.2⟩⟩
      have HFA : Aside0 (wA.frozen? ⟨b, n, none⟩ = false) := ⟨by
        rw [World.frozen?_of_block (w := w1) (HG1.out.block b (Nat.lt_of_lt_of_le HCB.out.2 HD.out.size) (fun e => HAP.out.2.1 e.symm))]
        exact HF.out⟩
      clear hXk hk hXe
      go_region_law (refine step_up rfl (.tmp 50) (.tmp 53) 23 23 rfl 31 Try.underlying23 size31 (if cap = 1 then some ⟨g, 0, none⟩ else some ⟨g, 1, none⟩) (some ⟨g, 0, none⟩) k (cap - 1) cap (by simp [Act.eval, Act.put]) (by simp [Act.eval, Act.put]) base g X.length cap X HR.out hkX (fun _ => ⟨if_neg (by omega), rfl⟩) ?_; intro wB HO2 hg2)
      generalize (if cap = 1 then (some (⟨g, 0, none⟩ : Addr)) else some ⟨g, 1, none⟩) = dpv
      have hOW : wB.ownsRow base 31 1 (.slice (some ⟨g, 0, none⟩) X.length cap) X.length (nums .u64 (up X k)) := HO2
      have hG2 : wA.grownBy wB (some g) := ⟨hg2.os, hg2.tape, hg2.output, hg2.size, hg2.block⟩
      clear HO2 hg2
      obtain ⟨hg0, hgf⟩ := own_at hOW 0 (by omega) (by omega)
      rw [show (0 : Int).toNat = 0 from rfl] at hg0 hgf
      obtain ⟨hOW3, hG3⟩ := own_store hOW 0 t
      rw [show (0 : Int).toNat = 0 from rfl, up_set _ _ _ hkX] at hOW3
      rw [show (0 : Int).toNat = 0 from rfl] at hG3
      have hG4 : wA.grownBy (wB.setCell ⟨g, 0, none⟩ (.int .u64 t)) (some g) := grown_then hG2 hG3 (.inl rfl)
      have hc3 := hG4.cell hc0 (show some c ≠ some g from fun e => HAPg.out.1 e.symm)
      have hv3 := hG4.cell hvs (show some b ≠ some g from fun e => HAPg.out.2.1 e.symm)
      have hf3 : (wB.setCell ⟨g, 0, none⟩ (.int .u64 t)).frozen? ⟨b, n, none⟩ = false := by
        rw [World.frozen?_of_block (w := wA) (hG4.block b (World.block_lt_of_cell? wA _ hvs) (fun e => HAPg.out.2.1 e.symm))]
        exact HFA.out
      have HG4 := Aside0.mk hG4
      have HO3 := Aside0.mk hOW3
      clear hOW hG2 hG3 hG4 hOW3
      go_wp2_with fail
      go_ret2
      refine HT.out _ _ ⟨_, rfl, HTch.out _ _ _ (grown_then (World.grownBy.trans (grown_of_below HD.out _) HG1.out) HG4.out ?_) ?_ ?_ ?_⟩
      · rcases HAT.out with e | ⟨b', e, hb'⟩
        · exact .inl e
        · have e2 : some g = some b' := e
          injection e2 with e2
          have h3 := HD.out.size
          exact .inr (by omega)
      · have h := HO3.out
        have e : (t :: L).length = X.length := by rw [HXL.out]; rfl
        rw [e]
        rw [HXe.out] at h
        exact h
      · rcases HAT.out with e | ⟨b', e, hb'⟩
        · exact .inl e
        · have e2 : some g = some b' := e
          injection e2 with e2
          have h3 := HD.out.size
          exact .inr ⟨g, rfl, by omega⟩
      · simp; omega
    · have hres : (M.set n (tl wy (M.getD n []) t)) = M.set n (t :: (M.getD n []).take ((M.getD n []).length - 1)) := by
        unfold tl; rw [hi, if_neg (by omega), if_neg hlw]
      have hlq := HS.out.lens n hn
      have hw1 := HS.out.wy1
      have HT : Aside0 (∀ e w', (∃ vs', e = .returned (.tuple #[.bool false, .int .i64 0]) ∧ St w' base c b wy vs' (M.set n (t :: (M.getD n []).take ((M.getD n []).length - 1))) ∧ Kept w w' (Foot c b vs) ∧ (∀ k, Foot c b vs' k → Foot c b vs k ∨ w.heap.size ≤ k) ∧ Below base w w') → TP w base c b wy vs M n t e w') := ⟨fun e w' h => by unfold TP; rw [hres, hhit]; exact h⟩
      have HRow := Aside0.mk (HS.out.rows.2.1 n hn)
      have HTch := Aside0.mk (fun w2 v' L' => @St.touched w w2 base c b wy vs M HS.out n hn v' L')
      clear hres hhit hi hno
      generalize M.getD n [] = L at HL hl16 HT HRow hlw hlq
      obtain ⟨k, hk⟩ : ∃ k, k = L.length - 1 := ⟨_, rfl⟩
      rw [← hk] at HT
      have hkl : k < L.length := by omega
      have hLk : L.length = k + 1 := by omega
      have HLk := Aside0.mk hLk
      obtain ⟨g, cap, hv, hbg, hgw⟩ := HRow.out.form (by omega)
      obtain ⟨hbn, hcap⟩ : L.length ≤ cap ∧ cap ≤ maxLen := by
        rcases HRow.out.2 with ⟨hr, _⟩ | ⟨g', cap', cur, hv2, _, _, h1, h2, _⟩
        · rw [hv] at hr; cases hr
        · rw [hv] at hv2; injection hv2 with _ _ h3; subst h3; exact ⟨h1, h2⟩
      rw [hv] at HRow HTch
      have hvs : w.cell? ⟨b, n, none⟩ = some (.slice (some ⟨g, 0, none⟩) L.length cap) := by
        refine (blk_cell HS.out.hb n).trans ?_
        rw [← hv]
        simp [hvl]
      have hc0 : w.cell? ⟨c, 0, none⟩ = some (.slice (some ⟨b, 0, none⟩) M.length M.length) := blk_cell HS.out.hc 0
      have HAP : Aside0 (some g ≠ some c ∧ some g ≠ some b ∧ c ≠ b) := ⟨by have := HS.out.apart hn; rw [hv] at this; exact this⟩
      have HF0 := Aside0.mk (HS.out.hb)
      have HX := Aside0.mk hvs
      have HY := Aside0.mk hc0
      have HS0 := HS
      clear hvs hc0 HS
      have hc1 : w.cell? ⟨c, 1, none⟩ = some (.int .i64 wy) := blk_cell HS0.out.hc 1
      have HW := Aside0.mk hc1
      clear hc1 HS0 hLk hk
      go_enter Try.func11, Try.ntmps11
      go_wp2_with fail
      refine HL.out.mono ?_
      rintro e w1 ⟨rfl, hd⟩
      have hvs := pw_cell_below hd.below HX.out
      have hc0 := pw_cell_below hd.below HY.out
      have hc1 := pw_cell_below hd.below HW.out
      have HR1 := Aside0.mk (pw_own_below HRow.out hd.below)
      have HD := Aside0.mk hd.below
      have HF : Aside0 (w1.frozen? ⟨b, n, none⟩ = false) := ⟨(HF0.out.later hd.below).free n⟩
      clear hd HX HY HL HRow
      have hk0 : (0 : Int) ≤ (k : Int) := by omega
      have hk1 : (0 : Int) ≤ (k : Int) + 1 := by omega
      have hw : IntKind.i64.wrap ((k : Int) + 1) = (k : Int) + 1 := IntWalk.i64_in _ (by omega)
      have hkc : (k : Int) + 1 ≤ cap := by omega
      have hkc' : (k : Int) ≤ cap := by omega
      have h1k : (1 : Int) ≤ (k : Int) + 1 := by omega
      have h1c : (1 : Int) ≤ cap := by omega
      go_wp2_with fail
      have hwk : (L.length : Int) - 1 = (k : Int) := by rw [HLk.out]; omega
      rw [hwk]
      go_region_law (refine step_up rfl (.tmp 50) (.tmp 53) 23 23 rfl 31 Try.underlying23 size31 (if cap = 1 then some ⟨g, 0, none⟩ else some ⟨g, 1, none⟩) (some ⟨g, 0, none⟩) k (cap - 1) cap (by simp [Act.eval, Act.put]) (by simp [Act.eval, Act.put]) base g L.length cap L HR1.out hkl (fun _ => ⟨if_neg (by omega), rfl⟩) ?_; intro w2 HO2 hg2)
      generalize (if cap = 1 then (some (⟨g, 0, none⟩ : Addr)) else some ⟨g, 1, none⟩) = dpv
      have hOW : w2.ownsRow base 31 1 (.slice (some ⟨g, 0, none⟩) L.length cap) L.length (nums .u64 (up L k)) := HO2
      have hG2 : w1.grownBy w2 (some g) := ⟨hg2.os, hg2.tape, hg2.output, hg2.size, hg2.block⟩
      clear HO2 hg2
      obtain ⟨hg0, hgf⟩ := own_at hOW 0 (by omega) (by omega)
      rw [show (0 : Int).toNat = 0 from rfl] at hg0 hgf
      obtain ⟨hOW3, hG3⟩ := own_store hOW 0 t
      rw [show (0 : Int).toNat = 0 from rfl, up_set _ _ _ hkl] at hOW3
      rw [show (0 : Int).toNat = 0 from rfl] at hG3
      have hG4 : w1.grownBy (w2.setCell ⟨g, 0, none⟩ (.int .u64 t)) (some g) := grown_then hG2 hG3 (.inl rfl)
      have hc3 := hG4.cell hc0 (show some c ≠ some g from fun e => HAP.out.1 e.symm)
      have hv3 := hG4.cell hvs (show some b ≠ some g from fun e => HAP.out.2.1 e.symm)
      have hf3 : (w2.setCell ⟨g, 0, none⟩ (.int .u64 t)).frozen? ⟨b, n, none⟩ = false := by
        rw [World.frozen?_of_block (w := w1) (hG4.block b (World.block_lt_of_cell? w1 _ hvs) (fun e => HAP.out.2.1 e.symm))]
        exact HF.out
      have HG4 := Aside0.mk hG4
      have HO3 := Aside0.mk hOW3
      clear hOW hG2 hG3 hG4 hOW3
      go_wp2_with fail
      go_ret2
      refine HT.out _ _ ⟨_, rfl, HTch.out _ _ _ (grown_then (grown_of_below HD.out _) HG4.out (.inl rfl)) ?_ (.inl rfl) ?_⟩
      · have h := HO3.out
        have e1 : L.drop (k + 1) = [] := List.drop_eq_nil_of_le (by rw [HLk.out]; exact Nat.le_refl _)
        rw [e1, List.append_nil] at h
        have e : (t :: L.take k).length = L.length := by rw [List.length_cons, List.length_take, Nat.min_eq_left (by omega), HLk.out]
        rw [e]
        exact h
      · have e : (t :: L.take k).length = L.length := by rw [List.length_cons, List.length_take, Nat.min_eq_left (by omega), HLk.out]
        rw [e]
        exact hlq
  · rw [hi] at HL
    have hres : (M.set n (tl wy (M.getD n []) t)) = M.set n (t :: ((M.getD n []).take k ++ (M.getD n []).drop (k + 1))) := by
      unfold tl; rw [hi, if_pos (by omega)]; rfl
    have hhit : decide (0 ≤ idx (M.getD n []) t) = true := by rw [hi]; simp
    have HT : Aside0 (∀ e w', (∃ vs', e = .returned (.tuple #[.bool true, .int .i64 0]) ∧ St w' base c b wy vs' (M.set n (t :: ((M.getD n []).take k ++ (M.getD n []).drop (k + 1)))) ∧ Kept w w' (Foot c b vs) ∧ (∀ k, Foot c b vs' k → Foot c b vs k ∨ w.heap.size ≤ k) ∧ Below base w w') → TP w base c b wy vs M n t e w') := ⟨fun e w' h => by unfold TP; rw [hres, hhit]; exact h⟩
    have HRow := Aside0.mk (HS.out.rows.2.1 n hn)
    have HTch := Aside0.mk (fun w2 v' L' => @St.touched w w2 base c b wy vs M HS.out n hn v' L')
    have hlw : ((M.getD n []).length : Int) ≤ wy := HS.out.lens n hn
    clear hres hhit hi hat hno
    generalize M.getD n [] = L at HL hkl hl16 HT HRow hlw
    obtain ⟨g, cap, hv, hbg, hgw⟩ := HRow.out.form (by omega)
    obtain ⟨hbn, hcap⟩ : L.length ≤ cap ∧ cap ≤ maxLen := by
      rcases HRow.out.2 with ⟨hr, _⟩ | ⟨g', cap', cur, hv2, _, _, h1, h2, _⟩
      · rw [hv] at hr; cases hr
      · rw [hv] at hv2; injection hv2 with _ _ h3; subst h3; exact ⟨h1, h2⟩
    rw [hv] at HRow HTch
    have hvs : w.cell? ⟨b, n, none⟩ = some (.slice (some ⟨g, 0, none⟩) L.length cap) := by
      refine (blk_cell HS.out.hb n).trans ?_
      rw [← hv]
      simp [hvl]
    have hc0 : w.cell? ⟨c, 0, none⟩ = some (.slice (some ⟨b, 0, none⟩) M.length M.length) := blk_cell HS.out.hc 0
    have HAP : Aside0 (some g ≠ some c ∧ some g ≠ some b ∧ c ≠ b) := ⟨by have := HS.out.apart hn; rw [hv] at this; exact this⟩
    have HF0 := Aside0.mk (HS.out.hb)
    have HX := Aside0.mk hvs
    have HY := Aside0.mk hc0
    clear hvs hc0 HS
    go_enter Try.func11, Try.ntmps11
    go_wp2_with fail
    refine HL.out.mono ?_
    rintro e w1 ⟨rfl, hd⟩
    have hvs := pw_cell_below hd.below HX.out
    have hc0 := pw_cell_below hd.below HY.out
    have HR1 := Aside0.mk (pw_own_below HRow.out hd.below)
    have HD := Aside0.mk hd.below
    have HF : Aside0 (w1.frozen? ⟨b, n, none⟩ = false) := ⟨(HF0.out.later hd.below).free n⟩
    clear hd HX HY HL HRow
    have hk0 : (0 : Int) ≤ (k : Int) := by omega
    have hk1 : (0 : Int) ≤ (k : Int) + 1 := by omega
    have hw : IntKind.i64.wrap ((k : Int) + 1) = (k : Int) + 1 := IntWalk.i64_in _ (by omega)
    have hkc : (k : Int) + 1 ≤ cap := by omega
    have hkc' : (k : Int) ≤ cap := by omega
    have h1k : (1 : Int) ≤ (k : Int) + 1 := by omega
    have h1c : (1 : Int) ≤ cap := by omega
    go_wp2_with fail
    go_region_law (refine step_up rfl (.tmp 50) (.tmp 53) 23 23 rfl 31 Try.underlying23 size31 (if cap = 1 then some ⟨g, 0, none⟩ else some ⟨g, 1, none⟩) (some ⟨g, 0, none⟩) k (cap - 1) cap (by simp [Act.eval, Act.put]) (by simp [Act.eval, Act.put]) base g L.length cap L HR1.out hkl (fun _ => ⟨if_neg (by omega), rfl⟩) ?_; intro w2 HO2 hg2)
    generalize (if cap = 1 then (some (⟨g, 0, none⟩ : Addr)) else some ⟨g, 1, none⟩) = dpv
    have hOW : w2.ownsRow base 31 1 (.slice (some ⟨g, 0, none⟩) L.length cap) L.length (nums .u64 (up L k)) := HO2
    have hG2 : w1.grownBy w2 (some g) := ⟨hg2.os, hg2.tape, hg2.output, hg2.size, hg2.block⟩
    clear HO2 hg2
    obtain ⟨hg0, hgf⟩ := own_at hOW 0 (by omega) (by omega)
    rw [show (0 : Int).toNat = 0 from rfl] at hg0 hgf
    obtain ⟨hOW3, hG3⟩ := own_store hOW 0 t
    rw [show (0 : Int).toNat = 0 from rfl, up_set _ _ _ hkl] at hOW3
    rw [show (0 : Int).toNat = 0 from rfl] at hG3
    have hG4 : w1.grownBy (w2.setCell ⟨g, 0, none⟩ (.int .u64 t)) (some g) := grown_then hG2 hG3 (.inl rfl)
    have hc3 := hG4.cell hc0 (show some c ≠ some g from fun e => HAP.out.1 e.symm)
    have hv3 := hG4.cell hvs (show some b ≠ some g from fun e => HAP.out.2.1 e.symm)
    have hf3 : (w2.setCell ⟨g, 0, none⟩ (.int .u64 t)).frozen? ⟨b, n, none⟩ = false := by
      rw [World.frozen?_of_block (w := w1) (hG4.block b (World.block_lt_of_cell? w1 _ hvs) (fun e => HAP.out.2.1 e.symm))]
      exact HF.out
    have HG4 := Aside0.mk hG4
    have HO3 := Aside0.mk hOW3
    clear hOW hG2 hG3 hG4 hOW3
    go_wp2_with fail
    go_ret2
    refine HT.out _ _ ⟨_, rfl, HTch.out _ _ _ (grown_then (grown_of_below HD.out _) HG4.out (.inl rfl)) ?_ (.inl rfl) ?_⟩
    · have hlen : (t :: (L.take k ++ L.drop (k + 1))).length = L.length := by simp; omega
      rw [hlen]
      exact HO3.out
    · have hlen : (t :: (L.take k ++ L.drop (k + 1))).length = L.length := by simp; omega
      rw [hlen]
      exact hlw
end Go.Proofs.Ytcneepffhplpiaa.H
