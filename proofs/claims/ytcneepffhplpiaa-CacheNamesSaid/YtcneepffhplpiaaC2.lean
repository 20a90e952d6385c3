/- A row moved up by one place; a cache's rows when one is written. -/
import Derived.Test.YtcneepffhplpiaaC1
import Derived.Laws.CopyOwn
namespace Go.Proofs.Ytcneepffhplpiaa.H
open Go.RowKit Go.Proofs.YtcneepffhplpiaaW.PrintWords Go.Proofs.YtcneepffhplpiaaW.PrintLast Go.Proofs.YtcneepffhplpiaaW.PrintMore
set_option linter.unusedVariables false
set_option linter.unusedSimpArgs false
set_option maxHeartbeats 8000000
set_option maxRecDepth 100000
theorem grown_setRow (w : World) (g : Nat) (cs : Array Value) : w.grownBy (w.setRow g cs) (some g) :=
  ⟨rfl, rfl, rfl, by simp [World.setRow], fun k _ hne => setRow_other w g k cs (fun h => hne (by rw [h]))⟩
/-- A row whose first places were moved up by one. -/
def up (X : List Int) (m : Nat) : List Int := X.take 1 ++ (X.take m ++ X.drop (m + 1))
theorem up_len (X : List Int) (m : Nat) (h : m < X.length) : (up X m).length = X.length := by simp [up]; omega
theorem up_set (X : List Int) (m : Nat) (t : Int) (h : m < X.length) : (up X m).set 0 t = t :: (X.take m ++ X.drop (m + 1)) := by
  cases X with
  | nil => simp at h
  | cons x X => simp [up]
theorem step_up {P : Program} {ops : Array Oper} {o : Oper} {a : Act} {w : World} {K : Act → World → Prop} {Q : Exit → Act → World → Prop} {E : Prop} (hgd : o.guard = none) (d s : Operand) (dT sT : TypeId)
    (ho : o.op = .call { callee := .builtin .copy, args := #[d, s], argTypes := #[dT, sT] }) (elem : TypeId) (hu : P.underlying dT = some (.slice elem)) (hsz : (P.info? elem).map (·.size) = some 1)
    (dp sp : Option Addr) (m dCap sCap : Nat) (hd : a.eval d = .slice dp m dCap) (hs : a.eval s = .slice sp m sCap)
    (base g n cap : Nat) (X : List Int) (HO : w.ownsRow base elem 1 (.slice (some ⟨g, 0, none⟩) n cap) n (nums .u64 X)) (hm : m < X.length)
    (hpos : 0 < m → dp = some ⟨g, 1, none⟩ ∧ sp = some ⟨g, 0, none⟩)
    (h : ∀ w', w'.ownsRow base elem 1 (.slice (some ⟨g, 0, none⟩) n cap) n (nums .u64 (up X m)) → w.grownBy w' (some g) → K (a.put o.dst (goInt m)) w') :
    if Region.wanted o (yielded ops a.tmps) = true then Oper.wp P o a w K Q else E := by
  have hw : Region.wanted o (yielded ops a.tmps) = true := by simp [Region.wanted, hgd]
  rw [if_pos hw]
  obtain ⟨hl, hr⟩ := HO
  have hXn : X.length = n := by simpa [nums] using hl
  by_cases h0 : m = 0
  · subst h0
    have hrun := run_copy_none (P := P) w dT sT o.type elem dp sp 0 dCap 0 sCap hu hsz (by simp)
    unfold Oper.wp
    simp [execOp, ho, resolve, invoke, builtin, hd, hs, hrun, Result.andThen]
    have hup : up X 0 = X := by cases X with
      | nil => simp at hm
      | cons x X => simp [up]
    exact h w (by rw [hup]; exact ⟨hl, hr⟩) (World.grownBy.refl w _)
  · obtain ⟨rfl, rfl⟩ := hpos (by omega)
    rcases hr with ⟨hr, _⟩ | ⟨g', cap', cur, hv, hbg, hh, hnc, hcm, hcs, htk⟩
    · cases hr
    · injection hv with hv1 hv2 hv3
      injection hv1 with hv1
      injection hv1 with hv1
      subst hv1 hv3
      have hcl : cur.toList.length = cap := by simpa using hcs
      have hsrc : ∀ j v, ((nums .u64 X).take m)[j]? = some v → w.cell? ((⟨g, 0, none⟩ : Addr).add j) = some v := by
        intro j v hj
        rw [add_plain]
        have hjm : j < m := by
          have := (List.getElem?_eq_some_iff.1 hj).1
          simp [nums] at this
          omega
        rw [List.getElem?_take, if_pos hjm] at hj
        rw [← htk] at hj
        have hjn : j < n * 1 := by omega
        rw [List.getElem?_take, if_pos hjn] at hj
        have := cell_of_row w g j cur elem (0, 0) hh
        rw [this]
        simpa using hj
      have hrun := run_copy_row (P := P) w dT sT o.type elem g 1 m dCap ⟨g, 0, none⟩ m sCap cur elem ((nums .u64 X).take m) hu hsz hh (by simp [nums]; omega) hsrc (by simp [nums]; omega) (by
        intro v hv
        have := List.mem_of_mem_take hv
        simp only [nums, List.mem_map] at this
        obtain ⟨x, _, rfl⟩ := this
        rfl)
      unfold Oper.wp
      simp [execOp, ho, resolve, invoke, builtin, hd, hs, hrun, Result.andThen]
      have hlm : ((nums .u64 X).take m).length = m := by simp [nums]; omega
      have hmin : min m (nums IntKind.u64 X).length = m := by simp [nums]; omega
      try rw [hmin]
      refine h _ ⟨by simp [nums, up_len X m hm, hXn], .inr ⟨g, cap, _, rfl, hbg, setRow_heap w g _ _ elem _ hh, hnc, hcm, ?_, ?_⟩⟩ (grown_setRow w g _)
      · simp [hlm]
        omega
      · have hX : nums .u64 X = cur.toList.take n := by rw [← htk]; simp
        have e1 : nums .u64 (up X m) = (cur.toList.take n).take 1 ++ ((cur.toList.take n).take m ++ (cur.toList.take n).drop (m + 1)) := by
          rw [← hX]; simp [nums, up, List.map_take, List.map_drop]
        rw [e1]
        have hnl : n ≤ cur.toList.length := by omega
        rw [hX]
        generalize cur.toList = C at hnl
        have e2 : (C.take n).take m = C.take m := by rw [List.take_take, Nat.min_eq_left (by omega)]
        have e3 : (C.take n).take 1 = C.take 1 := by rw [List.take_take, Nat.min_eq_left (by omega)]
        have hC1 : (C.take 1).length = 1 := by rw [List.length_take, Nat.min_eq_left (by omega)]
        have hCm : (C.take m).length = m := by rw [List.length_take, Nat.min_eq_left (by omega)]
        show List.take (n * 1) (List.take 1 C ++ (List.take m (List.take n C) ++ List.drop (1 + m) C)) = _
        rw [e2, e3, Nat.mul_one, List.take_append, List.take_append, hC1, hCm, List.take_of_length_le (l := C.take 1) (by omega), List.take_of_length_le (l := C.take m) (by omega), List.drop_take, Nat.add_comm 1 m, show n - 1 - m = n - (m + 1) by omega]
theorem grown_then {w w1 w2 : World} {row : Option Nat} {g : Nat} (h : w.grownBy w1 row) (k : w1.grownBy w2 (some g)) (hg : some g = row ∨ w.heap.size ≤ g) : w.grownBy w2 row :=
  ⟨k.os.trans h.os, k.tape.trans h.tape, k.output.trans h.output, Nat.le_trans h.size k.size, fun i hi hne => by
    refine (k.block i (Nat.lt_of_lt_of_le hi h.size) ?_).trans (h.block i hi hne)
    intro e
    injection e with e
    subst e
    rcases hg with rfl | hg
    · exact hne rfl
    · omega⟩
theorem getD_set_same {α : Type} (l : List α) (n : Nat) (x d : α) (h : n < l.length) : (l.set n x).getD n d = x := by simp [h]
theorem getD_set_other {α : Type} (l : List α) (n i : Nat) (x d : α) (h : i ≠ n) : (l.set n x).getD i d = l.getD i d := by
  simp [List.getElem?_set, Ne.symm h]
theorem St.foot_lt {w : World} {base c b : Nat} {wy : Int} {vs : List Value} {M : List (List Int)} (h : St w base c b wy vs M) {k : Nat} (hk : Foot c b vs k) : base ≤ k ∧ k < w.heap.size := by
  rcases hk with rfl | rfl | ⟨i, hi, hk⟩
  · exact ⟨h.bc, blk_lt h.hc⟩
  · exact ⟨h.bb, blk_lt h.hb⟩
  · exact (h.rows.2.1 i (by rw [← h.rows.1]; exact hi)).lt k hk
theorem St.move {w w' : World} {base c b : Nat} {wy : Int} {vs : List Value} {M : List (List Int)} (h : St w base c b wy vs M) (hm : ∀ k, Foot c b vs k → w'.heap[k]? = w.heap[k]?) : St w' base c b wy vs M :=
  ⟨(hm c (.inl rfl)).trans h.hc, (hm b (.inr (.inl rfl))).trans h.hb, ⟨h.rows.1, fun i hi => own_move (h.rows.2.1 i hi) (fun k hk => hm k (.inr (.inr ⟨i, by rw [h.rows.1]; exact hi, hk⟩))), h.rows.2.2⟩, h.bc, h.bb, h.small, h.wy1, h.wy16, h.lens⟩
theorem St.later {w w' : World} {base c b : Nat} {wy : Int} {vs : List Value} {M : List (List Int)} (h : St w base c b wy vs M) (hb : Below w.heap.size w w') : St w' base c b wy vs M :=
  h.move (fun k hk => hb.block k (h.foot_lt hk).2)
theorem St.kept {w w' : World} {S : Nat → Prop} {base c b : Nat} {wy : Int} {vs : List Value} {M : List (List Int)} (h : St w base c b wy vs M) (hb : Kept w w' S) (hd : ∀ k, Foot c b vs k → ¬ S k) : St w' base c b wy vs M :=
  h.move (fun k hk => hb.2 k (h.foot_lt hk).2 (hd k hk))
theorem St.apart {w : World} {base c b : Nat} {wy : Int} {vs : List Value} {M : List (List Int)} (h : St w base c b wy vs M) {n : Nat} (hn : n < M.length) : (vs.getD n nilV).ownBlock ≠ some c ∧ (vs.getD n nilV).ownBlock ≠ some b ∧ c ≠ b := by
  refine ⟨fun e => ?_, fun e => ?_, fun e => ?_⟩
  · obtain ⟨cs, hh⟩ := own_typed (h.rows.2.1 n hn) c e
    rw [h.hc] at hh
    simp at hh
  · obtain ⟨cs, hh⟩ := own_typed (h.rows.2.1 n hn) b e
    rw [h.hb] at hh
    simp at hh
  · have h1 := h.hc
    rw [e] at h1
    have h2 := h.hb
    unfold Bl at h1 h2
    rw [h1] at h2
    simp at h2
/-- One set's row was written, and its slice laid in its place. -/
theorem St.touched {w w2 : World} {base c b : Nat} {wy : Int} {vs : List Value} {M : List (List Int)} (h : St w base c b wy vs M) {n : Nat} (hn : n < M.length) {v' : Value} {L' : List Int}
    (hg : w.grownBy w2 (vs.getD n nilV).ownBlock) (ho : w2.ownsRow base 31 1 v' L'.length (nums .u64 L')) (hat : v'.ownBlock = (vs.getD n nilV).ownBlock ∨ ∃ g, v'.ownBlock = some g ∧ w.heap.size ≤ g) (hL : (L'.length : Int) ≤ wy) :
    St (w2.setCell ⟨b, n, none⟩ v') base c b wy (vs.set n v') (M.set n L') ∧ Kept w (w2.setCell ⟨b, n, none⟩ v') (Foot c b vs) ∧ (∀ k, Foot c b (vs.set n v') k → Foot c b vs k ∨ w.heap.size ≤ k) ∧ Below base w (w2.setCell ⟨b, n, none⟩ v') := by
  obtain ⟨hac, hab, hcb⟩ := h.apart hn
  have hvl : n < vs.length := by rw [h.rows.1]; exact hn
  have hcl : c < w.heap.size := blk_lt h.hc
  have hbl : b < w.heap.size := blk_lt h.hb
  have hc2 : Bl w2 c 58 #[.slice (some ⟨b, 0, none⟩) M.length M.length, .int .i64 wy] := (hg.block c hcl (fun e => hac e.symm)).trans h.hc
  have hb2 : Bl w2 b 23 vs.toArray := (hg.block b hbl (fun e => hab e.symm)).trans h.hb
  have hv'b : v'.ownBlock ≠ some b := by
    rcases hat with e | ⟨g, e, hge⟩
    · rw [e]; exact hab
    · rw [e]; intro h; injection h with h; omega
  have hother : ∀ i, i < M.length → i ≠ n → ∀ k, (vs.getD i nilV).ownBlock = some k → k < w.heap.size ∧ (w2.setCell ⟨b, n, none⟩ v').heap[k]? = w.heap[k]? := by
    intro i hi hne k hk
    have hlt := ((h.rows.2.1 i hi).lt k hk).2
    have hkb : k ≠ b := fun e => (h.apart hi).2.1 (by rw [hk, e])
    have hkn : (vs.getD n nilV).ownBlock ≠ some k := h.rows.2.2 i n k hi hn hne hk
    exact ⟨hlt, (Below.heap_setCell w2 ⟨b, n, none⟩ v' k hkb).trans (hg.block k hlt (fun e => hkn e.symm))⟩
  have hsz : (w2.setCell ⟨b, n, none⟩ v').heap.size = w2.heap.size := by simp [World.setCell]
  refine ⟨⟨?_, ?_, ⟨by simp [h.rows.1], ?_, ?_⟩, h.bc, h.bb, by simpa using h.small, h.wy1, h.wy16, ?_⟩, ⟨by rw [hsz]; exact hg.size, ?_⟩, ?_, ?_⟩
  · have := (Below.heap_setCell w2 ⟨b, n, none⟩ v' c hcb).trans hc2
    simpa [Bl] using this
  · have := blk_set hb2 n v'
    have e : (vs.set n v').toArray = vs.toArray.setIfInBounds n v' := by simp
    rw [e]
    exact this
  · intro i hi
    rw [List.length_set] at hi
    by_cases hin : i = n
    · subst hin
      rw [getD_set_same _ _ _ _ hvl, getD_set_same _ _ _ _ hn]
      exact own_move ho (fun k hk => Below.heap_setCell w2 ⟨b, i, none⟩ v' k (fun e => hv'b (by rw [hk, e])))
    · rw [getD_set_other _ _ _ _ _ hin, getD_set_other _ _ _ _ _ hin]
      exact own_move (h.rows.2.1 i hi) (fun k hk => (hother i hi hin k hk).2)
  · intro i j k hi hj hij hk
    rw [List.length_set] at hi hj
    by_cases hin : i = n
    · subst hin
      rw [getD_set_same _ _ _ _ hvl] at hk
      rw [getD_set_other _ _ _ _ _ (Ne.symm hij)]
      intro hk'
      have hlt := ((h.rows.2.1 j hj).lt k hk').2
      rcases hat with e | ⟨g, e, hge⟩
      · rw [e] at hk
        exact h.rows.2.2 i j k hi hj hij hk hk'
      · rw [e] at hk
        injection hk with hk
        omega
    · rw [getD_set_other _ _ _ _ _ hin] at hk
      have hlt := ((h.rows.2.1 i hi).lt k hk).2
      by_cases hjn : j = n
      · subst hjn
        rw [getD_set_same _ _ _ _ hvl]
        intro hk'
        rcases hat with e | ⟨g, e, hge⟩
        · rw [e] at hk'
          exact h.rows.2.2 i j k hi hj hij hk hk'
        · rw [e] at hk'
          injection hk' with hk'
          omega
      · rw [getD_set_other _ _ _ _ _ hjn]
        exact h.rows.2.2 i j k hi hj hij hk
  · intro i hi
    rw [List.length_set] at hi
    by_cases hin : i = n
    · subst hin
      rw [getD_set_same _ _ _ _ hn]
      exact hL
    · rw [getD_set_other _ _ _ _ _ hin]
      exact h.lens i hi
  · intro k hk hnf
    have hkb : k ≠ b := fun e => hnf (.inr (.inl e))
    have hkn : (vs.getD n nilV).ownBlock ≠ some k := fun e => hnf (.inr (.inr ⟨n, hvl, e⟩))
    exact (Below.heap_setCell w2 ⟨b, n, none⟩ v' k hkb).trans (hg.block k hk (fun e => hkn e.symm))
  · rintro k (rfl | rfl | ⟨i, hi, hk⟩)
    · exact .inl (.inl rfl)
    · exact .inl (.inr (.inl rfl))
    · rw [List.length_set] at hi
      by_cases hin : i = n
      · subst hin
        rw [getD_set_same _ _ _ _ hvl] at hk
        rcases hat with e | ⟨g, e, hge⟩
        · exact .inl (.inr (.inr ⟨i, hi, by rw [← e]; exact hk⟩))
        · rw [e] at hk
          injection hk with hk
          subst hk
          exact .inr hge
      · rw [getD_set_other _ _ _ _ _ hin] at hk
        exact .inl (.inr (.inr ⟨i, hi, hk⟩))
  · refine ⟨hg.os, hg.tape, hg.output, by rw [hsz]; exact hg.size, fun k hk => ?_⟩
    have hbase : base ≤ w.heap.size := Nat.le_trans h.bc (Nat.le_of_lt hcl)
    have hkb : k ≠ b := by have := h.bb; omega
    refine (Below.heap_setCell w2 ⟨b, n, none⟩ v' k hkb).trans (hg.block k (by omega) (fun e => ?_))
    have := ((h.rows.2.1 n hn).lt k e.symm).1
    omega
end Go.Proofs.Ytcneepffhplpiaa.H
