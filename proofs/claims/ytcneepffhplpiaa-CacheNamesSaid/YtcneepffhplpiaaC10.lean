/- Flush of both. -/
import Derived.Test.YtcneepffhplpiaaC9
import Derived.Lib.SliceRun
namespace Go.Proofs.Ytcneepffhplpiaa.H
open Go.RowKit Go.Proofs.YtcneepffhplpiaaW.PrintWords Go.Proofs.YtcneepffhplpiaaW.PrintLast Go.Proofs.YtcneepffhplpiaaW.PrintMore
set_option linter.unusedVariables false
set_option linter.unusedSimpArgs false
set_option maxHeartbeats 8000000
set_option maxRecDepth 100000
theorem emp_rows (w : World) (base n : Nat) : Rows w base (List.replicate n nilV) (emp n) := by
  refine ⟨by simp [emp], fun i hi => ?_, fun i j k hi hj hij hk => ?_⟩
  · rw [emp_get, nil_get]
    exact own_nil _ _ _ _
  · rw [nil_get] at hk
    simp [nilV, Value.ownBlock] at hk
theorem nil_foot {c b n k : Nat} (h : Foot c b (List.replicate n nilV) k) : k = c ∨ k = b := by
  rcases h with h | h | ⟨i, hi, hk⟩
  · exact .inl h
  · exact .inr h
  · rw [nil_get] at hk
    simp [nilV, Value.ownBlock] at hk
theorem SR.flushed {w : World} {base c b : Nat} {wy : Int} {vs : List Value} {M : List (List Int)} (h : SR w base c b wy vs M) :
    SR ((w.alloc (.cells (madeCells #[nilV] M.length) 23)).setCell ⟨c, 1, none⟩ (.slice (some ⟨w.heap.size, 0, none⟩) M.length M.length)) base c w.heap.size wy (List.replicate M.length nilV) (emp M.length) ∧
    Kept w ((w.alloc (.cells (madeCells #[nilV] M.length) 23)).setCell ⟨c, 1, none⟩ (.slice (some ⟨w.heap.size, 0, none⟩) M.length M.length)) (Foot c b vs) ∧ (∀ k, Foot c w.heap.size (List.replicate M.length nilV) k → Foot c b vs k ∨ w.heap.size ≤ k) ∧
    Below base w ((w.alloc (.cells (madeCells #[nilV] M.length) 23)).setCell ⟨c, 1, none⟩ (.slice (some ⟨w.heap.size, 0, none⟩) M.length M.length)) := by
  have hcl : c < w.heap.size := blk_lt h.hc
  have hba := below_alloc (Below.refl w.heap.size w) (.cells (madeCells #[nilV] M.length) 23)
  have hb : Bl (w.alloc (.cells (madeCells #[nilV] M.length) 23)) w.heap.size 23 (List.replicate M.length nilV).toArray := by
    have := heap_alloc_new w (.cells (madeCells #[nilV] M.length) 23)
    rw [made_list] at this
    rw [made_list]
    exact this
  have hl : (emp M.length).length = M.length := by simp [emp]
  have hc2 := h.hc.later hba
  refine ⟨⟨?_, ?_, emp_rows _ _ _, h.bc, Nat.le_trans h.bc (Nat.le_of_lt hcl), by rw [hl]; exact h.small, h.wy1, h.wy16, fun i hi => ?_⟩, ⟨?_, ?_⟩, ?_, ?_⟩
  · have := blk_set hc2 1 (.slice (some ⟨w.heap.size, 0, none⟩) M.length M.length)
    rw [hl]
    exact this
  · exact (Below.heap_setCell _ ⟨c, 1, none⟩ _ w.heap.size (by show w.heap.size ≠ c; omega)).trans hb
  · rw [emp_get]
    have := h.wy1
    simp
    omega
  · simp [World.setCell]
  · intro k hk hnf
    have hkc : k ≠ c := fun e => hnf (.inl e)
    exact (Below.heap_setCell _ ⟨c, 1, none⟩ _ k hkc).trans (hba.block k hk)
  · intro k hk
    rcases nil_foot hk with rfl | rfl
    · exact .inl (.inl rfl)
    · exact .inr (Nat.le_refl _)
  · have hbase : base ≤ w.heap.size := Nat.le_trans h.bc (Nat.le_of_lt hcl)
    exact Below.setCell ⟨hba.os, hba.tape, hba.output, hba.size, fun k hk => hba.block k (by omega)⟩ h.bc _
theorem St.flushed {w : World} {base c b : Nat} {wy : Int} {vs : List Value} {M : List (List Int)} (h : St w base c b wy vs M) :
    St (w.setCells b 0 (List.replicate M.length nilV)) base c b wy (List.replicate M.length nilV) (emp M.length) ∧
    Kept w (w.setCells b 0 (List.replicate M.length nilV)) (Foot c b vs) ∧ (∀ k, Foot c b (List.replicate M.length nilV) k → Foot c b vs k ∨ w.heap.size ≤ k) ∧
    Below base w (w.setCells b 0 (List.replicate M.length nilV)) := by
  have hl : (emp M.length).length = M.length := by simp [emp]
  have hvl := h.rows.1
  obtain ⟨cur', h1, h2, h3⟩ := setCells_row (List.replicate M.length nilV) 0 w vs.toArray h.hb (by simp [hvl])
  obtain ⟨o1, o2, o3, o4⟩ := setCells_same b (List.replicate M.length nilV) 0 w
  have hcb : c ≠ b := by
    intro e
    have h1 := h.hc
    rw [e] at h1
    have h2 := h.hb
    unfold Bl at h1 h2
    rw [h1] at h2
    simp at h2
  have hcur : cur' = (List.replicate M.length nilV).toArray := by
    apply Array.ext'
    rw [h3]
    simp [hvl]
  refine ⟨⟨?_, ?_, emp_rows _ _ _, h.bc, h.bb, by rw [hl]; exact h.small, h.wy1, h.wy16, fun i hi => ?_⟩, ⟨by omega, ?_⟩, ?_, ?_⟩
  · have := (setCells_far (List.replicate M.length nilV) 0 (w := w) c hcb).trans h.hc
    rw [hl]
    exact this
  · rw [← hcur]
    exact h1
  · rw [emp_get]
    have := h.wy1
    simp
    omega
  · intro k hk hnf
    exact setCells_far _ 0 k (fun e => hnf (.inr (.inl e)))
  · intro k hk
    rcases nil_foot hk with rfl | rfl
    · exact .inl (.inl rfl)
    · exact .inl (.inr (.inl rfl))
  · refine ⟨o1, o2, o3, by omega, fun k hk => setCells_far _ 0 k ?_⟩
    have := h.bb
    omega
theorem rflush_any (w : World) (base c b : Nat) (wy : Int) (vs : List Value) (M : List (List Int)) (h : SR w base c b wy vs M) :
    Calls Try.prog 30 #[.pointer (some ⟨c, 0, none⟩)] w fun e w' => ∃ b', e = .returned (.int .i64 (cnt M : Nat)) ∧ SR w' base c b' wy (List.replicate M.length nilV) (emp M.length) ∧ Kept w w' (Foot c b vs) ∧ (∀ k, Foot c b' (List.replicate M.length nilV) k → Foot c b vs k ∨ w.heap.size ≤ k) ∧ Below base w w' := by
  have HH := Aside0.mk (rcount_any w base c b wy vs M h)
  have hmk := make56 M.length h.small
  have HS := Aside0.mk h
  have hbw : base ≤ w.heap.size := Nat.le_trans h.bc (Nat.le_of_lt (blk_lt h.hc))
  clear h
  go_enter Try.func30, Try.ntmps30
  go_wp2_with fail
  refine HH.out.mono ?_
  rintro e w1 ⟨rfl, hd⟩
  have HS1 : Aside0 (SR w1 base c b wy vs M) := ⟨HS.out.later hd.below⟩
  have HF := Aside0.mk (SR.flushed HS1.out)
  have hc1 : w1.cell? ⟨c, 1, none⟩ = some (.slice (some ⟨b, 0, none⟩) M.length M.length) := blk_cell HS1.out.hc 1
  have hba := below_alloc (Below.refl w1.heap.size w1) (.cells (madeCells #[nilV] M.length) 23)
  have hc2 := pw_cell_below hba hc1
  have hf2 : (w1.alloc (.cells (madeCells #[nilV] M.length) 23)).frozen? ⟨c, 1, none⟩ = false := (HS1.out.hc.later hba).free 1
  clear hba HS HS1
  have HD := Aside0.mk hd.below
  clear hd
  go_wp2_with fail
  go_ret
  obtain ⟨f1, f2, f3, f4⟩ := HF.out
  exact ⟨_, rfl, f1, (Kept.of_below HD.out _).then_ f2 (fun _ h => .inl h), fun k hk => (f3 k hk).elim .inl (fun h => .inr (Nat.le_trans HD.out.size h)), Below.trans ⟨HD.out.os, HD.out.tape, HD.out.output, HD.out.size, fun k hk => HD.out.block k (by omega)⟩ f4⟩
theorem zero23 (w : World) : (zeroValue 23).run Try.prog w = .ok nilV w := by kernel_rfl
theorem flush_any (w : World) (base c b : Nat) (wy : Int) (vs : List Value) (M : List (List Int)) (h : St w base c b wy vs M) (hn : 1 ≤ M.length) :
    Calls Try.prog 20 #[.pointer (some ⟨c, 0, none⟩)] w fun e w' => e = .returned (.tuple #[.int .i64 (cnt M : Nat), .int .i64 0]) ∧ St w' base c b wy (List.replicate M.length nilV) (emp M.length) ∧ Kept w w' (Foot c b vs) ∧ (∀ k, Foot c b (List.replicate M.length nilV) k → Foot c b vs k ∨ w.heap.size ≤ k) ∧ Below base w w' := by
  have HH := Aside0.mk (count_any w base c b wy vs M h)
  have hc1 : w.cell? ⟨c, 1, none⟩ = some (.int .i64 wy) := blk_cell h.hc 1
  have hw0 : wy ≠ 0 := by have := h.wy1; omega
  have HS := Aside0.mk h
  have hbw : base ≤ w.heap.size := Nat.le_trans h.bc (Nat.le_of_lt (blk_lt h.hc))
  clear h
  go_enter Try.func20, Try.ntmps20
  go_wp2_with fail
  refine HH.out.mono ?_
  rintro e w1 ⟨rfl, hd⟩
  have HS1 : Aside0 (St w1 base c b wy vs M) := ⟨HS.out.later hd.below⟩
  have HF := Aside0.mk (St.flushed HS1.out)
  have hc0 : w1.cell? ⟨c, 0, none⟩ = some (.slice (some ⟨b, 0, none⟩) M.length M.length) := blk_cell HS1.out.hc 0
  have hvl := HS1.out.rows.1
  have hclr := fun ty => Go.Lib.run_clear_slice (P := Try.prog) w1 56 23 ty nilV Try.underlying56 zero23 rfl rfl b 0 M.length M.length (by omega) (fun j hj => by rw [Nat.zero_add, blk_cell HS1.out.hb j]; simp [hvl, hj]) (fun j hj => HS1.out.hb.free _)
  clear hc1 HS HS1 hvl
  have HD := Aside0.mk hd.below
  clear hd
  go_wp2_with fail
  go_ret2
  obtain ⟨f1, f2, f3, f4⟩ := HF.out
  exact ⟨rfl, f1, (Kept.of_below HD.out _).then_ f2 (fun _ h => .inl h), fun k hk => (f3 k hk).elim .inl (fun h => .inr (Nat.le_trans HD.out.size h)), Below.trans ⟨HD.out.os, HD.out.tape, HD.out.output, HD.out.size, fun k hk => HD.out.block k (by omega)⟩ f4⟩
end Go.Proofs.Ytcneepffhplpiaa.H
