/- Lines by its contract. -/
import Derived.Test.YtcneepffhplpiaaC4
import Derived.Test.YtcneepffhplpiaaHx0
namespace Go.Proofs.Ytcneepffhplpiaa.H
open Go.RowKit Go.Proofs.YtcneepffhplpiaaW.PrintWords Go.Proofs.YtcneepffhplpiaaW.PrintLast Go.Proofs.YtcneepffhplpiaaW.PrintMore
set_option linter.unusedVariables false
set_option linter.unusedSimpArgs false
set_option maxHeartbeats 8000000
set_option maxRecDepth 100000
def row39 (i : Nat) (l : List Int) : List S39 := l.map fun t => ⟨(i : Int), t⟩
/-- All tags, set by set. -/
def LN (M : List (List Int)) (i : Nat) : List S39 := ((List.range i).map fun j => row39 j (M.getD j [])).flatten
theorem LN_next (M : List (List Int)) (i : Nat) : LN M (i + 1) = LN M i ++ row39 i (M.getD i []) := by simp [LN, List.range_succ]
theorem LN_le (M : List (List Int)) (h : ∀ i, i < M.length → (M.getD i []).length ≤ 16) : ∀ i, i ≤ M.length → (LN M i).length ≤ 16 * i
  | 0, _ => by simp [LN]
  | i + 1, hi => by
    rw [LN_next, List.length_append]
    have := LN_le M h i (by omega)
    have := h i (by omega)
    simp only [row39, List.length_map]
    omega
theorem row_step (i : Nat) (l : List Int) {j : Nat} (hj : j < l.length) : row39 i (l.take (j + 1)) = row39 i (l.take j) ++ [⟨(i : Int), rd l (j : Int)⟩] := by
  unfold row39
  rw [List.take_succ_eq_append_getElem hj, List.map_append, rd_get hj]
  rfl
theorem lines_any (w : World) (base c b : Nat) (wy : Int) (vs : List Value) (M : List (List Int)) (h : St w base c b wy vs M) :
    Calls Try.prog 14 #[.pointer (some ⟨c, 0, none⟩)] w fun e w' => ∃ v, e = .returned v ∧ Kd.R k39 39 w' w.heap.size (fun _ => True) v (LN M M.length) ∧ Below w.heap.size w w' := by
  have hc0 : w.cell? ⟨c, 0, none⟩ = some (.slice (some ⟨b, 0, none⟩) M.length M.length) := blk_cell h.hc 0
  have hM := h.small
  have hl : ∀ i, i < M.length → (M.getD i []).length ≤ 16 := fun i hi => by have := h.lens i hi; have := h.wy16; omega
  have HL := Aside0.mk (LN_le M hl)
  have HL16 := Aside0.mk hl
  have hv : ∀ i, i < M.length → ∃ A cc, w.cell? ⟨b, i, none⟩ = some (.slice A (M.getD i []).length cc) ∧ ReadsInt w .u64 A (M.getD i []).length (M.getD i []) := fun i hi => by
    obtain ⟨A, cc, hv, hr⟩ := own_reads (h.rows.2.1 i hi)
    refine ⟨A, cc, (blk_cell h.hb i).trans ?_, hr⟩
    rw [← hv]
    simp [show i < vs.length by rw [h.rows.1]; exact hi]
  have HV := Aside0.mk hv
  clear hl hv h
  go_enter Try.func14, Try.ntmps14
  go_wp2_with fail
  go_loopw [3, 15] (fun v3 v15 wr => ∃ i : Nat, i ≤ M.length ∧ v15 = .int .i64 i ∧ Aside0 (Kd.R k39 39 wr w.heap.size (fun _ => True) v3 (LN M i)) ∧ Aside0 (Below w.heap.size w wr)) (fun _ v15 _ => M.length - (intOf v15).toNat)
  case atStart => exact ⟨0, by omega, rfl, ⟨Kd.R_nil _ _ _ _ _⟩, ⟨Below.refl _ _⟩⟩
  case round =>
    obtain ⟨i, hi, rfl, hR, hB⟩ := hrel
    by_cases hlt : i < M.length
    · obtain ⟨A, cc, hvs0, hrd0⟩ := HV.out i hlt
      have hvs := pw_cell_below hB.out hvs0
      have HRD := Aside0.mk hrd0
      have hl16 := HL16.out i hlt
      have HNX := Aside0.mk (LN_next M i)
      have hcl := HL.out i (by omega)
      clear hvs0 hrd0
      generalize M.getD i [] = L at hvs HRD hl16 HNX
      go_wp2_with fail
      go_loopw [3, 22] (fun v3 v22 wr => ∃ j : Nat, j ≤ L.length ∧ v22 = .int .i64 j ∧ Aside0 (Kd.R k39 39 wr w.heap.size (fun _ => True) v3 (LN M i ++ row39 i (L.take j))) ∧ Aside0 (Below w.heap.size w wr)) (fun _ v22 _ => L.length - (intOf v22).toNat)
      case atStart => exact ⟨0, by omega, rfl, ⟨by have := hR.out; simpa [row39] using this⟩, hB⟩
      case round =>
        clear hR hB hvs
        obtain ⟨j, hj, rfl, hR, hB⟩ := hrel
        by_cases hjl : j < L.length
        · have hrd := (HRD.out.below hB.out).at_ (j : Int) (by omega) (by omega)
          obtain ⟨ad, rfl, hc⟩ := hrd
          rw [Int.toNat_natCast] at hc
          have HRS := Aside0.mk (row_step i L hjl)
          generalize rd L (j : Int) = t at hc HRS
          have hbs : Aside0 (w.heap.size ≤ wr.heap.size) := ⟨hB.out.size⟩
          have hle : Aside0 (((LN M i ++ row39 i (L.take j)).length + 1) * 16 ≤ 140737488355328) := ⟨by
            rw [List.length_append, row39, List.length_map, List.length_take]
            omega⟩
          go_wp2_with (first | ((with_reducible refine gate_builtin (b := .append) (xs := #[.tmp 26, .tmp 30]) rfl ?_); at_builtin; refine Kd.R_append k39 (w0 := w) w.heap.size rfl (.tmp 26) (.tmp 30) 37 39 (.agg #[.int .i64 0, .int .u64 0]) 16 rfl Try.underlying37 info39 rfl (by decide) (by omega) _ (LN M i ++ row39 i (L.take j)) (⟨(i : Int), t⟩ : S39) [.int .i64 (i : Int), .int .u64 t] (fun _ => True) (fun _ => False) rfl rfl (k39_mkM _ _ _ (⟨(i : Int), t⟩ : S39)) (fun _ hk => hk.elim) (fun _ _ => trivial) hR.out hB.out hbs.out hle.out ?_; intro v' wa ho1 hb1 hg1 hat1; have HO := Aside0.mk ho1; have HBa := Aside0.mk hb1; clear ho1 hb1 hg1 hat1; refine Hold.of ?_))
          unfold Hold
          have HO' : Aside0 (Kd.R k39 39 wa w.heap.size (fun _ => True) v' (LN M i ++ row39 i (L.take (j + 1)))) := ⟨by rw [HRS.out, ← List.append_assoc]; exact HO.out⟩
          clear HO HRS hR hB hbs hle hc
          go_wp2_with fail
          go_roundw
          case rel => exact ⟨j + 1, by omega, by go_num, HO', HBa⟩
          case measure => simp [intOf]; omega
        · have hje : j = L.length := by omega
          subst hje
          have HO' : Aside0 (Kd.R k39 39 wr w.heap.size (fun _ => True) u3 (LN M (i + 1))) := ⟨by rw [HNX.out]; have := hR.out; rw [List.take_length] at this; exact this⟩
          clear hR
          go_wp2_with fail
          go_roundw
          case rel => exact ⟨i + 1, by omega, by go_num, HO', hB⟩
          case measure => simp [intOf]; omega
    · have hiM : i = M.length := by omega
      subst hiM
      obtain ⟨A3, c3, rfl⟩ := Kd.R_slice hR.out
      go_wp2_with fail
      go_ret
      exact ⟨_, rfl, hR.out, hB.out⟩
end Go.Proofs.Ytcneepffhplpiaa.H
