/- Contract of Read, the program's: it comes to 'rdB', 'rdA', 'rdE' of the word. -/
import Derived.Test.YtfhiboibfhjmpaaC5
import Derived.Deep.DrawnRows
namespace Go.Proofs.Ytfhiboibfhjmpaa.H
open Go.RowKit Go.Proofs.YtfhiboibfhjmpaaW.PrintWords Go.Proofs.YtfhiboibfhjmpaaW.PrintLast Go.Proofs.YtfhiboibfhjmpaaW.PrintMore
set_option linter.unusedVariables false
set_option linter.unusedSimpArgs false
attribute [local go_sem ↓] Go.wp_at_zero Go.wp_at_succ
def hn (x m : Int) : Bool := bits .and .u64 x m != 0
theorem hn_hb (x m : Int) (h0 : 0 ≤ x) (h1 : x < 18446744073709551616) (h2 : 0 ≤ m) (h3 : m < 18446744073709551616) : hn x m = hb x m := by
  unfold hn hb
  rw [u64_and x m h0 h1 h2 h3, Bool.eq_iff_iff]
  simp
  omega
theorem has_any (x m : Int) (a : Addr) (w : World) (hc : w.cell? a = some (.int .u64 x)) : Calls Try.prog 17 #[.int .u64 m, .pointer (some a)] w fun e w' => e = .returned (.bool (hn x m)) ∧ w = w' := by
  go_enter Try.func17, Try.ntmps17
  go_wp2
  go_ret
  exact ⟨rfl, rfl⟩
theorem cut_made (w : World) (o1 o2 o3 : Obj) : Value.pointer (some { block := w.heap.size + 1 + 1, off := 0 }) = Value.pointer (some { block := w.heap.size + 2, off := 0 }) ∧
    (((w.alloc o1).alloc o2).alloc o3).drew.heap[w.heap.size + 2]? = some o3 ∧ (((w.alloc o1).alloc o2).alloc o3).drew.heap[w.heap.size + 1]? = some o2 ∧ Below w.heap.size w (((w.alloc o1).alloc o2).alloc o3).drew := by
  refine ⟨rfl, blk_drew ?_, blk_drew (blk_alloc ?_ _), below_drew (below_alloc (below_alloc (below_alloc (Below.refl _ _) _) _) _)⟩
  · have := blk_new ((w.alloc o1).alloc o2) o3
    simpa using this
  · have := blk_new (w.alloc o1) o2
    simpa using this
set_option maxHeartbeats 4000000 in
set_option maxRecDepth 100000 in
theorem entry_Read_fits (x : Int) (w : World) (h0 : 0 ≤ x) (h1 : x < 18446744073709551616) (hm : (bits .andNot .u64 x 1048383 != 0) = false) (b1 b2 b3 b4 b5 b6 : Bool) (E : Int) (hE : E = 0 ∨ E = 70)
    (e1 : hn x 1 = b1) (e2 : hn x 2 = b2) (e3 : hn x 4 = b3) (e4 : hn x 8 = b4) (e5 : hn x 16 = b5) (e6 : hn x 32 = b6) (eE : Chk b1 b2 b3 b4 b5 b6 (x / 256) = E) :
    Calls Try.prog 14 #[.int .u64 x] w fun e w' => e = .returned (.tuple #[if E = 0 then .agg #[.bool b1, .bool b2, .bool b3, .bool b4, .bool b5, .bool b6, .int .i64 (x / 256)] else .agg #[.bool false, .bool false, .bool false, .bool false, .bool false, .bool false, .int .i64 0], .int .i64 E]) ∧ Below w.heap.size w w' := by
  have hu23 := Try.underlying23
  have E1 := Aside0.mk e1
  have E2 := Aside0.mk e2
  have E3 := Aside0.mk e3
  have E4 := Aside0.mk e4
  have E5 := Aside0.mk e5
  have E6 := Aside0.mk e6
  have EE := Aside0.mk eE
  have hE' := Aside0.mk hE
  have hwr := Aside0.mk (show IntKind.i64.wrap (x / 256) = x / 256 by rw [IntKind.wrap_i64]; omega)
  clear e1 e2 e3 e4 e5 e6 eE hE
  have hmf : ∀ (fn : Fn) (first cap : Array Value) (w : World), (Instr.makeFunc fn first cap).run Try.prog w = .ok (.func fn first cap) w := fun _ _ _ _ => rfl
  go_enter Try.func14, Try.ntmps14
  go_upto_region 4 with fail
  go_cut [5] (fun s5 wx => s5 = .pointer (some ⟨w.heap.size + 2, 0, none⟩) ∧ wx.heap[w.heap.size + 2]? = some (.cells #[.bool b1, .bool b2, .bool b3, .bool b4, .bool b5, .bool b6, .int .i64 (x / 256)] 23 (0, 0)) ∧ wx.heap[w.heap.size + 1]? = some (.cells #[.bool false, .bool false, .bool false, .bool false, .bool false, .bool false, .int .i64 0] 23 (0, 0)) ∧ Below w.heap.size w wx)
  case first =>
    go_region_held3 (fun w' => w'.cell? ⟨w.heap.size, 0, none⟩ = some (.int .u64 x)) (go_keep) (first | (go_at_call 17; refine (has_any x _ ⟨w.heap.size, 0, none⟩ _ ?_).mono ?_; (simp [*]); rintro e w' ⟨rfl, rfl⟩))
    all_goals
      go_wp2_with fail
      go_meet
      rw [E1.out, E2.out, E3.out, E4.out, E5.out, E6.out, hwr.out]
      exact cut_made w _ _ _
  case rest =>
    obtain ⟨rfl, hg2, hg1, hbel⟩ := hcut
    have G2 := Aside0.mk hg2
    have G1 := Aside0.mk hg1
    have HB := Aside0.mk hbel
    have HS := hbel.size
    have hlt : w.heap.size + 2 < wc.heap.size := blk_lt hg2
    have hlt1 : w.heap.size + 1 < wc.heap.size := blk_lt hg1
    clear hg2 hg1 hbel
    have c20 : wc.cell? ⟨w.heap.size + 2, 0, none⟩ = some (.bool b1) := (blk_cell G2.out 0).trans rfl
    have c21 : wc.cell? ⟨w.heap.size + 2, 1, none⟩ = some (.bool b2) := (blk_cell G2.out 1).trans rfl
    have c22 : wc.cell? ⟨w.heap.size + 2, 2, none⟩ = some (.bool b3) := (blk_cell G2.out 2).trans rfl
    have c23 : wc.cell? ⟨w.heap.size + 2, 3, none⟩ = some (.bool b4) := (blk_cell G2.out 3).trans rfl
    have c24 : wc.cell? ⟨w.heap.size + 2, 4, none⟩ = some (.bool b5) := (blk_cell G2.out 4).trans rfl
    have c25 : wc.cell? ⟨w.heap.size + 2, 5, none⟩ = some (.bool b6) := (blk_cell G2.out 5).trans rfl
    have c26 : wc.cell? ⟨w.heap.size + 2, 6, none⟩ = some (.int .i64 (x / 256)) := (blk_cell G2.out 6).trans rfl
    have c1 : ∀ j, wc.cell? ⟨w.heap.size + 1, j, none⟩ = #[Value.bool false, .bool false, .bool false, .bool false, .bool false, .bool false, .int .i64 0][j]? := fun j => blk_cell G1.out j
    have f1 : ∀ j, wc.frozen? ⟨w.heap.size + 1, j, none⟩ = false := fun j => blk_frozen G1.out j
    rcases hE'.out with rfl | rfl
    · go_wp2_with (go_at_call 9; refine (entry_Check _ _ _ _ _ _ _ _).mono ?_; rintro e w1 ⟨rfl, hb⟩; rw [EE.out]; obtain ⟨hc, hf⟩ := bcell hb)
      have hb1 := blk_set7 (blk_below G1.out hb)
      refine bodyPost_ret (results_ct (P := Try.prog) Try.results14 _ _ (w.heap.size + 1) 23 _ (0, 0) _ ?h1 (hb1 _ _ _ _ _ _ _) Try.underlying23 rfl (by kernel_rfl)) rfl ?h2
      case h1 => rfl
      refine ⟨rfl, ?_⟩
      exact below_set7 (below_then HB.out HS hb) (Nat.le_succ _) _ _ _ _ _ _ _
    · go_wp2_with (go_at_call 9; refine (entry_Check _ _ _ _ _ _ _ _).mono ?_; rintro e w1 ⟨rfl, hb⟩; rw [EE.out]; obtain ⟨hc, hf⟩ := bcell hb)
      have hb1 := blk_set7 (blk_below G1.out hb)
      refine bodyPost_ret (results_ct (P := Try.prog) Try.results14 _ _ (w.heap.size + 1) 23 _ (0, 0) _ ?h3 (hb1 _ _ _ _ _ _ _) Try.underlying23 rfl (by kernel_rfl)) rfl ?h4
      case h3 => rfl
      refine ⟨rfl, ?_⟩
      exact below_set7 (below_then HB.out HS hb) (Nat.le_succ _) _ _ _ _ _ _ _
end Go.Proofs.Ytfhiboibfhjmpaa.H
