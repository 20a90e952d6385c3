/- Contracts of cost.Worst and cost.Most over a contract of 'asked'. -/
import Derived.Test.YtpodcbaechlejaaC1
namespace Go.Proofs.Ytpodcbaechlejaa.H
open Go.RowKit Go.Proofs.YtpodcbaechlejaaW.PrintWords Go.Proofs.YtpodcbaechlejaaW.PrintLast Go.Proofs.YtpodcbaechlejaaW.PrintMore
set_option linter.unusedVariables false
set_option linter.unusedSimpArgs false

attribute [local go_sem] max2_int max_two
theorem bw_drew {l1 llc m fault step disk image user limit nodes : Int} {gc gs gm gp ga gf hm hu : Nat} {w : World} (hw : BW l1 llc m fault step disk image user limit nodes gc gs gm gp ga gf hm hu w) (n : Nat) : BW l1 llc m fault step disk image user limit nodes gc gs gm gp ga gf hm hu (w.drewN n) := hw
theorem q29 {l1 llc m fault step disk image user limit nodes : Int} {gc gs gm gp ga gf hm hu : Nat} {w : World} (hw : BW l1 llc m fault step disk image user limit nodes gc gs gm gp ga gf hm hu w) (n : Nat) : Calls Try.prog 29 #[.pointer (some ⟨gm, 0, none⟩)] (w.drewN n) fun e w' => e = .returned (.int .u64 (bd4 m)) ∧ w' = w.drewN n :=
  (clo29 l1 llc m fault step disk image user limit nodes gc gs gm gp ga gf hm hu _ (bw_drew hw n)).mono fun _ _ ⟨a, b⟩ => ⟨a, b.symm⟩
theorem q30 {l1 llc m fault step disk image user limit nodes : Int} {gc gs gm gp ga gf hm hu : Nat} {w : World} (hw : BW l1 llc m fault step disk image user limit nodes gc gs gm gp ga gf hm hu w) (n : Nat) : Calls Try.prog 30 #[.pointer (some ⟨gp, 0, none⟩)] (w.drewN n) fun e w' => e = .returned (.int .u64 (bd5 (pg m step))) ∧ w' = w.drewN n :=
  (clo30 l1 llc m fault step disk image user limit nodes gc gs gm gp ga gf hm hu _ (bw_drew hw n)).mono fun _ _ ⟨a, b⟩ => ⟨a, b.symm⟩
theorem bcell {W w1 : World} (hb : Below W.heap.size W w1) : (∀ b o, b < W.heap.size → w1.cell? ⟨b, o, none⟩ = W.cell? ⟨b, o, none⟩) ∧ (∀ b o, b < W.heap.size → w1.frozen? ⟨b, o, none⟩ = W.frozen? ⟨b, o, none⟩) :=
  ⟨fun b o h => hb.cell (p := ⟨b, o, none⟩) h, fun b o h => hb.frozen (p := ⟨b, o, none⟩) h⟩
theorem clo36 (l1 llc m fault step disk image user limit nodes : Int) (gc gs gm gp ga gf hm hu : Nat) (w : World) (hw : BW l1 llc m fault step disk image user limit nodes gc gs gm gp ga gf hm hu w) : Calls Try.prog 36 #[.pointer (some ⟨hm, 0, none⟩), .pointer (some ⟨hu, 0, none⟩)] w fun e w' => e = .returned (.int .u64 (mx (bd4 m) (bd5 (pg m step)))) ∧ ∃ n, w.drewN n = w' := by
  have hW := Aside0.mk hw
  have c1 : w.cell? ⟨hm, 0, none⟩ = some (.func (.func 29) #[] #[.pointer (some ⟨gm, 0, none⟩)]) := (blk_cell hw.2.2.2.2.2.2.1 0).trans rfl
  have c2 : w.cell? ⟨hu, 0, none⟩ = some (.func (.func 30) #[] #[.pointer (some ⟨gp, 0, none⟩)]) := (blk_cell hw.2.2.2.2.2.2.2 0).trans rfl
  clear hw
  by_cases h : bd4 m < bd5 (pg m step)
  · have hx : mx (bd4 m) (bd5 (pg m step)) = bd5 (pg m step) := by unfold mx; rw [if_pos h]
    rw [hx]
    clear hx
    go_enter Try.func36, Try.ntmps36
    go_wp2
    go_quiet ((first | (go_at_call 29; exact Calls.quiet_of_same (q29 hW.out _)) | (go_at_call 30; exact Calls.quiet_of_same (q30 hW.out _))))
    go_wp2
    go_ret
    exact ⟨rfl, _, rfl⟩
  · have hx : mx (bd4 m) (bd5 (pg m step)) = bd4 m := by unfold mx; rw [if_neg h]
    rw [hx]
    clear hx
    go_enter Try.func36, Try.ntmps36
    go_wp2
    go_quiet ((first | (go_at_call 29; exact Calls.quiet_of_same (q29 hW.out _)) | (go_at_call 30; exact Calls.quiet_of_same (q30 hW.out _))))
    go_wp2
    go_ret
    exact ⟨rfl, _, rfl⟩
def wk (m fault step disk image user limit nodes kind : Int) : Int := if kind ≥ 11 then IntKind.u64.wrap (IntKind.u64.wrap image * m) else IntKind.u64.wrap (IntKind.u64.wrap (IntKind.u64.wrap image * m) + bd m fault step disk user limit nodes kind.toNat)
theorem ret_tw {a b : Int} (h : a = b) : Ending.returned (.tuple #[.int .u64 a, .int .i64 0]) = .returned (.tuple #[.int .u64 b, .int .i64 0]) := by rw [h]
set_option maxHeartbeats 4000000 in
set_option maxRecDepth 100000 in
theorem worst_no (l1 llc m fault step disk image user limit nodes : Int) (t kind : Int) (ht : (t != 0) = true) (w : World) (hask : ∀ w : World, Calls Try.prog 25 #[.agg #[.int .u64 l1, .int .u64 llc, .int .u64 m, .int .u64 fault, .int .u64 step, .int .u64 disk], .agg #[.int .i64 image, .int .i64 user, .int .i64 limit, .int .i64 nodes]] w fun e w' => e = .returned (.int .i64 t) ∧ Below w.heap.size w w') :
    Calls Try.prog 15 #[.agg #[.int .u64 l1, .int .u64 llc, .int .u64 m, .int .u64 fault, .int .u64 step, .int .u64 disk], .agg #[.int .i64 image, .int .i64 user, .int .i64 limit, .int .i64 nodes], .int .u8 kind] w fun e w' => e = .returned (.tuple #[.int .u64 0, .int .i64 t]) ∧ Below w.heap.size w w' := by
  have hu24 := Try.underlying24
  have hu35 := Try.underlying35
  have HASK := Aside0.mk hask
  clear hask
  go_enter Try.func15, Try.ntmps15
  go_wp2_with (first | (go_at_call 25; refine (HASK.out _).mono ?_; rintro e w1 ⟨rfl, hb1⟩; obtain ⟨hc, hf⟩ := bcell hb1))
  go_ret2
  exact ⟨rfl, below_then (below_alloc (below_alloc (Below.refl w.heap.size w) (.cells #[.int .u64 l1, .int .u64 llc, .int .u64 m, .int .u64 fault, .int .u64 step, .int .u64 disk] 24)) (.cells #[.int .i64 image, .int .i64 user, .int .i64 limit, .int .i64 nodes] 35)) (by simp; omega) (by assumption)⟩
set_option maxHeartbeats 4000000 in
set_option maxRecDepth 100000 in
theorem worst_big (l1 llc m fault step disk image user limit nodes : Int) (kind : Int) (hk : 11 ≤ kind) (w : World) (hask : ∀ w : World, Calls Try.prog 25 #[.agg #[.int .u64 l1, .int .u64 llc, .int .u64 m, .int .u64 fault, .int .u64 step, .int .u64 disk], .agg #[.int .i64 image, .int .i64 user, .int .i64 limit, .int .i64 nodes]] w fun e w' => e = .returned (.int .i64 0) ∧ Below w.heap.size w w') :
    Calls Try.prog 15 #[.agg #[.int .u64 l1, .int .u64 llc, .int .u64 m, .int .u64 fault, .int .u64 step, .int .u64 disk], .agg #[.int .i64 image, .int .i64 user, .int .i64 limit, .int .i64 nodes], .int .u8 kind] w fun e w' => e = .returned (.tuple #[.int .u64 (wk m fault step disk image user limit nodes kind), .int .i64 0]) ∧ Below w.heap.size w w' := by
  have hu24 := Try.underlying24
  have hu35 := Try.underlying35
  have HASK := Aside0.mk hask
  clear hask
  have hx := Aside0.mk (show wk m fault step disk image user limit nodes kind = IntKind.u64.wrap (IntKind.u64.wrap image * m) by unfold wk; rw [if_pos hk])
  go_enter Try.func15, Try.ntmps15
  go_wp2_with (first | (go_at_call 25; refine (HASK.out _).mono ?_; rintro e w1 ⟨rfl, hb1⟩; obtain ⟨hc, hf⟩ := bcell hb1))
  go_ret2
  exact ⟨by rw [hx.out]; rfl, below_then (below_alloc (below_alloc (Below.refl w.heap.size w) (.cells #[.int .u64 l1, .int .u64 llc, .int .u64 m, .int .u64 fault, .int .u64 step, .int .u64 disk] 24)) (.cells #[.int .i64 image, .int .i64 user, .int .i64 limit, .int .i64 nodes] 35)) (by simp; omega) (by assumption)⟩
set_option maxHeartbeats 4000000 in
set_option maxRecDepth 100000 in
theorem worst0 (l1 llc m fault step disk image user limit nodes : Int) (w : World) (hask : ∀ w : World, Calls Try.prog 25 #[.agg #[.int .u64 l1, .int .u64 llc, .int .u64 m, .int .u64 fault, .int .u64 step, .int .u64 disk], .agg #[.int .i64 image, .int .i64 user, .int .i64 limit, .int .i64 nodes]] w fun e w' => e = .returned (.int .i64 0) ∧ Below w.heap.size w w') :
    Calls Try.prog 15 #[.agg #[.int .u64 l1, .int .u64 llc, .int .u64 m, .int .u64 fault, .int .u64 step, .int .u64 disk], .agg #[.int .i64 image, .int .i64 user, .int .i64 limit, .int .i64 nodes], .int .u8 0] w fun e w' => e = .returned (.tuple #[.int .u64 (wk m fault step disk image user limit nodes 0), .int .i64 0]) ∧ Below w.heap.size w w' := by
  have hu24 := Try.underlying24
  have hu35 := Try.underlying35
  have HASK := Aside0.mk hask
  clear hask
  go_enter Try.func15, Try.ntmps15
  go_wp2_with (first | (go_at_call 25; refine (HASK.out _).mono ?_; rintro e w1 ⟨rfl, hb1⟩; obtain ⟨hc, hf⟩ := bcell hb1) | (go_at_call 26; refine (bounds_any l1 llc m fault step disk image user limit nodes _).mono ?_; rintro e w2 ⟨gc, gs, gm, gp, ga, gf, hm, hu, rfl, hbw, hb2⟩; obtain ⟨hc2, hf2⟩ := bcell hb2; have HW := Aside0.mk hbw; clear hbw; have ik : ∀ w : World, (Instr.index 53 (.agg #[(.func (.func 31) #[] #[]), (.func (.func 32) #[] #[(.pointer (some ⟨gm, 0, none⟩))]), (.func (.func 33) #[] #[(.pointer (some ⟨ga, 0, none⟩)), (.pointer (some ⟨gm, 0, none⟩))]), (.func (.func 34) #[] #[(.pointer (some ⟨gm, 0, none⟩)), (.pointer (some ⟨gs, 0, none⟩)), (.pointer (some ⟨ga, 0, none⟩))]), (.func (.func 29) #[] #[(.pointer (some ⟨gm, 0, none⟩))]), (.func (.func 30) #[] #[(.pointer (some ⟨gp, 0, none⟩))]), (.func (.func 35) #[] #[(.pointer (some ⟨gc, 0, none⟩)), (.pointer (some ⟨gm, 0, none⟩))]), (.func (.func 36) #[] #[(.pointer (some ⟨hm, 0, none⟩)), (.pointer (some ⟨hu, 0, none⟩))]), (.func (.func 37) #[] #[(.pointer (some ⟨gm, 0, none⟩)), (.pointer (some ⟨gc, 0, none⟩)), (.pointer (some ⟨gf, 0, none⟩))]), (.func (.func 38) #[] #[(.pointer (some ⟨gm, 0, none⟩)), (.pointer (some ⟨gc, 0, none⟩)), (.pointer (some ⟨gf, 0, none⟩))]), (.func (.func 31) #[] #[])]) (.int .u8 0)).run Try.prog w = .ok (.func (.func 31) #[] #[]) w := fun _ => by kernel_rfl) | (go_at_call 31; refine (clo31 l1 llc m fault step disk image user limit nodes gc gs gm gp ga gf hm hu _ HW.out).mono ?_; rintro e w' ⟨rfl, rfl⟩))
  go_ret2
  refine ⟨ret_tw ?_, ?_⟩
  · unfold wk; rw [if_neg (by decide)]; show _ = IntKind.u64.wrap (IntKind.u64.wrap (IntKind.u64.wrap image * m) + 0); rw [Int.add_zero]
  · exact (below_then (below_then (below_alloc (below_alloc (Below.refl w.heap.size w) (.cells #[.int .u64 l1, .int .u64 llc, .int .u64 m, .int .u64 fault, .int .u64 step, .int .u64 disk] 24)) (.cells #[.int .i64 image, .int .i64 user, .int .i64 limit, .int .i64 nodes] 35)) (by simp; omega) hb1) (by have := hb1.size; simp at this; omega) hb2)
set_option maxHeartbeats 4000000 in
set_option maxRecDepth 100000 in
theorem worst1 (l1 llc m fault step disk image user limit nodes : Int) (w : World) (hask : ∀ w : World, Calls Try.prog 25 #[.agg #[.int .u64 l1, .int .u64 llc, .int .u64 m, .int .u64 fault, .int .u64 step, .int .u64 disk], .agg #[.int .i64 image, .int .i64 user, .int .i64 limit, .int .i64 nodes]] w fun e w' => e = .returned (.int .i64 0) ∧ Below w.heap.size w w') :
    Calls Try.prog 15 #[.agg #[.int .u64 l1, .int .u64 llc, .int .u64 m, .int .u64 fault, .int .u64 step, .int .u64 disk], .agg #[.int .i64 image, .int .i64 user, .int .i64 limit, .int .i64 nodes], .int .u8 1] w fun e w' => e = .returned (.tuple #[.int .u64 (wk m fault step disk image user limit nodes 1), .int .i64 0]) ∧ Below w.heap.size w w' := by
  have hu24 := Try.underlying24
  have hu35 := Try.underlying35
  have HASK := Aside0.mk hask
  clear hask
  go_enter Try.func15, Try.ntmps15
  go_wp2_with (first | (go_at_call 25; refine (HASK.out _).mono ?_; rintro e w1 ⟨rfl, hb1⟩; obtain ⟨hc, hf⟩ := bcell hb1) | (go_at_call 26; refine (bounds_any l1 llc m fault step disk image user limit nodes _).mono ?_; rintro e w2 ⟨gc, gs, gm, gp, ga, gf, hm, hu, rfl, hbw, hb2⟩; obtain ⟨hc2, hf2⟩ := bcell hb2; have HW := Aside0.mk hbw; clear hbw; have ik : ∀ w : World, (Instr.index 53 (.agg #[(.func (.func 31) #[] #[]), (.func (.func 32) #[] #[(.pointer (some ⟨gm, 0, none⟩))]), (.func (.func 33) #[] #[(.pointer (some ⟨ga, 0, none⟩)), (.pointer (some ⟨gm, 0, none⟩))]), (.func (.func 34) #[] #[(.pointer (some ⟨gm, 0, none⟩)), (.pointer (some ⟨gs, 0, none⟩)), (.pointer (some ⟨ga, 0, none⟩))]), (.func (.func 29) #[] #[(.pointer (some ⟨gm, 0, none⟩))]), (.func (.func 30) #[] #[(.pointer (some ⟨gp, 0, none⟩))]), (.func (.func 35) #[] #[(.pointer (some ⟨gc, 0, none⟩)), (.pointer (some ⟨gm, 0, none⟩))]), (.func (.func 36) #[] #[(.pointer (some ⟨hm, 0, none⟩)), (.pointer (some ⟨hu, 0, none⟩))]), (.func (.func 37) #[] #[(.pointer (some ⟨gm, 0, none⟩)), (.pointer (some ⟨gc, 0, none⟩)), (.pointer (some ⟨gf, 0, none⟩))]), (.func (.func 38) #[] #[(.pointer (some ⟨gm, 0, none⟩)), (.pointer (some ⟨gc, 0, none⟩)), (.pointer (some ⟨gf, 0, none⟩))]), (.func (.func 31) #[] #[])]) (.int .u8 1)).run Try.prog w = .ok (.func (.func 32) #[] #[(.pointer (some ⟨gm, 0, none⟩))]) w := fun _ => by kernel_rfl) | (go_at_call 32; refine (clo32 l1 llc m fault step disk image user limit nodes gc gs gm gp ga gf hm hu _ HW.out).mono ?_; rintro e w' ⟨rfl, rfl⟩))
  go_ret2
  refine ⟨ret_tw ?_, ?_⟩
  · unfold wk; rw [if_neg (by decide)]; rfl
  · exact (below_then (below_then (below_alloc (below_alloc (Below.refl w.heap.size w) (.cells #[.int .u64 l1, .int .u64 llc, .int .u64 m, .int .u64 fault, .int .u64 step, .int .u64 disk] 24)) (.cells #[.int .i64 image, .int .i64 user, .int .i64 limit, .int .i64 nodes] 35)) (by simp; omega) hb1) (by have := hb1.size; simp at this; omega) hb2)
set_option maxHeartbeats 4000000 in
set_option maxRecDepth 100000 in
theorem worst2 (l1 llc m fault step disk image user limit nodes : Int) (w : World) (hask : ∀ w : World, Calls Try.prog 25 #[.agg #[.int .u64 l1, .int .u64 llc, .int .u64 m, .int .u64 fault, .int .u64 step, .int .u64 disk], .agg #[.int .i64 image, .int .i64 user, .int .i64 limit, .int .i64 nodes]] w fun e w' => e = .returned (.int .i64 0) ∧ Below w.heap.size w w') :
    Calls Try.prog 15 #[.agg #[.int .u64 l1, .int .u64 llc, .int .u64 m, .int .u64 fault, .int .u64 step, .int .u64 disk], .agg #[.int .i64 image, .int .i64 user, .int .i64 limit, .int .i64 nodes], .int .u8 2] w fun e w' => e = .returned (.tuple #[.int .u64 (wk m fault step disk image user limit nodes 2), .int .i64 0]) ∧ Below w.heap.size w w' := by
  have hu24 := Try.underlying24
  have hu35 := Try.underlying35
  have HASK := Aside0.mk hask
  clear hask
  go_enter Try.func15, Try.ntmps15
  go_wp2_with (first | (go_at_call 25; refine (HASK.out _).mono ?_; rintro e w1 ⟨rfl, hb1⟩; obtain ⟨hc, hf⟩ := bcell hb1) | (go_at_call 26; refine (bounds_any l1 llc m fault step disk image user limit nodes _).mono ?_; rintro e w2 ⟨gc, gs, gm, gp, ga, gf, hm, hu, rfl, hbw, hb2⟩; obtain ⟨hc2, hf2⟩ := bcell hb2; have HW := Aside0.mk hbw; clear hbw; have ik : ∀ w : World, (Instr.index 53 (.agg #[(.func (.func 31) #[] #[]), (.func (.func 32) #[] #[(.pointer (some ⟨gm, 0, none⟩))]), (.func (.func 33) #[] #[(.pointer (some ⟨ga, 0, none⟩)), (.pointer (some ⟨gm, 0, none⟩))]), (.func (.func 34) #[] #[(.pointer (some ⟨gm, 0, none⟩)), (.pointer (some ⟨gs, 0, none⟩)), (.pointer (some ⟨ga, 0, none⟩))]), (.func (.func 29) #[] #[(.pointer (some ⟨gm, 0, none⟩))]), (.func (.func 30) #[] #[(.pointer (some ⟨gp, 0, none⟩))]), (.func (.func 35) #[] #[(.pointer (some ⟨gc, 0, none⟩)), (.pointer (some ⟨gm, 0, none⟩))]), (.func (.func 36) #[] #[(.pointer (some ⟨hm, 0, none⟩)), (.pointer (some ⟨hu, 0, none⟩))]), (.func (.func 37) #[] #[(.pointer (some ⟨gm, 0, none⟩)), (.pointer (some ⟨gc, 0, none⟩)), (.pointer (some ⟨gf, 0, none⟩))]), (.func (.func 38) #[] #[(.pointer (some ⟨gm, 0, none⟩)), (.pointer (some ⟨gc, 0, none⟩)), (.pointer (some ⟨gf, 0, none⟩))]), (.func (.func 31) #[] #[])]) (.int .u8 2)).run Try.prog w = .ok (.func (.func 33) #[] #[(.pointer (some ⟨ga, 0, none⟩)), (.pointer (some ⟨gm, 0, none⟩))]) w := fun _ => by kernel_rfl) | (go_at_call 33; refine (clo33 l1 llc m fault step disk image user limit nodes gc gs gm gp ga gf hm hu _ HW.out).mono ?_; rintro e w' ⟨rfl, rfl⟩))
  go_ret2
  refine ⟨ret_tw ?_, ?_⟩
  · unfold wk; rw [if_neg (by decide)]; rfl
  · exact (below_then (below_then (below_alloc (below_alloc (Below.refl w.heap.size w) (.cells #[.int .u64 l1, .int .u64 llc, .int .u64 m, .int .u64 fault, .int .u64 step, .int .u64 disk] 24)) (.cells #[.int .i64 image, .int .i64 user, .int .i64 limit, .int .i64 nodes] 35)) (by simp; omega) hb1) (by have := hb1.size; simp at this; omega) hb2)
set_option maxHeartbeats 4000000 in
set_option maxRecDepth 100000 in
theorem worst3 (l1 llc m fault step disk image user limit nodes : Int) (w : World) (hask : ∀ w : World, Calls Try.prog 25 #[.agg #[.int .u64 l1, .int .u64 llc, .int .u64 m, .int .u64 fault, .int .u64 step, .int .u64 disk], .agg #[.int .i64 image, .int .i64 user, .int .i64 limit, .int .i64 nodes]] w fun e w' => e = .returned (.int .i64 0) ∧ Below w.heap.size w w') :
    Calls Try.prog 15 #[.agg #[.int .u64 l1, .int .u64 llc, .int .u64 m, .int .u64 fault, .int .u64 step, .int .u64 disk], .agg #[.int .i64 image, .int .i64 user, .int .i64 limit, .int .i64 nodes], .int .u8 3] w fun e w' => e = .returned (.tuple #[.int .u64 (wk m fault step disk image user limit nodes 3), .int .i64 0]) ∧ Below w.heap.size w w' := by
  have hu24 := Try.underlying24
  have hu35 := Try.underlying35
  have HASK := Aside0.mk hask
  clear hask
  go_enter Try.func15, Try.ntmps15
  go_wp2_with (first | (go_at_call 25; refine (HASK.out _).mono ?_; rintro e w1 ⟨rfl, hb1⟩; obtain ⟨hc, hf⟩ := bcell hb1) | (go_at_call 26; refine (bounds_any l1 llc m fault step disk image user limit nodes _).mono ?_; rintro e w2 ⟨gc, gs, gm, gp, ga, gf, hm, hu, rfl, hbw, hb2⟩; obtain ⟨hc2, hf2⟩ := bcell hb2; have HW := Aside0.mk hbw; clear hbw; have ik : ∀ w : World, (Instr.index 53 (.agg #[(.func (.func 31) #[] #[]), (.func (.func 32) #[] #[(.pointer (some ⟨gm, 0, none⟩))]), (.func (.func 33) #[] #[(.pointer (some ⟨ga, 0, none⟩)), (.pointer (some ⟨gm, 0, none⟩))]), (.func (.func 34) #[] #[(.pointer (some ⟨gm, 0, none⟩)), (.pointer (some ⟨gs, 0, none⟩)), (.pointer (some ⟨ga, 0, none⟩))]), (.func (.func 29) #[] #[(.pointer (some ⟨gm, 0, none⟩))]), (.func (.func 30) #[] #[(.pointer (some ⟨gp, 0, none⟩))]), (.func (.func 35) #[] #[(.pointer (some ⟨gc, 0, none⟩)), (.pointer (some ⟨gm, 0, none⟩))]), (.func (.func 36) #[] #[(.pointer (some ⟨hm, 0, none⟩)), (.pointer (some ⟨hu, 0, none⟩))]), (.func (.func 37) #[] #[(.pointer (some ⟨gm, 0, none⟩)), (.pointer (some ⟨gc, 0, none⟩)), (.pointer (some ⟨gf, 0, none⟩))]), (.func (.func 38) #[] #[(.pointer (some ⟨gm, 0, none⟩)), (.pointer (some ⟨gc, 0, none⟩)), (.pointer (some ⟨gf, 0, none⟩))]), (.func (.func 31) #[] #[])]) (.int .u8 3)).run Try.prog w = .ok (.func (.func 34) #[] #[(.pointer (some ⟨gm, 0, none⟩)), (.pointer (some ⟨gs, 0, none⟩)), (.pointer (some ⟨ga, 0, none⟩))]) w := fun _ => by kernel_rfl) | (go_at_call 34; refine (clo34 l1 llc m fault step disk image user limit nodes gc gs gm gp ga gf hm hu _ HW.out).mono ?_; rintro e w' ⟨rfl, rfl⟩))
  go_ret2
  refine ⟨ret_tw ?_, ?_⟩
  · unfold wk; rw [if_neg (by decide)]; rfl
  · exact (below_then (below_then (below_alloc (below_alloc (Below.refl w.heap.size w) (.cells #[.int .u64 l1, .int .u64 llc, .int .u64 m, .int .u64 fault, .int .u64 step, .int .u64 disk] 24)) (.cells #[.int .i64 image, .int .i64 user, .int .i64 limit, .int .i64 nodes] 35)) (by simp; omega) hb1) (by have := hb1.size; simp at this; omega) hb2)
set_option maxHeartbeats 4000000 in
set_option maxRecDepth 100000 in
theorem worst4 (l1 llc m fault step disk image user limit nodes : Int) (w : World) (hask : ∀ w : World, Calls Try.prog 25 #[.agg #[.int .u64 l1, .int .u64 llc, .int .u64 m, .int .u64 fault, .int .u64 step, .int .u64 disk], .agg #[.int .i64 image, .int .i64 user, .int .i64 limit, .int .i64 nodes]] w fun e w' => e = .returned (.int .i64 0) ∧ Below w.heap.size w w') :
    Calls Try.prog 15 #[.agg #[.int .u64 l1, .int .u64 llc, .int .u64 m, .int .u64 fault, .int .u64 step, .int .u64 disk], .agg #[.int .i64 image, .int .i64 user, .int .i64 limit, .int .i64 nodes], .int .u8 4] w fun e w' => e = .returned (.tuple #[.int .u64 (wk m fault step disk image user limit nodes 4), .int .i64 0]) ∧ Below w.heap.size w w' := by
  have hu24 := Try.underlying24
  have hu35 := Try.underlying35
  have HASK := Aside0.mk hask
  clear hask
  go_enter Try.func15, Try.ntmps15
  go_wp2_with (first | (go_at_call 25; refine (HASK.out _).mono ?_; rintro e w1 ⟨rfl, hb1⟩; obtain ⟨hc, hf⟩ := bcell hb1) | (go_at_call 26; refine (bounds_any l1 llc m fault step disk image user limit nodes _).mono ?_; rintro e w2 ⟨gc, gs, gm, gp, ga, gf, hm, hu, rfl, hbw, hb2⟩; obtain ⟨hc2, hf2⟩ := bcell hb2; have HW := Aside0.mk hbw; clear hbw; have ik : ∀ w : World, (Instr.index 53 (.agg #[(.func (.func 31) #[] #[]), (.func (.func 32) #[] #[(.pointer (some ⟨gm, 0, none⟩))]), (.func (.func 33) #[] #[(.pointer (some ⟨ga, 0, none⟩)), (.pointer (some ⟨gm, 0, none⟩))]), (.func (.func 34) #[] #[(.pointer (some ⟨gm, 0, none⟩)), (.pointer (some ⟨gs, 0, none⟩)), (.pointer (some ⟨ga, 0, none⟩))]), (.func (.func 29) #[] #[(.pointer (some ⟨gm, 0, none⟩))]), (.func (.func 30) #[] #[(.pointer (some ⟨gp, 0, none⟩))]), (.func (.func 35) #[] #[(.pointer (some ⟨gc, 0, none⟩)), (.pointer (some ⟨gm, 0, none⟩))]), (.func (.func 36) #[] #[(.pointer (some ⟨hm, 0, none⟩)), (.pointer (some ⟨hu, 0, none⟩))]), (.func (.func 37) #[] #[(.pointer (some ⟨gm, 0, none⟩)), (.pointer (some ⟨gc, 0, none⟩)), (.pointer (some ⟨gf, 0, none⟩))]), (.func (.func 38) #[] #[(.pointer (some ⟨gm, 0, none⟩)), (.pointer (some ⟨gc, 0, none⟩)), (.pointer (some ⟨gf, 0, none⟩))]), (.func (.func 31) #[] #[])]) (.int .u8 4)).run Try.prog w = .ok (.func (.func 29) #[] #[(.pointer (some ⟨gm, 0, none⟩))]) w := fun _ => by kernel_rfl) | (go_at_call 29; refine (clo29 l1 llc m fault step disk image user limit nodes gc gs gm gp ga gf hm hu _ HW.out).mono ?_; rintro e w' ⟨rfl, rfl⟩))
  go_ret2
  refine ⟨ret_tw ?_, ?_⟩
  · unfold wk; rw [if_neg (by decide)]; rfl
  · exact (below_then (below_then (below_alloc (below_alloc (Below.refl w.heap.size w) (.cells #[.int .u64 l1, .int .u64 llc, .int .u64 m, .int .u64 fault, .int .u64 step, .int .u64 disk] 24)) (.cells #[.int .i64 image, .int .i64 user, .int .i64 limit, .int .i64 nodes] 35)) (by simp; omega) hb1) (by have := hb1.size; simp at this; omega) hb2)
set_option maxHeartbeats 4000000 in
set_option maxRecDepth 100000 in
theorem worst5 (l1 llc m fault step disk image user limit nodes : Int) (w : World) (hask : ∀ w : World, Calls Try.prog 25 #[.agg #[.int .u64 l1, .int .u64 llc, .int .u64 m, .int .u64 fault, .int .u64 step, .int .u64 disk], .agg #[.int .i64 image, .int .i64 user, .int .i64 limit, .int .i64 nodes]] w fun e w' => e = .returned (.int .i64 0) ∧ Below w.heap.size w w') :
    Calls Try.prog 15 #[.agg #[.int .u64 l1, .int .u64 llc, .int .u64 m, .int .u64 fault, .int .u64 step, .int .u64 disk], .agg #[.int .i64 image, .int .i64 user, .int .i64 limit, .int .i64 nodes], .int .u8 5] w fun e w' => e = .returned (.tuple #[.int .u64 (wk m fault step disk image user limit nodes 5), .int .i64 0]) ∧ Below w.heap.size w w' := by
  have hu24 := Try.underlying24
  have hu35 := Try.underlying35
  have HASK := Aside0.mk hask
  clear hask
  go_enter Try.func15, Try.ntmps15
  go_wp2_with (first | (go_at_call 25; refine (HASK.out _).mono ?_; rintro e w1 ⟨rfl, hb1⟩; obtain ⟨hc, hf⟩ := bcell hb1) | (go_at_call 26; refine (bounds_any l1 llc m fault step disk image user limit nodes _).mono ?_; rintro e w2 ⟨gc, gs, gm, gp, ga, gf, hm, hu, rfl, hbw, hb2⟩; obtain ⟨hc2, hf2⟩ := bcell hb2; have HW := Aside0.mk hbw; clear hbw; have ik : ∀ w : World, (Instr.index 53 (.agg #[(.func (.func 31) #[] #[]), (.func (.func 32) #[] #[(.pointer (some ⟨gm, 0, none⟩))]), (.func (.func 33) #[] #[(.pointer (some ⟨ga, 0, none⟩)), (.pointer (some ⟨gm, 0, none⟩))]), (.func (.func 34) #[] #[(.pointer (some ⟨gm, 0, none⟩)), (.pointer (some ⟨gs, 0, none⟩)), (.pointer (some ⟨ga, 0, none⟩))]), (.func (.func 29) #[] #[(.pointer (some ⟨gm, 0, none⟩))]), (.func (.func 30) #[] #[(.pointer (some ⟨gp, 0, none⟩))]), (.func (.func 35) #[] #[(.pointer (some ⟨gc, 0, none⟩)), (.pointer (some ⟨gm, 0, none⟩))]), (.func (.func 36) #[] #[(.pointer (some ⟨hm, 0, none⟩)), (.pointer (some ⟨hu, 0, none⟩))]), (.func (.func 37) #[] #[(.pointer (some ⟨gm, 0, none⟩)), (.pointer (some ⟨gc, 0, none⟩)), (.pointer (some ⟨gf, 0, none⟩))]), (.func (.func 38) #[] #[(.pointer (some ⟨gm, 0, none⟩)), (.pointer (some ⟨gc, 0, none⟩)), (.pointer (some ⟨gf, 0, none⟩))]), (.func (.func 31) #[] #[])]) (.int .u8 5)).run Try.prog w = .ok (.func (.func 30) #[] #[(.pointer (some ⟨gp, 0, none⟩))]) w := fun _ => by kernel_rfl) | (go_at_call 30; refine (clo30 l1 llc m fault step disk image user limit nodes gc gs gm gp ga gf hm hu _ HW.out).mono ?_; rintro e w' ⟨rfl, rfl⟩))
  go_ret2
  refine ⟨ret_tw ?_, ?_⟩
  · unfold wk; rw [if_neg (by decide)]; rfl
  · exact (below_then (below_then (below_alloc (below_alloc (Below.refl w.heap.size w) (.cells #[.int .u64 l1, .int .u64 llc, .int .u64 m, .int .u64 fault, .int .u64 step, .int .u64 disk] 24)) (.cells #[.int .i64 image, .int .i64 user, .int .i64 limit, .int .i64 nodes] 35)) (by simp; omega) hb1) (by have := hb1.size; simp at this; omega) hb2)
set_option maxHeartbeats 4000000 in
set_option maxRecDepth 100000 in
theorem worst6 (l1 llc m fault step disk image user limit nodes : Int) (w : World) (hask : ∀ w : World, Calls Try.prog 25 #[.agg #[.int .u64 l1, .int .u64 llc, .int .u64 m, .int .u64 fault, .int .u64 step, .int .u64 disk], .agg #[.int .i64 image, .int .i64 user, .int .i64 limit, .int .i64 nodes]] w fun e w' => e = .returned (.int .i64 0) ∧ Below w.heap.size w w') :
    Calls Try.prog 15 #[.agg #[.int .u64 l1, .int .u64 llc, .int .u64 m, .int .u64 fault, .int .u64 step, .int .u64 disk], .agg #[.int .i64 image, .int .i64 user, .int .i64 limit, .int .i64 nodes], .int .u8 6] w fun e w' => e = .returned (.tuple #[.int .u64 (wk m fault step disk image user limit nodes 6), .int .i64 0]) ∧ Below w.heap.size w w' := by
  have hu24 := Try.underlying24
  have hu35 := Try.underlying35
  have HASK := Aside0.mk hask
  clear hask
  go_enter Try.func15, Try.ntmps15
  go_wp2_with (first | (go_at_call 25; refine (HASK.out _).mono ?_; rintro e w1 ⟨rfl, hb1⟩; obtain ⟨hc, hf⟩ := bcell hb1) | (go_at_call 26; refine (bounds_any l1 llc m fault step disk image user limit nodes _).mono ?_; rintro e w2 ⟨gc, gs, gm, gp, ga, gf, hm, hu, rfl, hbw, hb2⟩; obtain ⟨hc2, hf2⟩ := bcell hb2; have HW := Aside0.mk hbw; clear hbw; have ik : ∀ w : World, (Instr.index 53 (.agg #[(.func (.func 31) #[] #[]), (.func (.func 32) #[] #[(.pointer (some ⟨gm, 0, none⟩))]), (.func (.func 33) #[] #[(.pointer (some ⟨ga, 0, none⟩)), (.pointer (some ⟨gm, 0, none⟩))]), (.func (.func 34) #[] #[(.pointer (some ⟨gm, 0, none⟩)), (.pointer (some ⟨gs, 0, none⟩)), (.pointer (some ⟨ga, 0, none⟩))]), (.func (.func 29) #[] #[(.pointer (some ⟨gm, 0, none⟩))]), (.func (.func 30) #[] #[(.pointer (some ⟨gp, 0, none⟩))]), (.func (.func 35) #[] #[(.pointer (some ⟨gc, 0, none⟩)), (.pointer (some ⟨gm, 0, none⟩))]), (.func (.func 36) #[] #[(.pointer (some ⟨hm, 0, none⟩)), (.pointer (some ⟨hu, 0, none⟩))]), (.func (.func 37) #[] #[(.pointer (some ⟨gm, 0, none⟩)), (.pointer (some ⟨gc, 0, none⟩)), (.pointer (some ⟨gf, 0, none⟩))]), (.func (.func 38) #[] #[(.pointer (some ⟨gm, 0, none⟩)), (.pointer (some ⟨gc, 0, none⟩)), (.pointer (some ⟨gf, 0, none⟩))]), (.func (.func 31) #[] #[])]) (.int .u8 6)).run Try.prog w = .ok (.func (.func 35) #[] #[(.pointer (some ⟨gc, 0, none⟩)), (.pointer (some ⟨gm, 0, none⟩))]) w := fun _ => by kernel_rfl) | (go_at_call 35; refine (clo35 l1 llc m fault step disk image user limit nodes gc gs gm gp ga gf hm hu _ HW.out).mono ?_; rintro e w' ⟨rfl, rfl⟩))
  go_ret2
  refine ⟨ret_tw ?_, ?_⟩
  · unfold wk; rw [if_neg (by decide)]; rfl
  · exact (below_then (below_then (below_alloc (below_alloc (Below.refl w.heap.size w) (.cells #[.int .u64 l1, .int .u64 llc, .int .u64 m, .int .u64 fault, .int .u64 step, .int .u64 disk] 24)) (.cells #[.int .i64 image, .int .i64 user, .int .i64 limit, .int .i64 nodes] 35)) (by simp; omega) hb1) (by have := hb1.size; simp at this; omega) hb2)
set_option maxHeartbeats 4000000 in
set_option maxRecDepth 100000 in
theorem worst7 (l1 llc m fault step disk image user limit nodes : Int) (w : World) (hask : ∀ w : World, Calls Try.prog 25 #[.agg #[.int .u64 l1, .int .u64 llc, .int .u64 m, .int .u64 fault, .int .u64 step, .int .u64 disk], .agg #[.int .i64 image, .int .i64 user, .int .i64 limit, .int .i64 nodes]] w fun e w' => e = .returned (.int .i64 0) ∧ Below w.heap.size w w') :
    Calls Try.prog 15 #[.agg #[.int .u64 l1, .int .u64 llc, .int .u64 m, .int .u64 fault, .int .u64 step, .int .u64 disk], .agg #[.int .i64 image, .int .i64 user, .int .i64 limit, .int .i64 nodes], .int .u8 7] w fun e w' => e = .returned (.tuple #[.int .u64 (wk m fault step disk image user limit nodes 7), .int .i64 0]) ∧ Below w.heap.size w w' := by
  have hu24 := Try.underlying24
  have hu35 := Try.underlying35
  have HASK := Aside0.mk hask
  clear hask
  go_enter Try.func15, Try.ntmps15
  go_wp2_with (first | (go_at_call 25; refine (HASK.out _).mono ?_; rintro e w1 ⟨rfl, hb1⟩; obtain ⟨hc, hf⟩ := bcell hb1) | (go_at_call 26; refine (bounds_any l1 llc m fault step disk image user limit nodes _).mono ?_; rintro e w2 ⟨gc, gs, gm, gp, ga, gf, hm, hu, rfl, hbw, hb2⟩; obtain ⟨hc2, hf2⟩ := bcell hb2; have HW := Aside0.mk hbw; clear hbw; have ik : ∀ w : World, (Instr.index 53 (.agg #[(.func (.func 31) #[] #[]), (.func (.func 32) #[] #[(.pointer (some ⟨gm, 0, none⟩))]), (.func (.func 33) #[] #[(.pointer (some ⟨ga, 0, none⟩)), (.pointer (some ⟨gm, 0, none⟩))]), (.func (.func 34) #[] #[(.pointer (some ⟨gm, 0, none⟩)), (.pointer (some ⟨gs, 0, none⟩)), (.pointer (some ⟨ga, 0, none⟩))]), (.func (.func 29) #[] #[(.pointer (some ⟨gm, 0, none⟩))]), (.func (.func 30) #[] #[(.pointer (some ⟨gp, 0, none⟩))]), (.func (.func 35) #[] #[(.pointer (some ⟨gc, 0, none⟩)), (.pointer (some ⟨gm, 0, none⟩))]), (.func (.func 36) #[] #[(.pointer (some ⟨hm, 0, none⟩)), (.pointer (some ⟨hu, 0, none⟩))]), (.func (.func 37) #[] #[(.pointer (some ⟨gm, 0, none⟩)), (.pointer (some ⟨gc, 0, none⟩)), (.pointer (some ⟨gf, 0, none⟩))]), (.func (.func 38) #[] #[(.pointer (some ⟨gm, 0, none⟩)), (.pointer (some ⟨gc, 0, none⟩)), (.pointer (some ⟨gf, 0, none⟩))]), (.func (.func 31) #[] #[])]) (.int .u8 7)).run Try.prog w = .ok (.func (.func 36) #[] #[(.pointer (some ⟨hm, 0, none⟩)), (.pointer (some ⟨hu, 0, none⟩))]) w := fun _ => by kernel_rfl) | (go_at_call 36; refine (clo36 l1 llc m fault step disk image user limit nodes gc gs gm gp ga gf hm hu _ HW.out).mono ?_; rintro e w' ⟨rfl, nd, rfl⟩))
  go_ret2
  refine ⟨ret_tw ?_, ?_⟩
  · unfold wk; rw [if_neg (by decide)]; rfl
  · exact pw_below_drewN (below_then (below_then (below_alloc (below_alloc (Below.refl w.heap.size w) (.cells #[.int .u64 l1, .int .u64 llc, .int .u64 m, .int .u64 fault, .int .u64 step, .int .u64 disk] 24)) (.cells #[.int .i64 image, .int .i64 user, .int .i64 limit, .int .i64 nodes] 35)) (by simp; omega) hb1) (by have := hb1.size; simp at this; omega) hb2) _
set_option maxHeartbeats 4000000 in
set_option maxRecDepth 100000 in
theorem worst8 (l1 llc m fault step disk image user limit nodes : Int) (w : World) (hask : ∀ w : World, Calls Try.prog 25 #[.agg #[.int .u64 l1, .int .u64 llc, .int .u64 m, .int .u64 fault, .int .u64 step, .int .u64 disk], .agg #[.int .i64 image, .int .i64 user, .int .i64 limit, .int .i64 nodes]] w fun e w' => e = .returned (.int .i64 0) ∧ Below w.heap.size w w') :
    Calls Try.prog 15 #[.agg #[.int .u64 l1, .int .u64 llc, .int .u64 m, .int .u64 fault, .int .u64 step, .int .u64 disk], .agg #[.int .i64 image, .int .i64 user, .int .i64 limit, .int .i64 nodes], .int .u8 8] w fun e w' => e = .returned (.tuple #[.int .u64 (wk m fault step disk image user limit nodes 8), .int .i64 0]) ∧ Below w.heap.size w w' := by
  have hu24 := Try.underlying24
  have hu35 := Try.underlying35
  have HASK := Aside0.mk hask
  clear hask
  go_enter Try.func15, Try.ntmps15
  go_wp2_with (first | (go_at_call 25; refine (HASK.out _).mono ?_; rintro e w1 ⟨rfl, hb1⟩; obtain ⟨hc, hf⟩ := bcell hb1) | (go_at_call 26; refine (bounds_any l1 llc m fault step disk image user limit nodes _).mono ?_; rintro e w2 ⟨gc, gs, gm, gp, ga, gf, hm, hu, rfl, hbw, hb2⟩; obtain ⟨hc2, hf2⟩ := bcell hb2; have HW := Aside0.mk hbw; clear hbw; have ik : ∀ w : World, (Instr.index 53 (.agg #[(.func (.func 31) #[] #[]), (.func (.func 32) #[] #[(.pointer (some ⟨gm, 0, none⟩))]), (.func (.func 33) #[] #[(.pointer (some ⟨ga, 0, none⟩)), (.pointer (some ⟨gm, 0, none⟩))]), (.func (.func 34) #[] #[(.pointer (some ⟨gm, 0, none⟩)), (.pointer (some ⟨gs, 0, none⟩)), (.pointer (some ⟨ga, 0, none⟩))]), (.func (.func 29) #[] #[(.pointer (some ⟨gm, 0, none⟩))]), (.func (.func 30) #[] #[(.pointer (some ⟨gp, 0, none⟩))]), (.func (.func 35) #[] #[(.pointer (some ⟨gc, 0, none⟩)), (.pointer (some ⟨gm, 0, none⟩))]), (.func (.func 36) #[] #[(.pointer (some ⟨hm, 0, none⟩)), (.pointer (some ⟨hu, 0, none⟩))]), (.func (.func 37) #[] #[(.pointer (some ⟨gm, 0, none⟩)), (.pointer (some ⟨gc, 0, none⟩)), (.pointer (some ⟨gf, 0, none⟩))]), (.func (.func 38) #[] #[(.pointer (some ⟨gm, 0, none⟩)), (.pointer (some ⟨gc, 0, none⟩)), (.pointer (some ⟨gf, 0, none⟩))]), (.func (.func 31) #[] #[])]) (.int .u8 8)).run Try.prog w = .ok (.func (.func 37) #[] #[(.pointer (some ⟨gm, 0, none⟩)), (.pointer (some ⟨gc, 0, none⟩)), (.pointer (some ⟨gf, 0, none⟩))]) w := fun _ => by kernel_rfl) | (go_at_call 37; refine (clo37 l1 llc m fault step disk image user limit nodes gc gs gm gp ga gf hm hu _ HW.out).mono ?_; rintro e w' ⟨rfl, rfl⟩))
  go_ret2
  refine ⟨ret_tw ?_, ?_⟩
  · unfold wk; rw [if_neg (by decide)]; rfl
  · exact (below_then (below_then (below_alloc (below_alloc (Below.refl w.heap.size w) (.cells #[.int .u64 l1, .int .u64 llc, .int .u64 m, .int .u64 fault, .int .u64 step, .int .u64 disk] 24)) (.cells #[.int .i64 image, .int .i64 user, .int .i64 limit, .int .i64 nodes] 35)) (by simp; omega) hb1) (by have := hb1.size; simp at this; omega) hb2)
set_option maxHeartbeats 4000000 in
set_option maxRecDepth 100000 in
theorem worst9 (l1 llc m fault step disk image user limit nodes : Int) (w : World) (hask : ∀ w : World, Calls Try.prog 25 #[.agg #[.int .u64 l1, .int .u64 llc, .int .u64 m, .int .u64 fault, .int .u64 step, .int .u64 disk], .agg #[.int .i64 image, .int .i64 user, .int .i64 limit, .int .i64 nodes]] w fun e w' => e = .returned (.int .i64 0) ∧ Below w.heap.size w w') :
    Calls Try.prog 15 #[.agg #[.int .u64 l1, .int .u64 llc, .int .u64 m, .int .u64 fault, .int .u64 step, .int .u64 disk], .agg #[.int .i64 image, .int .i64 user, .int .i64 limit, .int .i64 nodes], .int .u8 9] w fun e w' => e = .returned (.tuple #[.int .u64 (wk m fault step disk image user limit nodes 9), .int .i64 0]) ∧ Below w.heap.size w w' := by
  have hu24 := Try.underlying24
  have hu35 := Try.underlying35
  have HASK := Aside0.mk hask
  clear hask
  go_enter Try.func15, Try.ntmps15
  go_wp2_with (first | (go_at_call 25; refine (HASK.out _).mono ?_; rintro e w1 ⟨rfl, hb1⟩; obtain ⟨hc, hf⟩ := bcell hb1) | (go_at_call 26; refine (bounds_any l1 llc m fault step disk image user limit nodes _).mono ?_; rintro e w2 ⟨gc, gs, gm, gp, ga, gf, hm, hu, rfl, hbw, hb2⟩; obtain ⟨hc2, hf2⟩ := bcell hb2; have HW := Aside0.mk hbw; clear hbw; have ik : ∀ w : World, (Instr.index 53 (.agg #[(.func (.func 31) #[] #[]), (.func (.func 32) #[] #[(.pointer (some ⟨gm, 0, none⟩))]), (.func (.func 33) #[] #[(.pointer (some ⟨ga, 0, none⟩)), (.pointer (some ⟨gm, 0, none⟩))]), (.func (.func 34) #[] #[(.pointer (some ⟨gm, 0, none⟩)), (.pointer (some ⟨gs, 0, none⟩)), (.pointer (some ⟨ga, 0, none⟩))]), (.func (.func 29) #[] #[(.pointer (some ⟨gm, 0, none⟩))]), (.func (.func 30) #[] #[(.pointer (some ⟨gp, 0, none⟩))]), (.func (.func 35) #[] #[(.pointer (some ⟨gc, 0, none⟩)), (.pointer (some ⟨gm, 0, none⟩))]), (.func (.func 36) #[] #[(.pointer (some ⟨hm, 0, none⟩)), (.pointer (some ⟨hu, 0, none⟩))]), (.func (.func 37) #[] #[(.pointer (some ⟨gm, 0, none⟩)), (.pointer (some ⟨gc, 0, none⟩)), (.pointer (some ⟨gf, 0, none⟩))]), (.func (.func 38) #[] #[(.pointer (some ⟨gm, 0, none⟩)), (.pointer (some ⟨gc, 0, none⟩)), (.pointer (some ⟨gf, 0, none⟩))]), (.func (.func 31) #[] #[])]) (.int .u8 9)).run Try.prog w = .ok (.func (.func 38) #[] #[(.pointer (some ⟨gm, 0, none⟩)), (.pointer (some ⟨gc, 0, none⟩)), (.pointer (some ⟨gf, 0, none⟩))]) w := fun _ => by kernel_rfl) | (go_at_call 38; refine (clo38 l1 llc m fault step disk image user limit nodes gc gs gm gp ga gf hm hu _ HW.out).mono ?_; rintro e w' ⟨rfl, rfl⟩))
  go_ret2
  refine ⟨ret_tw ?_, ?_⟩
  · unfold wk; rw [if_neg (by decide)]; rfl
  · exact (below_then (below_then (below_alloc (below_alloc (Below.refl w.heap.size w) (.cells #[.int .u64 l1, .int .u64 llc, .int .u64 m, .int .u64 fault, .int .u64 step, .int .u64 disk] 24)) (.cells #[.int .i64 image, .int .i64 user, .int .i64 limit, .int .i64 nodes] 35)) (by simp; omega) hb1) (by have := hb1.size; simp at this; omega) hb2)
set_option maxHeartbeats 4000000 in
set_option maxRecDepth 100000 in
theorem worst10 (l1 llc m fault step disk image user limit nodes : Int) (w : World) (hask : ∀ w : World, Calls Try.prog 25 #[.agg #[.int .u64 l1, .int .u64 llc, .int .u64 m, .int .u64 fault, .int .u64 step, .int .u64 disk], .agg #[.int .i64 image, .int .i64 user, .int .i64 limit, .int .i64 nodes]] w fun e w' => e = .returned (.int .i64 0) ∧ Below w.heap.size w w') :
    Calls Try.prog 15 #[.agg #[.int .u64 l1, .int .u64 llc, .int .u64 m, .int .u64 fault, .int .u64 step, .int .u64 disk], .agg #[.int .i64 image, .int .i64 user, .int .i64 limit, .int .i64 nodes], .int .u8 10] w fun e w' => e = .returned (.tuple #[.int .u64 (wk m fault step disk image user limit nodes 10), .int .i64 0]) ∧ Below w.heap.size w w' := by
  have hu24 := Try.underlying24
  have hu35 := Try.underlying35
  have HASK := Aside0.mk hask
  clear hask
  go_enter Try.func15, Try.ntmps15
  go_wp2_with (first | (go_at_call 25; refine (HASK.out _).mono ?_; rintro e w1 ⟨rfl, hb1⟩; obtain ⟨hc, hf⟩ := bcell hb1) | (go_at_call 26; refine (bounds_any l1 llc m fault step disk image user limit nodes _).mono ?_; rintro e w2 ⟨gc, gs, gm, gp, ga, gf, hm, hu, rfl, hbw, hb2⟩; obtain ⟨hc2, hf2⟩ := bcell hb2; have HW := Aside0.mk hbw; clear hbw; have ik : ∀ w : World, (Instr.index 53 (.agg #[(.func (.func 31) #[] #[]), (.func (.func 32) #[] #[(.pointer (some ⟨gm, 0, none⟩))]), (.func (.func 33) #[] #[(.pointer (some ⟨ga, 0, none⟩)), (.pointer (some ⟨gm, 0, none⟩))]), (.func (.func 34) #[] #[(.pointer (some ⟨gm, 0, none⟩)), (.pointer (some ⟨gs, 0, none⟩)), (.pointer (some ⟨ga, 0, none⟩))]), (.func (.func 29) #[] #[(.pointer (some ⟨gm, 0, none⟩))]), (.func (.func 30) #[] #[(.pointer (some ⟨gp, 0, none⟩))]), (.func (.func 35) #[] #[(.pointer (some ⟨gc, 0, none⟩)), (.pointer (some ⟨gm, 0, none⟩))]), (.func (.func 36) #[] #[(.pointer (some ⟨hm, 0, none⟩)), (.pointer (some ⟨hu, 0, none⟩))]), (.func (.func 37) #[] #[(.pointer (some ⟨gm, 0, none⟩)), (.pointer (some ⟨gc, 0, none⟩)), (.pointer (some ⟨gf, 0, none⟩))]), (.func (.func 38) #[] #[(.pointer (some ⟨gm, 0, none⟩)), (.pointer (some ⟨gc, 0, none⟩)), (.pointer (some ⟨gf, 0, none⟩))]), (.func (.func 31) #[] #[])]) (.int .u8 10)).run Try.prog w = .ok (.func (.func 31) #[] #[]) w := fun _ => by kernel_rfl) | (go_at_call 31; refine (clo31 l1 llc m fault step disk image user limit nodes gc gs gm gp ga gf hm hu _ HW.out).mono ?_; rintro e w' ⟨rfl, rfl⟩))
  go_ret2
  refine ⟨ret_tw ?_, ?_⟩
  · unfold wk; rw [if_neg (by decide)]; show _ = IntKind.u64.wrap (IntKind.u64.wrap (IntKind.u64.wrap image * m) + 0); rw [Int.add_zero]
  · exact (below_then (below_then (below_alloc (below_alloc (Below.refl w.heap.size w) (.cells #[.int .u64 l1, .int .u64 llc, .int .u64 m, .int .u64 fault, .int .u64 step, .int .u64 disk] 24)) (.cells #[.int .i64 image, .int .i64 user, .int .i64 limit, .int .i64 nodes] 35)) (by simp; omega) hb1) (by have := hb1.size; simp at this; omega) hb2)
theorem worst_any (l1 llc m fault step disk image user limit nodes : Int) (t kind : Int) (h0 : 0 ≤ kind) (w : World) (hask : ∀ w : World, Calls Try.prog 25 #[.agg #[.int .u64 l1, .int .u64 llc, .int .u64 m, .int .u64 fault, .int .u64 step, .int .u64 disk], .agg #[.int .i64 image, .int .i64 user, .int .i64 limit, .int .i64 nodes]] w fun e w' => e = .returned (.int .i64 t) ∧ Below w.heap.size w w') :
    Calls Try.prog 15 #[.agg #[.int .u64 l1, .int .u64 llc, .int .u64 m, .int .u64 fault, .int .u64 step, .int .u64 disk], .agg #[.int .i64 image, .int .i64 user, .int .i64 limit, .int .i64 nodes], .int .u8 kind] w fun e w' => e = .returned (.tuple #[.int .u64 (if t = 0 then wk m fault step disk image user limit nodes kind else 0), .int .i64 t]) ∧ Below w.heap.size w w' := by
  by_cases h : t = 0
  · subst h
    rw [if_pos rfl]
    by_cases hb : 11 ≤ kind
    · exact worst_big l1 llc m fault step disk image user limit nodes kind hb w hask
    · have hk : kind = 0 ∨ kind = 1 ∨ kind = 2 ∨ kind = 3 ∨ kind = 4 ∨ kind = 5 ∨ kind = 6 ∨ kind = 7 ∨ kind = 8 ∨ kind = 9 ∨ kind = 10 := by omega
      rcases hk with rfl | rfl | rfl | rfl | rfl | rfl | rfl | rfl | rfl | rfl | rfl
      · exact worst0 l1 llc m fault step disk image user limit nodes w hask
      · exact worst1 l1 llc m fault step disk image user limit nodes w hask
      · exact worst2 l1 llc m fault step disk image user limit nodes w hask
      · exact worst3 l1 llc m fault step disk image user limit nodes w hask
      · exact worst4 l1 llc m fault step disk image user limit nodes w hask
      · exact worst5 l1 llc m fault step disk image user limit nodes w hask
      · exact worst6 l1 llc m fault step disk image user limit nodes w hask
      · exact worst7 l1 llc m fault step disk image user limit nodes w hask
      · exact worst8 l1 llc m fault step disk image user limit nodes w hask
      · exact worst9 l1 llc m fault step disk image user limit nodes w hask
      · exact worst10 l1 llc m fault step disk image user limit nodes w hask
  · rw [if_neg h]
    exact worst_no l1 llc m fault step disk image user limit nodes t kind (by rw [bne_iff_ne]; exact h) w hask
end Go.Proofs.Ytpodcbaechlejaa.H
