/- Contracts of the counter's functions, the program's and the reference's. -/
import Derived.Test.YtnihobcmaabmfaaProg
import Derived.Below
import Derived.Deep.Draws
import Derived.Deep.AppendLies
import Derived.Maps.AppendAt
import Derived.OwnWalk
import Derived.Laws.BytesArg
import Derived.Laws.MakeOwn
import Derived.Laws.OwnMore
import Derived.Deep.OwnRows
import Derived.Tactics
import Derived.Lib.ConvBytes
import Derived.Laws.Slices
import Derived.WalkKit
import Derived.KernelRfl
import Derived.RowKit3
import Derived.Deep.LoopGhost
import Derived.Deep.QuietTactic
import Derived.BigQuiet
import Derived.WideLaws
import Derived.Deep.DeepCutAuto
import Derived.Deep.CutBlock
import Derived.Deep.RegionHeld3
import Derived.Laws.Rows
import Derived.Lib.AppendStr
import Derived.ArgAppend
import Derived.Laws.IdiomCopy
import Derived.OrdersHeld
import Derived.Laws.BitsLemmas
import Derived.RowKit
import Derived.Test.YtnihobcmaabmfaaWWords
import Derived.Test.YtnihobcmaabmfaaWLast
import Derived.Test.YtnihobcmaabmfaaWTab
import Derived.Test.YtnihobcmaabmfaaWFour
import Derived.Test.YtnihobcmaabmfaaWQPut
import Derived.Test.YtnihobcmaabmfaaWApart
import Derived.Test.YtnihobcmaabmfaaWArr
import Derived.Test.YtnihobcmaabmfaaWZeros
import Derived.Test.YtnihobcmaabmfaaWFoot
import Derived.Test.YtnihobcmaabmfaaWKept
import Derived.Test.YtnihobcmaabmfaaWShare
import Derived.Test.YtnihobcmaabmfaaWN
import Derived.Test.YtnihobcmaabmfaaWFootNe
import Derived.Test.YtnihobcmaabmfaaWAt
import Derived.Test.YtnihobcmaabmfaaWEqStruct
import Derived.Test.YtnihobcmaabmfaaWRepsOne
import Derived.Test.YtnihobcmaabmfaaWInv
import Derived.Test.YtnihobcmaabmfaaWInvWords
import Derived.Test.YtnihobcmaabmfaaWGuard
import Derived.Test.YtnihobcmaabmfaaWNEv
import Derived.Test.YtnihobcmaabmfaaWMore
namespace Go.Proofs.Ytnihobcmaabmfaa.H
open Go.RowKit Go.Proofs.YtnihobcmaabmfaaW.PrintWords Go.Proofs.YtnihobcmaabmfaaW.PrintLast Go.Proofs.YtnihobcmaabmfaaW.PrintMore
set_option linter.unusedVariables false
set_option linter.unusedSimpArgs false

/-- A block known whole. -/
def Blk (w : World) (g : Nat) (t : TypeId) (cs : Array Value) : Prop := w.heap[g]? = some (.cells cs t (0, 0))
/-- A counter: slice, pad, number, passed. -/
def Cn (t : TypeId) (w : World) (g : Nat) (s p n d : Int) : Prop := Blk w g t #[.int .u64 s, .int .u64 p, .int .u64 n, .int .u64 d]
theorem Cn.lt {t : TypeId} {w : World} {g : Nat} {s p n d : Int} (h : Cn t w g s p n d) : g < w.heap.size := blk_lt h
theorem Cn.cells {t : TypeId} {w : World} {g : Nat} {s p n d : Int} (h : Cn t w g s p n d) : w.cell? ⟨g, 0, none⟩ = some (.int .u64 s) ∧ w.cell? ⟨g, 1, none⟩ = some (.int .u64 p) ∧ w.cell? ⟨g, 2, none⟩ = some (.int .u64 n) ∧ w.cell? ⟨g, 3, none⟩ = some (.int .u64 d) ∧ w.frozen? ⟨g, 2, none⟩ = false ∧ w.frozen? ⟨g, 3, none⟩ = false :=
  ⟨blk_cell h 0, blk_cell h 1, blk_cell h 2, blk_cell h 3, blk_frozen h 2, blk_frozen h 3⟩
theorem Cn.below {t : TypeId} {w w' : World} {g : Nat} {s p n d : Int} (h : Cn t w g s p n d) (hb : Below w.heap.size w w') : Cn t w' g s p n d := (hb.block g h.lt).trans h
theorem Cn.drewN {t : TypeId} {w : World} {g : Nat} {s p n d : Int} (h : Cn t w g s p n d) (k : Nat) : Cn t (w.drewN k) g s p n d := h
theorem Cn.far {t : TypeId} {w : World} {g : Nat} {s p n d : Int} (h : Cn t w g s p n d) {q : Addr} (hq : g ≠ q.block) (u : Value) : Cn t (w.setCell q u) g s p n d := blk_far h hq u
theorem only_drewN {a w : World} {row : Option Nat} (h : a.grownBy w row) (n : Nat) : a.grownBy (w.drewN n) row := ⟨h.os, h.tape, h.output, h.size, h.block⟩
theorem only_alloc {a w : World} {row : Option Nat} (h : a.grownBy w row) (o : Obj) : a.grownBy (w.alloc o) row :=
  ⟨h.os, h.tape, h.output, Nat.le_trans h.size (by simp), fun i hi hne => (Below.heap_alloc w o i (Nat.lt_of_lt_of_le hi h.size)).trans (h.block i hi hne)⟩
theorem only_setCell {a w : World} {g : Nat} (h : a.grownBy w (some g)) {p : Addr} (hp : p.block = g ∨ a.heap.size ≤ p.block) (u : Value) : a.grownBy (w.setCell p u) (some g) :=
  ⟨h.os, h.tape, h.output, by simpa [World.setCell] using h.size, fun i hi hne => (Below.heap_setCell w p u i (by
    rintro rfl
    rcases hp with hp | hp
    · exact hne (by rw [hp])
    · omega)).trans (h.block i hi hne)⟩
theorem Cn.only {t : TypeId} {w w' : World} {g g' : Nat} {s p n d : Int} (h : Cn t w g s p n d) (ho : w.grownBy w' (some g')) (hne : g ≠ g') : Cn t w' g s p n d := (ho.block g h.lt (fun e => hne (by injection e))).trans h
theorem Cn.set2 {t : TypeId} {w : World} {g : Nat} {s p n d : Int} (h : Cn t w g s p n d) (u : Int) : Cn t (w.setCell ⟨g, 2, none⟩ (.int .u64 u)) g s p u d := blk_set h 2 _
theorem Cn.set3 {t : TypeId} {w : World} {g : Nat} {s p n d : Int} (h : Cn t w g s p n d) (u : Int) : Cn t (w.setCell ⟨g, 3, none⟩ (.int .u64 u)) g s p n u := blk_set h 3 _
theorem Cn.ne_ {t t' : TypeId} {w : World} {g g' : Nat} {s p n d s' p' n' d' : Int} (h : Cn t w g s p n d) (h' : Cn t' w g' s' p' n' d') (hne : t ≠ t') : g ≠ g' := blk_ne h h' hne
theorem below_only {W w w' : World} {g : Nat} (h : Below W.heap.size W w) (ho : w.grownBy w' (some g)) (hg : W.heap.size ≤ g) : Below W.heap.size W w' := h.grown ho h.size (fun k hk => by injection hk with hk; omega)
def nowv (s p n d : Int) : Int := IntKind.u64.wrap (IntKind.u64.wrap (n * IntKind.u64.wrap (s + p)) + d)
def mayB (s p : Int) : Bool := decide (1 ≤ s) && decide (s ≤ 4194304) && decide (p ≤ 4194304)
def leftv (s n d : Int) : Int := if 1099511627776 ≤ n then 0 else s - d
set_option maxHeartbeats 1000000
theorem may_any (s p : Int) (w : World) : Calls Try.prog 26 #[.int .u64 s, .int .u64 p] w fun e w' => e = .returned (.bool (mayB s p)) ∧ w' = w := by
  by_cases h1 : 1 ≤ s
  · by_cases h2 : s ≤ 4194304
    · have hd : mayB s p = decide (p ≤ 4194304) := by simp [mayB, h1, h2]
      have H := Aside0.mk hd
      clear hd
      go_enter Try.func26, Try.ntmps26
      go_wp2
      go_ret
      exact ⟨by rw [H.out]; rfl, rfl⟩
    · have hd : mayB s p = false := by simp [mayB, h2]
      have H := Aside0.mk hd
      clear hd
      go_enter Try.func26, Try.ntmps26
      go_wp2
      go_ret
      exact ⟨by rw [H.out]; rfl, rfl⟩
  · have hd : mayB s p = false := by simp [mayB, h1]
    have H := Aside0.mk hd
    clear hd
    go_enter Try.func26, Try.ntmps26
    go_wp2
    go_ret
    exact ⟨by rw [H.out]; rfl, rfl⟩
theorem rmay_any (s p : Int) (w : World) : Calls Try.prog 27 #[.int .u64 s, .int .u64 p] w fun e w' => e = .returned (.bool (mayB s p)) ∧ w' = w := by
  by_cases h1 : 1 ≤ s
  · by_cases h2 : s ≤ 4194304
    · have hd : mayB s p = decide (p ≤ 4194304) := by simp [mayB, h1, h2]
      have H := Aside0.mk hd
      clear hd
      go_enter Try.func27, Try.ntmps27
      go_wp2
      go_ret
      exact ⟨by rw [H.out]; rfl, rfl⟩
    · have hd : mayB s p = false := by simp [mayB, h2]
      have H := Aside0.mk hd
      clear hd
      go_enter Try.func27, Try.ntmps27
      go_wp2
      go_ret
      exact ⟨by rw [H.out]; rfl, rfl⟩
  · have hd : mayB s p = false := by simp [mayB, h1]
    have H := Aside0.mk hd
    clear hd
    go_enter Try.func27, Try.ntmps27
    go_wp2
    go_ret
    exact ⟨by rw [H.out]; rfl, rfl⟩

theorem new_arg (s p n : Int) (w : World) (h : mayB s p = false) : Calls Try.prog 7 #[.int .u64 s, .int .u64 p, .int .u64 n] w fun e w' => e = .returned (.tuple #[.pointer none, .int .i64 2]) ∧ w' = w := by
  go_enter Try.func7, Try.ntmps7
  go_wp2_with (go_at_call 26; refine (may_any _ _ _).mono ?_; rintro e w' ⟨rfl, hw⟩; subst w'; rw [h])
  go_ret2
  exact ⟨rfl, rfl⟩
theorem new_halt (s p n : Int) (w : World) (h : mayB s p = true) (hn : 1099511627776 ≤ n) : Calls Try.prog 7 #[.int .u64 s, .int .u64 p, .int .u64 n] w fun e w' => e = .returned (.tuple #[.pointer none, .int .i64 51]) ∧ w' = w := by
  go_enter Try.func7, Try.ntmps7
  go_wp2_with (go_at_call 26; refine (may_any _ _ _).mono ?_; rintro e w' ⟨rfl, hw⟩; subst w'; rw [h])
  go_ret2
  exact ⟨rfl, rfl⟩
theorem new_ok (s p n : Int) (w : World) (h : mayB s p = true) (hn : n < 1099511627776) : Calls Try.prog 7 #[.int .u64 s, .int .u64 p, .int .u64 n] w fun e w' => e = .returned (.tuple #[.pointer (some ⟨w.heap.size, 0, none⟩), .int .i64 0]) ∧ Cn 58 w' w.heap.size s p n 0 ∧ Below w.heap.size w w' := by
  go_enter Try.func7, Try.ntmps7
  go_wp2_with (go_at_call 26; refine (may_any _ _ _).mono ?_; rintro e w' ⟨rfl, hw⟩; subst w'; rw [h])
  go_ret2
  exact ⟨rfl, heap_alloc_new w _, below_alloc (Below.refl _ _) _⟩

theorem rnew_arg (s p n : Int) (w : World) (h : mayB s p = false) : Calls Try.prog 8 #[.int .u64 s, .int .u64 p, .int .u64 n] w fun e w' => e = .returned (.tuple #[.pointer none, .int .i64 2]) ∧ w' = w := by
  go_enter Try.func8, Try.ntmps8
  go_wp2_with (go_at_call 27; refine (rmay_any _ _ _).mono ?_; rintro e w' ⟨rfl, hw⟩; subst w'; rw [h])
  go_ret2
  exact ⟨rfl, rfl⟩
theorem rnew_halt (s p n : Int) (w : World) (h : mayB s p = true) (hn : 1099511627776 ≤ n) : Calls Try.prog 8 #[.int .u64 s, .int .u64 p, .int .u64 n] w fun e w' => e = .returned (.tuple #[.pointer none, .int .i64 51]) ∧ w' = w := by
  go_enter Try.func8, Try.ntmps8
  go_wp2_with (go_at_call 27; refine (rmay_any _ _ _).mono ?_; rintro e w' ⟨rfl, hw⟩; subst w'; rw [h])
  go_ret2
  exact ⟨rfl, rfl⟩
theorem rnew_ok (s p n : Int) (w : World) (h : mayB s p = true) (hn : n < 1099511627776) : Calls Try.prog 8 #[.int .u64 s, .int .u64 p, .int .u64 n] w fun e w' => e = .returned (.tuple #[.pointer (some ⟨w.heap.size, 0, none⟩), .int .i64 0]) ∧ Cn 35 w' w.heap.size s p n 0 ∧ Below w.heap.size w w' := by
  go_enter Try.func8, Try.ntmps8
  go_wp2_with (go_at_call 27; refine (rmay_any _ _ _).mono ?_; rintro e w' ⟨rfl, hw⟩; subst w'; rw [h])
  go_ret2
  exact ⟨rfl, heap_alloc_new w _, below_alloc (Below.refl _ _) _⟩
end Go.Proofs.Ytnihobcmaabmfaa.H
