/- Areas that are not there; the area and the reference side by side. -/
import Derived.Test.YtlfgkdgjekbkgaaDoorC6
namespace Go.Proofs.YtlfgkdgjekbkgaaDoor.H
open Go.RowKit Go.Proofs.YtlfgkdgjekbkgaaDoorW.PrintWords Go.Proofs.YtlfgkdgjekbkgaaDoorW.PrintLast Go.Proofs.YtlfgkdgjekbkgaaDoorW.PrintMore
set_option linter.unusedVariables false
set_option linter.unusedSimpArgs false
set_option maxHeartbeats 8000000
set_option maxRecDepth 100000
theorem there_nil (w : World) : Calls Tryd.prog 20 #[.pointer none] w fun e w' => e = .returned (.bool false) ∧ Drawn0 w w' := by
  go_enter Tryd.func20, Tryd.ntmps20
  go_wp2_with fail
  go_ret
  exact ⟨rfl, Drawn0.refl _⟩
theorem take_nil (w : World) : Calls Tryd.prog 8 #[.pointer none] w fun e w' => e = .returned (.tuple #[.int .i64 0, .int .i64 1]) ∧ Drawn0 w w' := by
  go_enter Tryd.func8, Tryd.ntmps8
  go_wp2_with fail
  refine (there_nil _).mono ?_
  rintro e w1 ⟨rfl, hd⟩
  go_wp2_with fail
  go_ret2
  exact ⟨rfl, hd⟩
theorem give_nil (w : World) (s : Int) : Calls Tryd.prog 10 #[.pointer none, .int .i64 s] w fun e w' => e = .returned (.int .i64 1) ∧ Drawn0 w w' := by
  go_enter Tryd.func10, Tryd.ntmps10
  go_wp2_with fail
  refine (there_nil _).mono ?_
  rintro e w1 ⟨rfl, hd⟩
  go_wp2_with fail
  go_ret
  exact ⟨rfl, hd⟩
theorem used_nil (w : World) : Calls Tryd.prog 12 #[.pointer none] w fun e w' => e = .returned (.slice none 0 0) ∧ Drawn0 w w' := by
  go_enter Tryd.func12, Tryd.ntmps12
  go_wp2_with fail
  refine (there_nil _).mono ?_
  rintro e w1 ⟨rfl, hd⟩
  go_wp2_with fail
  go_ret
  exact ⟨rfl, hd⟩
theorem free_nil (w : World) : Calls Tryd.prog 13 #[.pointer none] w fun e w' => e = .returned (.int .i64 0) ∧ Drawn0 w w' := by
  go_enter Tryd.func13, Tryd.ntmps13
  go_wp2_with fail
  refine (there_nil _).mono ?_
  rintro e w1 ⟨rfl, hd⟩
  go_wp2_with fail
  go_ret
  exact ⟨rfl, hd⟩
theorem rtake_nil (w : World) : Calls Tryd.prog 9 #[.pointer none] w fun e w' => e = .returned (.tuple #[.int .i64 0, .int .i64 1]) ∧ Drawn0 w w' := by
  go_enter Tryd.func9, Tryd.ntmps9
  go_wp2_with fail
  go_ret2
  exact ⟨rfl, Drawn0.refl _⟩
theorem rgive_nil (w : World) (s : Int) : Calls Tryd.prog 11 #[.pointer none, .int .i64 s] w fun e w' => e = .returned (.int .i64 1) ∧ Drawn0 w w' := by
  go_enter Tryd.func11, Tryd.ntmps11
  go_wp2_with fail
  go_ret
  exact ⟨rfl, Drawn0.refl _⟩
theorem rused_nil (w : World) : Calls Tryd.prog 16 #[.pointer none] w fun e w' => e = .returned (.slice none 0 0) ∧ Drawn0 w w' := by
  go_enter Tryd.func16, Tryd.ntmps16
  go_wp2_with fail
  go_ret
  exact ⟨rfl, Drawn0.refl _⟩
theorem rfree_nil (w : World) : Calls Tryd.prog 14 #[.pointer none] w fun e w' => e = .returned (.int .i64 0) ∧ Drawn0 w w' := by
  go_enter Tryd.func14, Tryd.ntmps14
  go_wp2_with fail
  go_ret
  exact ⟨rfl, Drawn0.refl _⟩
/-- An area, or none. -/
def PA (w : World) (base : Nat) (v : Value) : Option (List Bool) → Prop
  | none => v = .pointer none
  | some T => ∃ c b, v = .pointer (some ⟨c, 0, none⟩) ∧ SP w base c b T
def QA (w : World) (base : Nat) (v : Value) : Option (List Bool) → Prop
  | none => v = .pointer none
  | some T => ∃ c b, v = .pointer (some ⟨c, 0, none⟩) ∧ SQ w base c b T
/-- The area and the reference's, side by side. -/
def Two (w : World) (base : Nat) (vp vq : Value) (S S2 : Option (List Bool)) : Prop := PA w base vp S ∧ QA w base vq S2 ∧ base ≤ w.heap.size
theorem Two.later {w w' : World} {base : Nat} {vp vq : Value} {S S2 : Option (List Bool)} (h : Two w base vp vq S S2) (hb : Below w.heap.size w w') : Two w' base vp vq S S2 := by
  refine ⟨?_, ?_, Nat.le_trans h.2.2 hb.size⟩
  · cases S with
    | none => exact h.1
    | some T => obtain ⟨c, b, e, hs⟩ := h.1; exact ⟨c, b, e, hs.later hb⟩
  · cases S2 with
    | none => exact h.2.1
    | some T => obtain ⟨c, b, e, hs⟩ := h.2.1; exact ⟨c, b, e, hs.later hb⟩
theorem Two.drew {w : World} {base : Nat} {vp vq : Value} {S S2 : Option (List Bool)} (h : Two w base vp vq S S2) : Two w.drew base vp vq S S2 := h.later (below_drew (Below.refl _ _))
theorem PA.kept {w w' : World} {base c b : Nat} {v : Value} {S : Option (List Bool)} {T : List Bool} (h : PA w base v S) (hq : SQ w base c b T) (hk : Kept w w' (Foot c b)) : PA w' base v S := by
  cases S with
  | none => exact h
  | some T' => obtain ⟨c', b', e, hs⟩ := h; exact ⟨c', b', e, hs.kept hk (fun h0 => by have := (hq.lt h0).1; have := hs.pos; omega) (apart hs hq)⟩
theorem QA.kept {w w' : World} {base c b : Nat} {v : Value} {S : Option (List Bool)} {T : List Bool} (h : QA w base v S) (hp : SP w base c b T) (hk : Kept w w' (Foot c b)) : QA w' base v S := by
  cases S with
  | none => exact h
  | some T' => obtain ⟨c', b', e, hs⟩ := h; exact ⟨c', b', e, hs.kept hk (fun k h1 h2 => apart hp hs k h2 h1)⟩
def tkA : Option (List Bool) → Int
  | none => 0
  | some T => if fr T < T.length then (fr T : Int) else 0
def tkB : Option (List Bool) → Int
  | none => 1
  | some T => if fr T < T.length then 0 else 4
def tkS (S : Option (List Bool)) : Option (List Bool) := S.map fun T => T.set (fr T) true
def gvB (s : Int) : Option (List Bool) → Int
  | none => 1
  | some T => gvE T s
def gvS (s : Int) (S : Option (List Bool)) : Option (List Bool) := S.map fun T => gvT T s
def usL : Option (List Bool) → List Int
  | none => []
  | some T => U T T.length
def frN : Option (List Bool) → Int
  | none => 0
  | some T => T.length - (U T T.length).length
def PT (w : World) (base : Nat) (vp vq : Value) (S S2 : Option (List Bool)) (v : Value) (e : Ending) (w' : World) : Prop := e = .returned v ∧ Two w' base vp vq S S2 ∧ Below base w w'
theorem PT_drawn {w w' : World} {base : Nat} {vp vq : Value} {S S2 : Option (List Bool)} {v : Value} {e : Ending} (h : Two w base vp vq S S2) (he : e = .returned v) (hd : Drawn0 w w') : PT w base vp vq S S2 v e w' :=
  ⟨he, h.later hd.below, hd.below.mono h.2.2⟩
theorem p_take (w : World) (base : Nat) (vp vq : Value) (S S2 : Option (List Bool)) (h : Two w base vp vq S S2) :
    Calls Tryd.prog 8 #[vp] w (PT w base vp vq (tkS S) S2 (.tuple #[.int .i64 (tkA S), .int .i64 (tkB S)])) := by
  cases S with
  | none =>
    have hv : vp = .pointer none := h.1
    subst hv
    exact (take_nil w).mono fun e w' ⟨he, hd⟩ => PT_drawn h he hd
  | some T =>
    obtain ⟨c, b, rfl, hs⟩ := h.1
    exact (take_any w base c b T hs).mono fun e w' ⟨he, hs', hk, hb⟩ => ⟨he, ⟨⟨c, b, rfl, hs'⟩, h.2.1.kept hs hk, Nat.le_trans h.2.2 hb.size⟩, hb⟩
theorem q_take (w : World) (base : Nat) (vp vq : Value) (S S2 : Option (List Bool)) (h : Two w base vp vq S S2) :
    Calls Tryd.prog 9 #[vq] w (PT w base vp vq S (tkS S2) (.tuple #[.int .i64 (tkA S2), .int .i64 (tkB S2)])) := by
  cases S2 with
  | none =>
    have hv : vq = .pointer none := h.2.1
    subst hv
    exact (rtake_nil w).mono fun e w' ⟨he, hd⟩ => PT_drawn h he hd
  | some T =>
    obtain ⟨c, b, rfl, hs⟩ := h.2.1
    exact (rtake_any w base c b T hs).mono fun e w' ⟨he, hs', hk, hb⟩ => ⟨he, ⟨h.1.kept hs hk, ⟨c, b, rfl, hs'⟩, Nat.le_trans h.2.2 hb.size⟩, hb⟩
theorem p_give (w : World) (base : Nat) (vp vq : Value) (S S2 : Option (List Bool)) (s : Int) (h : Two w base vp vq S S2) :
    Calls Tryd.prog 10 #[vp, .int .i64 s] w (PT w base vp vq (gvS s S) S2 (.int .i64 (gvB s S))) := by
  cases S with
  | none =>
    have hv : vp = .pointer none := h.1
    subst hv
    exact (give_nil w s).mono fun e w' ⟨he, hd⟩ => PT_drawn h he hd
  | some T =>
    obtain ⟨c, b, rfl, hs⟩ := h.1
    exact (give_any w base c b T s hs).mono fun e w' ⟨he, hs', hk, hb⟩ => ⟨he, ⟨⟨c, b, rfl, hs'⟩, h.2.1.kept hs hk, Nat.le_trans h.2.2 hb.size⟩, hb⟩
theorem q_give (w : World) (base : Nat) (vp vq : Value) (S S2 : Option (List Bool)) (s : Int) (h : Two w base vp vq S S2) :
    Calls Tryd.prog 11 #[vq, .int .i64 s] w (PT w base vp vq S (gvS s S2) (.int .i64 (gvB s S2))) := by
  cases S2 with
  | none =>
    have hv : vq = .pointer none := h.2.1
    subst hv
    exact (rgive_nil w s).mono fun e w' ⟨he, hd⟩ => PT_drawn h he hd
  | some T =>
    obtain ⟨c, b, rfl, hs⟩ := h.2.1
    exact (rgive_any w base c b T s hs).mono fun e w' ⟨he, hs', hk, hb⟩ => ⟨he, ⟨h.1.kept hs hk, ⟨c, b, rfl, hs'⟩, Nat.le_trans h.2.2 hb.size⟩, hb⟩
def UL (w : World) (l : List Int) (e : Ending) (w' : World) : Prop := ∃ v, e = .returned v ∧ w'.ownsRow w.heap.size 3 1 v l.length (nums .i64 l) ∧ Below w.heap.size w w'
def FL (w : World) (x : Int) (e : Ending) (w' : World) : Prop := e = .returned (.int .i64 x) ∧ Below w.heap.size w w'
theorem p_used (w : World) (base : Nat) (vp vq : Value) (S S2 : Option (List Bool)) (h : Two w base vp vq S S2) : Calls Tryd.prog 12 #[vp] w (UL w (usL S)) := by
  cases S with
  | none =>
    have hv : vp = .pointer none := h.1
    subst hv
    exact (used_nil w).mono fun e w' ⟨he, hd⟩ => ⟨_, he, own_nil _ _ _ _, hd.below⟩
  | some T =>
    obtain ⟨c, b, rfl, hs⟩ := h.1
    exact used_any w base c b T hs
theorem q_used (w : World) (base : Nat) (vp vq : Value) (S S2 : Option (List Bool)) (h : Two w base vp vq S S2) : Calls Tryd.prog 16 #[vq] w (UL w (usL S2)) := by
  cases S2 with
  | none =>
    have hv : vq = .pointer none := h.2.1
    subst hv
    exact (rused_nil w).mono fun e w' ⟨he, hd⟩ => ⟨_, he, own_nil _ _ _ _, hd.below⟩
  | some T =>
    obtain ⟨c, b, rfl, hs⟩ := h.2.1
    exact rused_any w base c b T hs
theorem p_free (w : World) (base : Nat) (vp vq : Value) (S S2 : Option (List Bool)) (h : Two w base vp vq S S2) : Calls Tryd.prog 13 #[vp] w (FL w (frN S)) := by
  cases S with
  | none =>
    have hv : vp = .pointer none := h.1
    subst hv
    exact (free_nil w).mono fun e w' ⟨he, hd⟩ => ⟨he, hd.below⟩
  | some T =>
    obtain ⟨c, b, rfl, hs⟩ := h.1
    exact (free_any w base c b T hs).mono fun e w' ⟨he, hd⟩ => ⟨he, hd.below⟩
theorem q_free (w : World) (base : Nat) (vp vq : Value) (S S2 : Option (List Bool)) (h : Two w base vp vq S S2) : Calls Tryd.prog 14 #[vq] w (FL w (frN S2)) := by
  cases S2 with
  | none =>
    have hv : vq = .pointer none := h.2.1
    subst hv
    exact (rfree_nil w).mono fun e w' ⟨he, hd⟩ => ⟨he, hd.below⟩
  | some T =>
    obtain ⟨c, b, rfl, hs⟩ := h.2.1
    exact rfree_any w base c b T hs
theorem usL_small {w : World} {base : Nat} {vp vq : Value} {S S2 : Option (List Bool)} (h : Two w base vp vq S S2) : (usL S).length ≤ 1024 := by
  cases S with
  | none => simp [usL]
  | some T =>
    obtain ⟨c, b, _, hs⟩ := h.1
    exact Nat.le_trans (U_len T T.length) hs.small
end Go.Proofs.YtlfgkdgjekbkgaaDoor.H
