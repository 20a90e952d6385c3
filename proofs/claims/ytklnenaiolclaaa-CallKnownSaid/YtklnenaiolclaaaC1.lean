/- Plain words of calls and their words: what a kind names, a field set and read, words read and written. -/
import Derived.Test.YtklnenaiolclaaaHx1
import Derived.Test.YtklnenaiolclaaaHx2
import Derived.Test.YtklnenaiolclaaaHx3
import Derived.Test.YtklnenaiolclaaaHx4
import Derived.Test.YtklnenaiolclaaaHx5
namespace Go.Proofs.Ytklnenaiolclaaa.H
open Go.RowKit Go.Proofs.YtklnenaiolclaaaW.PrintWords Go.Proofs.YtklnenaiolclaaaW.PrintLast Go.Proofs.YtklnenaiolclaaaW.PrintMore
set_option linter.unusedVariables false
set_option linter.unusedSimpArgs false
/-- A call. -/
structure C7 where
  k : Int
  p : Int
  g : Int
  n : Int
  m : Int
  a : Int
  v : Int
deriving DecidableEq
def C7.cells (c : C7) : Array Value := #[.int .u8 c.k, .int .i64 c.p, .int .i64 c.g, .int .i64 c.n, .int .u8 c.m, .int .u64 c.a, .int .u64 c.v]
def c0 : C7 := ⟨0, 0, 0, 0, 0, 0, 0⟩
/-- What a kind names. -/
def fds (k : Int) : Option (List Int) :=
  if k = 1 then some [] else if k = 2 ∨ k = 3 ∨ k = 10 then some [0] else if k = 4 ∨ k = 6 then some [0, 1, 2, 3] else if k = 5 then some [0, 1, 2] else if k = 7 then some [0, 2] else if k = 8 then some [0, 4, 2] else if k = 9 then some [0, 4, 2, 5] else none
/-- A field by its word; none: it may not be. -/
def setF (c : C7) (f x : Int) : Option C7 :=
  if f = 3 then (if x ≤ 255 then some { c with m := x } else none) else if f = 4 then some { c with a := x } else if f = 5 then some { c with v := x }
  else if 2147483647 < x then none else if f = 0 then some { c with p := x } else if f = 1 then some { c with g := x } else if f = 2 then some { c with n := x } else some c
def getF (c : C7) (f : Int) : Int :=
  if f = 0 then IntKind.u64.wrap c.p else if f = 1 then IntKind.u64.wrap c.g else if f = 2 then IntKind.u64.wrap c.n else if f = 3 then IntKind.u64.wrap c.m else if f = 4 then c.a else c.v
/-- Words told, one by one. -/
def go : List Int → List Int → C7 → Option C7
  | _, [], c => some c
  | [], x :: xs, c => if x = 0 then go [] xs c else none
  | f :: fs, x :: xs, c => match setF c f x with
    | some d => go fs xs d
    | none => none
def dec (x0 x1 x2 x3 x4 x5 : Int) : Option C7 :=
  if 255 < x0 then none else match fds x0 with
  | none => none
  | some L => go L [x1, x2, x3, x4, x5] { c0 with k := x0 }
theorem fds_yes {k : Int} {L : List Int} (h : fds k = some L) : call_fields.f 5 k = some (L, true) ∧ L.length ≤ 4 ∧ ∀ f ∈ L, 0 ≤ f ∧ f ≤ 5 := by
  unfold fds at h
  have hc : k = 1 ∨ k = 2 ∨ k = 3 ∨ k = 10 ∨ k = 4 ∨ k = 6 ∨ k = 5 ∨ k = 7 ∨ k = 8 ∨ k = 9 ∨ (k ≠ 1 ∧ k ≠ 2 ∧ k ≠ 3 ∧ k ≠ 10 ∧ k ≠ 4 ∧ k ≠ 6 ∧ k ≠ 5 ∧ k ≠ 7 ∧ k ≠ 8 ∧ k ≠ 9) := by omega
  rcases hc with rfl | rfl | rfl | rfl | rfl | rfl | rfl | rfl | rfl | rfl | h1
  all_goals try (simp at h; subst h; exact ⟨by rfl, by simp, by simp⟩)
  · simp [h1] at h
theorem fds_no {k : Int} (h : fds k = none) : call_fields.f 5 k = some ([], false) := by
  unfold fds at h
  have hc : k = 1 ∨ k = 2 ∨ k = 3 ∨ k = 10 ∨ k = 4 ∨ k = 6 ∨ k = 5 ∨ k = 7 ∨ k = 8 ∨ k = 9 ∨ (k ≠ 1 ∧ k ≠ 2 ∧ k ≠ 3 ∧ k ≠ 10 ∧ k ≠ 4 ∧ k ≠ 6 ∧ k ≠ 5 ∧ k ≠ 7 ∧ k ≠ 8 ∧ k ≠ 9) := by omega
  rcases hc with rfl | rfl | rfl | rfl | rfl | rfl | rfl | rfl | rfl | rfl | h1
  all_goals try (simp at h; done)
  · simp [call_fields.f, call_fields.j0, call_fields.j1, h1]
/-- The program's set, in these words. -/
theorem set_yes {c d : C7} {f x : Int} (hf : 0 ≤ f ∧ f ≤ 5) (hx : 0 ≤ x) (h : setF c f x = some d) : call_set.f c.k c.p c.g c.n c.m c.a c.v f x = some (true, d.k, d.p, d.g, d.n, d.m, d.a, d.v) := by
  unfold setF at h
  have hc : f = 0 ∨ f = 1 ∨ f = 2 ∨ f = 3 ∨ f = 4 ∨ f = 5 := by omega
  have hw : x ≤ 2147483647 → wrap64 x = x := fun h => by unfold wrap64; omega
  have hm : x ≤ 255 → x % 256 = x := fun h => by omega
  unfold call_set.f
  rcases hc with rfl | rfl | rfl | rfl | rfl | rfl
  all_goals simp at h ⊢
  · obtain ⟨h1, rfl⟩ := h
    rw [if_neg (by omega), hw h1]
  · obtain ⟨h1, rfl⟩ := h
    rw [if_neg (by omega), hw h1]
  · obtain ⟨h1, rfl⟩ := h
    rw [if_neg (by omega), hw h1]
  · obtain ⟨h1, rfl⟩ := h
    exact ⟨h1, rfl, rfl, rfl, rfl, hm h1, rfl, rfl⟩
  · subst h; simp
  · subst h; simp
theorem set_no {c : C7} {f x : Int} (hf : 0 ≤ f ∧ f ≤ 5) (hx : 0 ≤ x) (h : setF c f x = none) : ∃ d : C7, call_set.f c.k c.p c.g c.n c.m c.a c.v f x = some (false, d.k, d.p, d.g, d.n, d.m, d.a, d.v) := by
  unfold setF at h
  have hc : f = 0 ∨ f = 1 ∨ f = 2 ∨ f = 3 ∨ f = 4 ∨ f = 5 := by omega
  unfold call_set.f
  rcases hc with rfl | rfl | rfl | rfl | rfl | rfl
  all_goals simp at h
  · exact ⟨c, by simp; omega⟩
  · exact ⟨c, by simp; omega⟩
  · exact ⟨c, by simp; omega⟩
  · exact ⟨⟨c.k, c.p, c.g, c.n, x % 256, c.a, c.v⟩, by simp; omega⟩
end Go.Proofs.Ytklnenaiolclaaa.H
