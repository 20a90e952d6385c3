/- Plain words on lists of colours and frames. -/
import Derived.Test.YtkihoeacojcdlaaProg
import Derived.Below
import Derived.Deep.Draws
import Derived.Deep.AppendLies
import Derived.Maps.AppendAt
import Derived.OwnWalk
import Derived.Laws.BytesArg
import Derived.Laws.MakeOwn
import Derived.Laws.OwnMore
import Derived.Deep.OwnRows
import Derived.Tactics
import Derived.Lib.ConvBytes
import Derived.Laws.Slices
import Derived.WalkKit
import Derived.KernelRfl
import Derived.RowKit3
import Derived.Deep.LoopGhost
import Derived.Deep.QuietTactic
import Derived.BigQuiet
import Derived.WideLaws
import Derived.Deep.DeepCutAuto
import Derived.Deep.CutBlock
import Derived.Deep.RegionHeld3
import Derived.Laws.Rows
import Derived.Lib.AppendStr
import Derived.ArgAppend
import Derived.Laws.IdiomCopy
import Derived.OrdersHeld
import Derived.Laws.BitsLemmas
import Derived.RowKit
import Derived.Test.YtkihoeacojcdlaaWWords
import Derived.Test.YtkihoeacojcdlaaWLast
import Derived.Test.YtkihoeacojcdlaaWTab
import Derived.Test.YtkihoeacojcdlaaWFour
import Derived.Test.YtkihoeacojcdlaaWQPut
import Derived.Test.YtkihoeacojcdlaaWApart
import Derived.Test.YtkihoeacojcdlaaWArr
import Derived.Test.YtkihoeacojcdlaaWZeros
import Derived.Test.YtkihoeacojcdlaaWFoot
import Derived.Test.YtkihoeacojcdlaaWKept
import Derived.Test.YtkihoeacojcdlaaWShare
import Derived.Test.YtkihoeacojcdlaaWN
import Derived.Test.YtkihoeacojcdlaaWFootNe
import Derived.Test.YtkihoeacojcdlaaWAt
import Derived.Test.YtkihoeacojcdlaaWEqStruct
import Derived.Test.YtkihoeacojcdlaaWRepsOne
import Derived.Test.YtkihoeacojcdlaaWInv
import Derived.Test.YtkihoeacojcdlaaWInvWords
import Derived.Test.YtkihoeacojcdlaaWGuard
import Derived.Test.YtkihoeacojcdlaaWNEv
import Derived.Test.YtkihoeacojcdlaaWMore
namespace Go.Proofs.Ytkihoeacojcdlaa.H
open Go.RowKit Go.Proofs.YtkihoeacojcdlaaW.PrintWords Go.Proofs.YtkihoeacojcdlaaW.PrintLast Go.Proofs.YtkihoeacojcdlaaW.PrintMore
set_option linter.unusedVariables false
set_option linter.unusedSimpArgs false
/-- A list rises above a number, and stays below another. -/
def good (n : Int) : Int → List Int → Bool
  | _, [] => true
  | last, c :: l => (decide (last < c) && decide (c < n)) && good n c l
def lastOf : Int → List Int → Int
  | last, [] => last
  | _, c :: l => lastOf c l
/-- The frames below m whose colour is in the list. -/
def fr (n : Int) (l : List Int) : Nat → List Int
  | 0 => []
  | k + 1 => fr n l k ++ (if l.contains ((k : Int) % n) = true then [(k : Int)] else [])
def mineA (s : List Int) : Array Value := ((List.range 16).map fun (j : Nat) => Value.bool (s.contains (j : Int))).toArray
theorem good_snoc (n c : Int) : ∀ (l : List Int) (last : Int), good n last (l ++ [c]) = true ↔ (good n last l = true ∧ lastOf last l < c ∧ c < n)
  | [], last => by simp [good, lastOf]
  | d :: l, last => by
    have := good_snoc n c l d
    simp only [List.cons_append, good, lastOf, Bool.and_eq_true, decide_eq_true_eq] at this ⊢
    rw [this]
    exact and_assoc.symm
theorem lastOf_snoc (c : Int) : ∀ (l : List Int) (last : Int), lastOf last (l ++ [c]) = c
  | [], last => rfl
  | d :: l, last => by simp only [List.cons_append, lastOf]; exact lastOf_snoc c l d
theorem good_mono {n : Int} : ∀ (l m : List Int) (last : Int), good n last (l ++ m) = true → good n last l = true
  | [], m, last, _ => rfl
  | d :: l, m, last, h => by
    simp only [List.cons_append, good, Bool.and_eq_true] at h ⊢
    exact ⟨h.1, good_mono l m d h.2⟩
theorem take_snoc' (l : List Int) (k : Nat) (h : k < l.length) : l.take (k + 1) = l.take k ++ [rd l (k : Int)] := by
  rw [List.take_succ_eq_append_getElem h]
  simp [rd, List.getD, List.getElem?_eq_getElem h]
theorem good_lo {n : Int} : ∀ (l : List Int) (last : Int), good n last l = true → last ≤ lastOf last l
  | [], last, _ => Int.le_refl _
  | d :: l, last, h => by
    simp only [good, Bool.and_eq_true, decide_eq_true_eq] at h
    simp only [lastOf]
    have := good_lo l d h.2
    omega
theorem good_hi {n : Int} : ∀ (l : List Int) (last : Int), good n last l = true → last < n → lastOf last l < n
  | [], last, _, h => h
  | d :: l, last, h, _ => by
    simp only [good, Bool.and_eq_true, decide_eq_true_eq] at h
    simp only [lastOf]
    exact good_hi l d h.2 h.1.2
theorem fr_len (n : Int) (l : List Int) : ∀ k, (fr n l k).length ≤ k
  | 0 => by simp [fr]
  | k + 1 => by
    have := fr_len n l k
    simp only [fr, List.length_append]
    split <;> simp <;> omega
theorem fr_yes {n : Int} {l : List Int} {k : Nat} (h : l.contains ((k : Int) % n) = true) : fr n l (k + 1) = fr n l k ++ [(k : Int)] := by simp only [fr]; rw [if_pos h]
theorem fr_no {n : Int} {l : List Int} {k : Nat} (h : l.contains ((k : Int) % n) = false) : fr n l (k + 1) = fr n l k := by simp only [fr]; rw [if_neg (by rw [h]; simp)]; simp
theorem mineA_size (s : List Int) : (mineA s).size = 16 := by simp [mineA]
theorem mineA_get (s : List Int) (c : Int) (h0 : 0 ≤ c) (h1 : c < 16) : (mineA s)[c.toNat]? = some (.bool (s.contains c)) := by
  have hc : c.toNat < 16 := by omega
  have e : ((c.toNat : Nat) : Int) = c := by omega
  simp [mineA, hc, e]
theorem mineA_set (s : List Int) (c : Int) (h0 : 0 ≤ c) (h1 : c < 16) : (mineA s).setIfInBounds c.toNat (.bool true) = mineA (s ++ [c]) := by
  apply Array.ext
  · simp [mineA]
  · intro i hi hi'
    have hi16 : i < 16 := by simpa [mineA] using hi'
    by_cases hic : c.toNat = i
    · subst hic
      have e : ((c.toNat : Nat) : Int) = c := by omega
      simp [mineA, e]
    · have hne : ¬ ((i : Int) = c) := by omega
      rw [Array.getElem_setIfInBounds]
      · rw [if_neg hic]
        simp [mineA, hne]
      · simpa [mineA] using hi16
theorem mineA_nil : mineA [] = #[.bool false, .bool false, .bool false, .bool false, .bool false, .bool false, .bool false, .bool false, .bool false, .bool false, .bool false, .bool false, .bool false, .bool false, .bool false, .bool false] := by rfl
end Go.Proofs.Ytkihoeacojcdlaa.H
