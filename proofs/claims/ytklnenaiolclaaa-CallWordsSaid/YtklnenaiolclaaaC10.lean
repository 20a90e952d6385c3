/- Plain law: the reference's Check tells OK just of a call that has words. -/
import Derived.Test.YtklnenaiolclaaaC4
import Derived.Test.YtklnenaiolclaaaC8
import Derived.Test.YtklnenaiolclaaaHx4
namespace Go.Proofs.Ytklnenaiolclaaa.H
open Go.RowKit Go.Proofs.YtklnenaiolclaaaW.PrintWords Go.Proofs.YtklnenaiolclaaaW.PrintLast Go.Proofs.YtklnenaiolclaaaW.PrintMore
set_option linter.unusedVariables false
set_option linter.unusedSimpArgs false
set_option maxHeartbeats 8000000
def chk (c : C7) : Int := if (enc c).isSome then 0 else 250
theorem names_up {k : Int} {r : ByteArray × Bool} (h : cofferdamref25_Names.f 5 k = some r) : cofferdamref25_Names.f 12 k = some r :=
  cofferdamref25_Names.mono _ 11 _ (cofferdamref25_Names.mono _ 10 _ (cofferdamref25_Names.mono _ 9 _ (cofferdamref25_Names.mono _ 8 _ (cofferdamref25_Names.mono _ 7 _ (cofferdamref25_Names.mono _ 6 _ (cofferdamref25_Names.mono _ 5 _ h))))))
theorem eq_cond (b : Bool) (x y : Int) : (if b = true then some x else some y) = some (if b = true then x else y) := by cases b <;> rfl
theorem ite_flip {P Q : Prop} [Decidable P] [Decidable Q] (h : P ↔ ¬ Q) : (if P then some (250 : Int) else some 0) = some (if Q then 0 else 250) := by
  by_cases q : Q
  · rw [if_pos q, if_neg (fun p => h.1 p q)]
  · rw [if_neg q, if_pos (h.2 q)]
theorem rcheck_is (c : C7) (hP : c.p ≤ 9223372036854775807 ∧ c.g ≤ 9223372036854775807 ∧ c.n ≤ 9223372036854775807) (hm : 0 ≤ c.m ∧ c.m ≤ 255) (ha : 0 ≤ c.a) (hv : 0 ≤ c.v) : cofferdamref25_Check.f 12 c.k c.p c.g c.n c.m c.a c.v = some (chk c) := by
  unfold cofferdamref25_Check.f
  cases hL : fds c.k with
  | none =>
    rw [names_up (nms_no hL)]
    simp [cofferdamref25_Check.j0, chk, enc, hL]
  | some L =>
    rw [names_up (nms_yes hL)]
    have hF := fds_forms hL
    by_cases hp : c.p < 0
    · have : enc c = none := by simp [enc, hL]; omega
      have hp' : ¬ 0 ≤ c.p := by omega
      simp [cofferdamref01_Within.f, hp', cofferdamref25_Check.j0, chk, this]
    replace hp : 0 ≤ c.p := by omega
    by_cases hg : c.g < 0
    · have : enc c = none := by simp [enc, hL]; omega
      have hg' : ¬ 0 ≤ c.g := by omega
      by_cases h1 : c.p ≤ 2147483647 <;> simp [cofferdamref01_Within.f, hp, hg', h1, cofferdamref25_Check.j0, chk, this]
    replace hg : 0 ≤ c.g := by omega
    by_cases hn : c.n < 0
    · have : enc c = none := by simp [enc, hL]; omega
      have hn' : ¬ 0 ≤ c.n := by omega
      by_cases h1 : c.p ≤ 2147483647 <;> by_cases h2 : c.g ≤ 2147483647 <;> simp [cofferdamref01_Within.f, hp, hg, hn', h1, h2, cofferdamref25_Check.j0, chk, this]
    replace hn : 0 ≤ c.n := by omega
    have hE : enc c = if decw L c = some c then some (wds L c) else none := by
      unfold enc; rw [hL]; simp only; rw [if_neg (by omega)]
    have hk : 0 ≤ c.k ∧ ¬ 255 < c.k := by
      by_cases h0 : 0 ≤ c.k ∧ ¬ 255 < c.k
      · exact h0
      · exfalso
        unfold fds at hL
        repeat' split at hL
        all_goals first | omega | cases hL
    have hD : decw L c = go L [wI L c L.length 0, wI L c L.length 1, wI L c L.length 2, wI L c L.length 3, wI L c L.length 4] { c0 with k := c.k } := by
      unfold decw dec; rw [if_neg hk.2, hL]
    have wm : IntKind.u64.wrap c.m = c.m := wrap_in hm.1 (by omega)
    have wm2 : (Int.tmod c.m 256) % 256 = c.m := by rw [Int.tmod_eq_emod_of_nonneg hm.1]; omega
    have key : ∀ x : Int, 0 ≤ x → x ≤ 2147483647 → IntKind.u64.wrap x = x ∧ wrap64 (Int.tmod x 2147483648) = x := fun x h0 h1 => ⟨wrap_in h0 (by omega), by rw [Int.tmod_eq_emod_of_nonneg h0]; unfold wrap64; omega⟩
    have big : ∀ x : Int, 2147483647 < x → x ≤ 9223372036854775807 → IntKind.u64.wrap x = x := fun x h0 h1 => wrap_in (by omega) (by omega)
    clear hL
    rcases c with ⟨k, p, g, n, m, a, v⟩
    simp only at hp hg hn hk hm ha hv hP wm wm2 hD hE ⊢
    have hwp : IntKind.u64.wrap p = p := wrap_in hp (by omega)
    have hwg : IntKind.u64.wrap g = g := wrap_in hg (by omega)
    have hwn : IntKind.u64.wrap n = n := wrap_in hn (by omega)
    by_cases bb : p ≤ 2147483647 ∧ g ≤ 2147483647 ∧ n ≤ 2147483647
    · obtain ⟨bp, bg, bn⟩ := bb
      have tp := (key p hp bp).2
      have tg := (key g hg bg).2
      have tn := (key n hn bn).2
      have np : ¬ 2147483647 < p := by omega
      have ng : ¬ 2147483647 < g := by omega
      have nn : ¬ 2147483647 < n := by omega
      clear key big hP
      have B0 : wrap64 1 = 1 := by unfold wrap64; omega
      have B1 : wrap64 2 = 2 := by unfold wrap64; omega
      have B2 : wrap64 3 = 3 := by unfold wrap64; omega
      have B3 : wrap64 4 = 4 := by unfold wrap64; omega
      rcases hF with rfl | rfl | rfl | rfl | rfl | rfl | rfl
      · have hs : (str []).size = 0 := by kernel_rfl
        simp [cofferdamref01_Within.f, hp, hg, hn, bp, bg, bn, cofferdamref25_Check.j0, cofferdamref25_Check.l0, hs, B0, B1, B2, B3, cofferdamref25_word.f, cofferdamref25_with.f, hwp, hwg, hwn, wm, wm2, tp, tg, tn]
        simp only [chk, hE, hD]
        simp [wI, getF, rd, go, setF, c0, hwp, hwg, hwn, wm, np, ng, nn, hm.2]
        exact ite_flip (by omega)
      · have hs : (str [0]).size = 1 := by kernel_rfl
        have t0 : bt (str [0]) 0 = 112 := by kernel_rfl
        simp [cofferdamref01_Within.f, hp, hg, hn, bp, bg, bn, cofferdamref25_Check.j0, cofferdamref25_Check.l0, hs, t0, B0, B1, B2, B3, cofferdamref25_word.f, cofferdamref25_with.f, hwp, hwg, hwn, wm, wm2, tp, tg, tn]
        simp only [chk, hE, hD]
        simp [wI, getF, rd, go, setF, c0, hwp, hwg, hwn, wm, np, ng, nn, hm.2]
        exact ite_flip (by omega)
      · have hs : (str [0, 1, 2, 3]).size = 4 := by kernel_rfl
        have t0 : bt (str [0, 1, 2, 3]) 0 = 112 := by kernel_rfl
        have t1 : bt (str [0, 1, 2, 3]) 1 = 103 := by kernel_rfl
        have t2 : bt (str [0, 1, 2, 3]) 2 = 110 := by kernel_rfl
        have t3 : bt (str [0, 1, 2, 3]) 3 = 109 := by kernel_rfl
        simp [cofferdamref01_Within.f, hp, hg, hn, bp, bg, bn, cofferdamref25_Check.j0, cofferdamref25_Check.l0, hs, t0, t1, t2, t3, B0, B1, B2, B3, cofferdamref25_word.f, cofferdamref25_with.f, hwp, hwg, hwn, wm, wm2, tp, tg, tn]
        simp only [chk, hE, hD]
        simp [wI, getF, rd, go, setF, c0, hwp, hwg, hwn, wm, np, ng, nn, hm.2]
        exact ite_flip (by omega)
      · have hs : (str [0, 1, 2]).size = 3 := by kernel_rfl
        have t0 : bt (str [0, 1, 2]) 0 = 112 := by kernel_rfl
        have t1 : bt (str [0, 1, 2]) 1 = 103 := by kernel_rfl
        have t2 : bt (str [0, 1, 2]) 2 = 110 := by kernel_rfl
        simp [cofferdamref01_Within.f, hp, hg, hn, bp, bg, bn, cofferdamref25_Check.j0, cofferdamref25_Check.l0, hs, t0, t1, t2, B0, B1, B2, B3, cofferdamref25_word.f, cofferdamref25_with.f, hwp, hwg, hwn, wm, wm2, tp, tg, tn]
        simp only [chk, hE, hD]
        simp [wI, getF, rd, go, setF, c0, hwp, hwg, hwn, wm, np, ng, nn, hm.2]
        exact ite_flip (by omega)
      · have hs : (str [0, 2]).size = 2 := by kernel_rfl
        have t0 : bt (str [0, 2]) 0 = 112 := by kernel_rfl
        have t1 : bt (str [0, 2]) 1 = 110 := by kernel_rfl
        simp [cofferdamref01_Within.f, hp, hg, hn, bp, bg, bn, cofferdamref25_Check.j0, cofferdamref25_Check.l0, hs, t0, t1, B0, B1, B2, B3, cofferdamref25_word.f, cofferdamref25_with.f, hwp, hwg, hwn, wm, wm2, tp, tg, tn]
        simp only [chk, hE, hD]
        simp [wI, getF, rd, go, setF, c0, hwp, hwg, hwn, wm, np, ng, nn, hm.2]
        exact ite_flip (by omega)
      · have hs : (str [0, 4, 2]).size = 3 := by kernel_rfl
        have t0 : bt (str [0, 4, 2]) 0 = 112 := by kernel_rfl
        have t1 : bt (str [0, 4, 2]) 1 = 97 := by kernel_rfl
        have t2 : bt (str [0, 4, 2]) 2 = 110 := by kernel_rfl
        simp [cofferdamref01_Within.f, hp, hg, hn, bp, bg, bn, cofferdamref25_Check.j0, cofferdamref25_Check.l0, hs, t0, t1, t2, B0, B1, B2, B3, cofferdamref25_word.f, cofferdamref25_with.f, hwp, hwg, hwn, wm, wm2, tp, tg, tn]
        simp only [chk, hE, hD]
        simp [wI, getF, rd, go, setF, c0, hwp, hwg, hwn, wm, np, ng, nn, hm.2]
        exact ite_flip (by omega)
      · have hs : (str [0, 4, 2, 5]).size = 4 := by kernel_rfl
        have t0 : bt (str [0, 4, 2, 5]) 0 = 112 := by kernel_rfl
        have t1 : bt (str [0, 4, 2, 5]) 1 = 97 := by kernel_rfl
        have t2 : bt (str [0, 4, 2, 5]) 2 = 110 := by kernel_rfl
        have t3 : bt (str [0, 4, 2, 5]) 3 = 118 := by kernel_rfl
        simp [cofferdamref01_Within.f, hp, hg, hn, bp, bg, bn, cofferdamref25_Check.j0, cofferdamref25_Check.l0, hs, t0, t1, t2, t3, B0, B1, B2, B3, cofferdamref25_word.f, cofferdamref25_with.f, hwp, hwg, hwn, wm, wm2, tp, tg, tn]
        simp only [chk, hE, hD]
        simp [wI, getF, rd, go, setF, c0, hwp, hwg, hwn, wm, np, ng, nn, hm.2]
        exact ite_flip (by omega)
    · have E0 : enc ⟨k, p, g, n, m, a, v⟩ = none := by
        rw [hE, if_neg]
        rw [hD]
        clear hE hD key big
        have hcase : 2147483647 < p ∨ 2147483647 < g ∨ 2147483647 < n := by omega
        rcases hF with rfl | rfl | rfl | rfl | rfl | rfl | rfl
        all_goals
          by_cases np : 2147483647 < p <;> by_cases ng : 2147483647 < g <;> by_cases nn : 2147483647 < n
          all_goals first | (exfalso; omega) | skip
          all_goals simp [wI, getF, rd, go, setF, c0, hwp, hwg, hwn, wm, np, ng, nn, hm.2]
          all_goals first | omega | skip
      have hc : chk ⟨k, p, g, n, m, a, v⟩ = 250 := by simp [chk, E0]
      rw [hc]
      by_cases bp : p ≤ 2147483647 <;> by_cases bg : g ≤ 2147483647 <;> by_cases bn : n ≤ 2147483647 <;> simp [cofferdamref01_Within.f, hp, hg, hn, bp, bg, bn, cofferdamref25_Check.j0]
      exact absurd ⟨bp, bg, bn⟩ bb
end Go.Proofs.Ytklnenaiolclaaa.H
