/- The law CallNames by its contracts. -/
import Derived.Test.YtklnenaiolclaaaC6
namespace Go.Proofs.Ytklnenaiolclaaa.H
open Go.RowKit Go.Proofs.YtklnenaiolclaaaW.PrintWords Go.Proofs.YtklnenaiolclaaaW.PrintLast Go.Proofs.YtklnenaiolclaaaW.PrintMore
set_option linter.unusedVariables false
set_option linter.unusedSimpArgs false
set_option maxHeartbeats 8000000
set_option maxRecDepth 100000
theorem rname_is (k : Int) : cofferdamref25_Name.f k = some (nameOf k) := by
  by_cases h : 1 ≤ k ∧ k ≤ 10
  · have hc : k = 1 ∨ k = 2 ∨ k = 3 ∨ k = 4 ∨ k = 5 ∨ k = 6 ∨ k = 7 ∨ k = 8 ∨ k = 9 ∨ k = 10 := by omega
    rcases hc with rfl | rfl | rfl | rfl | rfl | rfl | rfl | rfl | rfl | rfl <;> rfl
  · unfold nameOf
    rw [if_neg h]
    unfold cofferdamref25_Name.f
    rw [if_neg (by omega), if_neg (by omega), if_neg (by omega), if_neg (by omega), if_neg (by omega), if_neg (by omega), if_neg (by omega), if_neg (by omega), if_neg (by omega), if_neg (by omega)]
/-- What the reference's search finds from the kind c on. -/
def from_ (l : List UInt8) : Nat → Int → Option Int
  | 0, _ => none
  | m + 1, c => if nameOf c = ⟨l.toArray⟩ then some c else from_ l m (c + 1)
theorem bytes_toList_inj {a b : ByteArray} : a.toList = b.toList ↔ a = b := by
  constructor
  · intro h
    rw [ByteArray.toList_eq, ByteArray.toList_eq] at h
    obtain ⟨⟨x⟩⟩ := a
    obtain ⟨⟨y⟩⟩ := b
    simp at h
    rw [h]
  · intro h; rw [h]
theorem rkind_l0 (x : ByteArray) : ∀ m : Nat, ∀ c : Int, 1 ≤ c → c + m = 11 → cofferdamref25_Kind.l0 (m + 1) x c = some ((from_ x.data.toList m c).getD 0, (from_ x.data.toList m c).isSome)
  | 0, c, h1, h2 => by
    simp only [cofferdamref25_Kind.l0, from_]
    rw [if_neg (by omega)]; rfl
  | m + 1, c, h1, h2 => by
    have hx : (⟨x.data.toList.toArray⟩ : ByteArray) = x := rfl
    rw [cofferdamref25_Kind.l0, if_pos (by omega), rname_is c]
    simp only [Option.bind_some, from_]
    rw [hx]
    have ht : ((nameOf c).toList = x.toList) ↔ nameOf c = x := bytes_toList_inj
    by_cases hc : nameOf c = x
    · rw [if_pos (ht.2 hc), if_pos hc]; rfl
    · rw [if_neg (fun h => hc (ht.1 h)), if_neg hc, show (c + 1) % 256 = c + 1 by omega]
      exact rkind_l0 x m (c + 1) (by omega) (by omega)
theorem from_some (l : List UInt8) : ∀ m c k, from_ l m c = some k → c ≤ k ∧ k < c + m ∧ nameOf k = ⟨l.toArray⟩
  | 0, c, k, h => by simp [from_] at h
  | m + 1, c, k, h => by
    unfold from_ at h
    by_cases hc : nameOf c = ⟨l.toArray⟩
    · rw [if_pos hc] at h
      injection h with h
      subst h
      exact ⟨by omega, by omega, hc⟩
    · rw [if_neg hc] at h
      obtain ⟨h1, h2, h3⟩ := from_some l m (c + 1) k h
      exact ⟨by omega, by omega, h3⟩
theorem name_list {k : Int} {l : List UInt8} (h : nameOf k = ⟨l.toArray⟩) (h1 : 1 ≤ k) (h2 : k ≤ 10) : l = wd k.toNat := by
  unfold nameOf at h
  rw [if_pos ⟨h1, h2⟩] at h
  injection h with h
  have := congrArg Array.toList h
  simpa using this.symm
theorem from_wd {i : Nat} (h1 : 1 ≤ i) (h2 : i ≤ 10) : from_ (wd i) 10 1 = some (i : Int) := by
  have hc : i = 1 ∨ i = 2 ∨ i = 3 ∨ i = 4 ∨ i = 5 ∨ i = 6 ∨ i = 7 ∨ i = 8 ∨ i = 9 ∨ i = 10 := by omega
  rcases hc with rfl | rfl | rfl | rfl | rfl | rfl | rfl | rfl | rfl | rfl <;> decide
theorem from_kof (l : List UInt8) : from_ l 10 1 = kof l := by
  cases hk : kof l with
  | some k =>
    obtain ⟨i, h1, h2, rfl, rfl⟩ := kof_inv hk
    exact from_wd h1 h2
  | none =>
    cases hf : from_ l 10 1 with
    | none => rfl
    | some k =>
      obtain ⟨h1, h2, h3⟩ := from_some l 10 1 k hf
      have hl := name_list h3 h1 (by omega)
      have := kof_wd (i := k.toNat) (by omega) (by omega)
      rw [← hl, hk] at this
      cases this
theorem rkind_is (x : ByteArray) : cofferdamref25_Kind.f 11 x = some ((kof x.data.toList).getD 0, (kof x.data.toList).isSome) := by
  rw [← from_kof]
  exact rkind_l0 x 10 1 (by omega) (by omega)
theorem namesL_any (k : Int) (x : ByteArray) (w : World) (h0 : (Lit.int .u8 k).wf = true) (hx : x.size ≤ 140737488351232) : Calls Try.prog 4 #[.int .u8 k, .string x] w fun e w' => e = .returned (.bool true) ∧ Below w.heap.size w w' := by
  have HK1 := Aside0.mk (fun w => kind_any x w (Nat.le_trans hx (by decide)))
  have HK2 := Aside0.mk (rkind_is x)
  generalize (kof x.data.toList).getD 0 = kk at HK1 HK2
  generalize (kof x.data.toList).isSome = b at HK1 HK2
  have HN := Aside0.mk (rname_is k)
  have HN1 := Aside0.mk (fun w => name_any k w)
  generalize nameOf k = n at HN HN1
  clear h0 hx
  go_enter Try.func4, Try.ntmps4
  go_wp2_with fail
  refine (HK1.out _).mono ?_
  rintro e w1 ⟨rfl, hb⟩
  have HB1 := Aside0.mk hb
  clear hb
  go_wp2_with fail
  refine (cofferdamref25_Kind.calls 11 x kk b _ HK2.out).mono ?_
  rintro e w2 ⟨rfl, hb⟩
  have HB2 := Aside0.mk (below_step HB1.out hb.below)
  clear hb HB1
  go_wp2_with fail
  refine (HN1.out _).mono ?_
  rintro e w3 ⟨rfl, hb⟩
  have HB3 := Aside0.mk (below_step HB2.out hb)
  clear hb HB2
  go_wp2_with fail
  refine (cofferdamref25_Name.calls k n _ HN.out).mono ?_
  rintro e w4 ⟨rfl, hb⟩
  have HB4 := Aside0.mk (below_step HB3.out hb.below)
  clear hb HB3
  go_wp2_with fail
  refine (works_any _).mono ?_
  rintro e w5 ⟨rfl, hb⟩
  have HB5 := Aside0.mk (below_step HB4.out hb)
  clear hb HB4
  go_wp2_with fail
  go_ret
  exact ⟨rfl, HB5.out⟩
end Go.Proofs.Ytklnenaiolclaaa.H
