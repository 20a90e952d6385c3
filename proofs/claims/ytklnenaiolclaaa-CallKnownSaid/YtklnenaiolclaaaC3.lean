/- The map of the kinds' names: what it holds; a kind by its name. -/
import Derived.Test.YtklnenaiolclaaaC2
import Derived.Maps.Own
import Derived.Maps.OwnOps
import Derived.Maps.OwnSet
import Derived.Maps.RangeWalk
namespace Go.Proofs.Ytklnenaiolclaaa.H
open Go.RowKit Go.Proofs.YtklnenaiolclaaaW.PrintWords Go.Proofs.YtklnenaiolclaaaW.PrintLast Go.Proofs.YtklnenaiolclaaaW.PrintMore
set_option linter.unusedVariables false
set_option linter.unusedSimpArgs false
open Go.Maps
set_option maxHeartbeats 2000000
set_option maxRecDepth 100000
theorem wpList_insert_own {H : Type} {P : Program} (w : World) {ops : Array Oper} {rest : List Oper} {o : Oper} {a : Act} {Q : Exit → Act → World → Prop}
    (hg : o.guard = none) (m x v : Operand) (t : TypeId) (hop : o.op = Op.insert t m x v)
    (k e : TypeId) (K : Keyed P k) (ht : P.underlying t = some (.map k e)) (R : Value → Option (DataW H × List MemPlace)) (b n : Nat) (D : DataW H)
    (hm : a.eval m = .map (some b)) (hown : w.ownsMap P k R b n D) (hn : n < maxLen) (key val : Value) (kl : Lit) (hx : a.eval x = key) (hv : a.eval v = val) (hkey : keyOf P k key = some kl)
    (d : DataW H) (ps : List MemPlace) (hval : R val = some (d, ps))
    (hK : ∀ w', w'.ownsMap P k R b (n + 1) (D.put kl d) → w.grownBy w' (some b) → wpList P ops Q rest (a.put o.dst undef) w') :
    wpList P ops Q (o :: rest) a w := by
  refine wpList_plain hg fun K' hK' => ?_
  obtain ⟨w', hrun, r1, r2⟩ := hown.update K ht hn hkey hval
  unfold Oper.wp
  simp [execOp, hop, hm, hx, hv, hrun, Result.andThen]
  exact hK' _ _ (hK w' r1 r2)
theorem law : Keyed Try.prog 9 := string_keyed Try.underlying9
def kb (l : List UInt8) : Value := .string ⟨l.toArray⟩
theorem key_of (l : List UInt8) (h : l.length ≤ 100) : keyOf Try.prog 9 (kb l) = some (.string l) := by
  have := WideMaps.keyOf_string_mk (P := Try.prog) (s := ⟨l.toArray⟩) Try.underlying9 (by show l.toArray.size ≤ _; simp [maxLen]; omega)
  rw [show (⟨l.toArray⟩ : ByteArray).data.toList = l by simp] at this
  exact this
theorem val_of (n : Int) (h : (Lit.int .u8 n).wf = true) : plainElem (H := Unit) Try.prog 5 (.int .u8 n) = some (.lit (.int .u8 n), []) := plainElem_int Try.underlying5 h
def wd : Nat → List UInt8
  | 1 => [115, 112, 97, 119, 110]
  | 2 => [101, 120, 105, 116]
  | 3 => [102, 111, 114, 107]
  | 4 => [109, 97, 112]
  | 5 => [117, 110, 109, 97, 112]
  | 6 => [112, 114, 111, 116, 101, 99, 116]
  | 7 => [98, 114, 107]
  | 8 => [108, 111, 97, 100]
  | 9 => [115, 116, 111, 114, 101]
  | 10 => [115, 116, 97, 116]
  | _ => []
def nm : Nat → DataW Unit
  | 0 => .map []
  | k + 1 => (nm k).put (.string (wd (k + 1))) (.lit (.int .u8 ((k + 1 : Nat) : Int)))
theorem below_grown2 {w0 w1 w2 : World} (h : Below w0.heap.size w0 w1) (hg : w1.grownBy w2 (some w0.heap.size)) : Below w0.heap.size w0 w2 := h.grown hg h.size (fun k hk => by injection hk with hk; omega)
theorem names_any (w : World) : Calls Try.prog 24 #[] w fun e w' => ∃ b, e = .returned (.map (some b)) ∧ w.heap.size ≤ b ∧ w'.ownsMap Try.prog 9 (plainElem (H := Unit) Try.prog 5) b 10 (nm 10) ∧ Below w.heap.size w w' := by
  have hmm := @run_makeMap Try.prog
  have HO := Aside0.mk (World.ownsMap_made w Try.prog 9 (plainElem (H := Unit) Try.prog 5))
  have HB := Aside0.mk (below_alloc (Below.refl w.heap.size w) (.map #[] 0))
  go_enter Try.func24, Try.ntmps24
  go_wp2_with (first
    | (refine wpList_insert_own _ rfl _ _ _ 55 rfl 9 5 law Try.underlying55 (plainElem (H := Unit) Try.prog 5) w.heap.size 0 (nm 0) rfl HO.out (by decide) (kb [115, 112, 97, 119, 110]) (.int .u8 1) (.string [115, 112, 97, 119, 110]) rfl rfl (key_of _ (by decide)) _ _ (val_of 1 (by decide)) ?_; intro w1 ho hg; have HO1 := Aside0.mk ho; have HB1 := Aside0.mk (below_grown2 HB.out hg); clear ho hg HO HB)
    | (refine wpList_insert_own _ rfl _ _ _ 55 rfl 9 5 law Try.underlying55 (plainElem (H := Unit) Try.prog 5) w.heap.size 1 (nm 1) rfl HO1.out (by decide) (kb [101, 120, 105, 116]) (.int .u8 2) (.string [101, 120, 105, 116]) rfl rfl (key_of _ (by decide)) _ _ (val_of 2 (by decide)) ?_; intro w2 ho hg; have HO2 := Aside0.mk ho; have HB2 := Aside0.mk (below_grown2 HB1.out hg); clear ho hg HO1 HB1)
    | (refine wpList_insert_own _ rfl _ _ _ 55 rfl 9 5 law Try.underlying55 (plainElem (H := Unit) Try.prog 5) w.heap.size 2 (nm 2) rfl HO2.out (by decide) (kb [102, 111, 114, 107]) (.int .u8 3) (.string [102, 111, 114, 107]) rfl rfl (key_of _ (by decide)) _ _ (val_of 3 (by decide)) ?_; intro w3 ho hg; have HO3 := Aside0.mk ho; have HB3 := Aside0.mk (below_grown2 HB2.out hg); clear ho hg HO2 HB2)
    | (refine wpList_insert_own _ rfl _ _ _ 55 rfl 9 5 law Try.underlying55 (plainElem (H := Unit) Try.prog 5) w.heap.size 3 (nm 3) rfl HO3.out (by decide) (kb [109, 97, 112]) (.int .u8 4) (.string [109, 97, 112]) rfl rfl (key_of _ (by decide)) _ _ (val_of 4 (by decide)) ?_; intro w4 ho hg; have HO4 := Aside0.mk ho; have HB4 := Aside0.mk (below_grown2 HB3.out hg); clear ho hg HO3 HB3)
    | (refine wpList_insert_own _ rfl _ _ _ 55 rfl 9 5 law Try.underlying55 (plainElem (H := Unit) Try.prog 5) w.heap.size 4 (nm 4) rfl HO4.out (by decide) (kb [117, 110, 109, 97, 112]) (.int .u8 5) (.string [117, 110, 109, 97, 112]) rfl rfl (key_of _ (by decide)) _ _ (val_of 5 (by decide)) ?_; intro w5 ho hg; have HO5 := Aside0.mk ho; have HB5 := Aside0.mk (below_grown2 HB4.out hg); clear ho hg HO4 HB4)
    | (refine wpList_insert_own _ rfl _ _ _ 55 rfl 9 5 law Try.underlying55 (plainElem (H := Unit) Try.prog 5) w.heap.size 5 (nm 5) rfl HO5.out (by decide) (kb [112, 114, 111, 116, 101, 99, 116]) (.int .u8 6) (.string [112, 114, 111, 116, 101, 99, 116]) rfl rfl (key_of _ (by decide)) _ _ (val_of 6 (by decide)) ?_; intro w6 ho hg; have HO6 := Aside0.mk ho; have HB6 := Aside0.mk (below_grown2 HB5.out hg); clear ho hg HO5 HB5)
    | (refine wpList_insert_own _ rfl _ _ _ 55 rfl 9 5 law Try.underlying55 (plainElem (H := Unit) Try.prog 5) w.heap.size 6 (nm 6) rfl HO6.out (by decide) (kb [98, 114, 107]) (.int .u8 7) (.string [98, 114, 107]) rfl rfl (key_of _ (by decide)) _ _ (val_of 7 (by decide)) ?_; intro w7 ho hg; have HO7 := Aside0.mk ho; have HB7 := Aside0.mk (below_grown2 HB6.out hg); clear ho hg HO6 HB6)
    | (refine wpList_insert_own _ rfl _ _ _ 55 rfl 9 5 law Try.underlying55 (plainElem (H := Unit) Try.prog 5) w.heap.size 7 (nm 7) rfl HO7.out (by decide) (kb [108, 111, 97, 100]) (.int .u8 8) (.string [108, 111, 97, 100]) rfl rfl (key_of _ (by decide)) _ _ (val_of 8 (by decide)) ?_; intro w8 ho hg; have HO8 := Aside0.mk ho; have HB8 := Aside0.mk (below_grown2 HB7.out hg); clear ho hg HO7 HB7)
    | (refine wpList_insert_own _ rfl _ _ _ 55 rfl 9 5 law Try.underlying55 (plainElem (H := Unit) Try.prog 5) w.heap.size 8 (nm 8) rfl HO8.out (by decide) (kb [115, 116, 111, 114, 101]) (.int .u8 9) (.string [115, 116, 111, 114, 101]) rfl rfl (key_of _ (by decide)) _ _ (val_of 9 (by decide)) ?_; intro w9 ho hg; have HO9 := Aside0.mk ho; have HB9 := Aside0.mk (below_grown2 HB8.out hg); clear ho hg HO8 HB8)
    | (refine wpList_insert_own _ rfl _ _ _ 55 rfl 9 5 law Try.underlying55 (plainElem (H := Unit) Try.prog 5) w.heap.size 9 (nm 9) rfl HO9.out (by decide) (kb [115, 116, 97, 116]) (.int .u8 10) (.string [115, 116, 97, 116]) rfl rfl (key_of _ (by decide)) _ _ (val_of 10 (by decide)) ?_; intro w10 ho hg; have HO10 := Aside0.mk ho; have HB10 := Aside0.mk (below_grown2 HB9.out hg); clear ho hg HO9 HB9))
  go_ret
  exact ⟨_, rfl, Nat.le_refl _, HO10.out, HB10.out⟩
def srt : List (List UInt8 × Int) := [(wd 7, 7), (wd 2, 2), (wd 3, 3), (wd 8, 8), (wd 4, 4), (wd 6, 6), (wd 1, 1), (wd 10, 10), (wd 9, 9), (wd 5, 5)]
theorem nm10 : nm 10 = .map (srt.map fun p => (.string p.1, .lit (.int .u8 p.2))) := by kernel_rfl
def kof (l : List UInt8) : Option Int := (srt.find? fun p => p.1 == l).map (·.2)
theorem find_map (l : List UInt8) : ∀ t : List (List UInt8 × Int), ((t.map fun p => ((Lit.string p.1, DataW.lit (Lit.int .u8 p.2)) : Lit × DataW Unit)).find? fun p => p.1.sameKey (.string l)) = (t.find? fun p => p.1 == l).map fun p => (Lit.string p.1, DataW.lit (Lit.int .u8 p.2))
  | [] => rfl
  | p :: t => by
    simp only [List.map_cons, List.find?_cons, Lit.sameKey]
    cases p.1 == l
    · exact find_map l t
    · rfl
theorem at_kof (l : List UInt8) : (nm 10).atKey (.string l) (.lit (.int .u8 0)) = .lit (.int .u8 ((kof l).getD 0)) := by
  rw [nm10]
  unfold DataW.atKey kof
  dsimp only
  rw [find_map l srt]
  cases srt.find? fun p => p.1 == l <;> rfl
theorem any_find (l : List UInt8) : ∀ t : List (List UInt8 × Int), ((t.map fun p => ((Lit.string p.1, DataW.lit (Lit.int .u8 p.2)) : Lit × DataW Unit)).any fun p => p.1.sameKey (.string l)) = (t.find? fun p => p.1 == l).isSome
  | [] => rfl
  | p :: t => by
    rw [List.map_cons, List.any_cons, List.find?_cons, any_find l t]
    show ((p.1 == l) || _) = _
    cases p.1 == l <;> rfl
theorem has_kof (l : List UInt8) : Go.Maps.has (nm 10) (.string l) = (kof l).isSome := by
  rw [nm10]
  show (List.any _ _) = _
  rw [any_find l srt]
  unfold kof
  cases srt.find? fun p => p.1 == l <;> rfl
theorem zeroE (w : World) : (zeroValue 5).run Try.prog w = .ok (.int .u8 0) w := by kernel_rfl
theorem lit_inj {a c : Int} (h : (DataW.lit (Lit.int .u8 a) : DataW Unit) = .lit (.int .u8 c)) : c = a := by cases h; rfl
theorem kind_any (s : ByteArray) (w : World) (hs : s.size ≤ maxLen) : Calls Try.prog 12 #[.string s] w fun e w' => e = .returned (.tuple #[.int .u8 ((kof s.data.toList).getD 0), .bool (kof s.data.toList).isSome]) ∧ Below w.heap.size w w' := by
  have hkey := Aside0.mk (WideMaps.keyOf_string_mk (P := Try.prog) Try.underlying9 hs)
  go_enter Try.func12, Try.ntmps12
  go_wp2_with (first
    | (go_at_call 24; refine (names_any _).mono ?_; rintro e w1 ⟨b, rfl, hge, ho, hb⟩; have HO := Aside0.mk ho; have HB := Aside0.mk hb; clear ho hb hge)
    | (at_lookup; refine wpList_lookup_own_ok_int _ rfl _ _ 55 rfl 9 5 .u8 law Try.underlying55 Try.underlying5 (zeroE _) b 10 (nm 10) rfl HO.out _ _ rfl hkey.out ?_; intro c hat hwc; rw [at_kof] at hat; have hc := lit_inj hat; subst hc; rw [has_kof]; clear hat hwc))
  go_ret2
  exact ⟨rfl, HB.out⟩
theorem kof_inv {l : List UInt8} {c : Int} (h : kof l = some c) : ∃ i : Nat, 1 ≤ i ∧ i ≤ 10 ∧ c = (i : Int) ∧ l = wd i := by
  unfold kof at h
  cases hf : srt.find? (fun p => p.1 == l) with
  | none => rw [hf] at h; cases h
  | some p =>
    rw [hf] at h
    have h1 := List.find?_some hf
    have h2 := List.mem_of_find?_eq_some hf
    have hl : p.1 = l := by simpa using h1
    have hc : p.2 = c := by simpa using h
    subst hl hc
    simp only [srt, List.mem_cons, List.not_mem_nil, or_false] at h2
    rcases h2 with rfl | rfl | rfl | rfl | rfl | rfl | rfl | rfl | rfl | rfl
    · exact ⟨7, by decide, by decide, rfl, rfl⟩
    · exact ⟨2, by decide, by decide, rfl, rfl⟩
    · exact ⟨3, by decide, by decide, rfl, rfl⟩
    · exact ⟨8, by decide, by decide, rfl, rfl⟩
    · exact ⟨4, by decide, by decide, rfl, rfl⟩
    · exact ⟨6, by decide, by decide, rfl, rfl⟩
    · exact ⟨1, by decide, by decide, rfl, rfl⟩
    · exact ⟨10, by decide, by decide, rfl, rfl⟩
    · exact ⟨9, by decide, by decide, rfl, rfl⟩
    · exact ⟨5, by decide, by decide, rfl, rfl⟩
theorem kof_wd {i : Nat} (h1 : 1 ≤ i) (h2 : i ≤ 10) : kof (wd i) = some (i : Int) := by
  have hc : i = 1 ∨ i = 2 ∨ i = 3 ∨ i = 4 ∨ i = 5 ∨ i = 6 ∨ i = 7 ∨ i = 8 ∨ i = 9 ∨ i = 10 := by omega
  rcases hc with rfl | rfl | rfl | rfl | rfl | rfl | rfl | rfl | rfl | rfl <;> decide
def nameOf (k : Int) : ByteArray := if 1 ≤ k ∧ k ≤ 10 then ⟨(wd k.toNat).toArray⟩ else ⟨#[]⟩
theorem name_hit {x : ByteArray} {k : Int} (h : kof x.data.toList = some k) : x = nameOf k := by
  obtain ⟨i, h1, h2, rfl, hl⟩ := kof_inv h
  unfold nameOf
  rw [if_pos (by omega), Int.toNat_natCast, ← hl]
theorem name_miss {k : Int} (h : ∀ l, kof l ≠ some k) : nameOf k = ⟨#[]⟩ := by
  unfold nameOf
  by_cases hk : 1 ≤ k ∧ k ≤ 10
  · have := kof_wd (i := k.toNat) (by omega) (by omega)
    rw [show ((k.toNat : Nat) : Int) = k by omega] at this
    exact absurd this (h _)
  · rw [if_neg hk]
theorem at_any (l : List UInt8) (zd : DataW Unit) : (nm 10).atKey (.string l) zd = match kof l with | some c => .lit (.int .u8 c) | none => zd := by
  rw [nm10]
  unfold DataW.atKey kof
  dsimp only
  rw [find_map l srt]
  cases srt.find? fun p => p.1 == l <;> rfl
theorem kof_of {l : List UInt8} {c : Int} (h : ∀ zd, (nm 10).atKey (.string l) zd = (.lit (.int .u8 c) : DataW Unit)) : kof l = some c := by
  have h1 := h .nil
  rw [at_any] at h1
  cases hk : kof l with
  | none => rw [hk] at h1; cases h1
  | some d => rw [hk] at h1; cases h1; rfl
def Seen (left : Lit → Bool) (k : Int) : Prop := ∀ l : List UInt8, left (.string l) = false → kof l ≠ some k
theorem seen_start (k : Int) : Seen (Go.Maps.has (nm 10)) k := fun l h => by
  rw [has_kof] at h
  cases hk : kof l with
  | none => intro e; cases e
  | some c => rw [hk] at h; cases h
theorem seen_next {left : Lit → Bool} {k c : Int} {l : List UInt8} (h : Seen left k) (hc : kof l = some c) (hne : c ≠ k) : Seen (fun z => left z && !z.sameKey (.string l)) k := fun m hm => by
  by_cases hl : left (.string m) = false
  · exact h m hl
  · have hs : (Lit.string m).sameKey (.string l) = true := by simpa [hl] using hm
    have hml : m = l := by simpa [Lit.sameKey] using hs
    subst hml
    rw [hc]
    intro e; injection e with e; exact hne e
theorem string_key_inv (key : Value) (kl : Lit) (h : keyOf Try.prog 9 key = some kl) : ∃ x : ByteArray, key = .string x := by
  cases key <;> simp [keyOf, Try.underlying9, mapKey] at h
  exact ⟨_, rfl⟩
theorem string_key_is {x : ByteArray} {kl : Lit} (h : keyOf Try.prog 9 (.string x) = some kl) : kl = .string x.data.toList := by
  simp [keyOf, Try.underlying9, mapKey] at h
  exact h.2.symm
theorem u8_inv (v : Value) (y : DataW Unit × List MemPlace) (h : plainElem (H := Unit) Try.prog 5 v = some y) : ∃ c : Int, v = .int .u8 c := by
  obtain ⟨c, rfl, _, _⟩ := plainElem_int_inv Try.underlying5 h
  exact ⟨c, rfl⟩
theorem name_any (k : Int) (w : World) : Calls Try.prog 14 #[.int .u8 k] w fun e w' => e = .returned (.string (nameOf k)) ∧ Below w.heap.size w w' := by
  go_enter Try.func14, Try.ntmps14
  go_wp2_with (first
    | (go_at_call 24; refine (names_any _).mono ?_; rintro e w1 ⟨b, rfl, hge, ho, hb⟩; have HO := Aside0.mk ho; have HB := Aside0.mk hb; have HG := Aside0.mk hge; clear ho hb hge)
    | (at_range; refine wpList_range_own _ rfl _ 55 rfl 9 5 law Try.underlying55 _ b 10 (nm 10) rfl HO.out ?_; intro w2 hrg hg0 hs0; have HR := Aside0.mk hrg; have HG2 := Aside0.mk hg0; clear hrg hg0 hs0)
    | go_in)
  go_frame
  have hr1 : w.heap.size ≤ w1.heap.size := HB.out.size
  have HB2 := Aside0.mk (below_step HB.out (Below.refl _ _ |>.grown HG2.out (Nat.le_refl _) (fun k hk => by cases hk)))
  generalize w1.heap.size = r at HR hr1 ⊢
  have HS := Aside0.mk (seen_start k)
  clear HO HB HG HG2
  go_loopw [3] (fun _ wr => ∃ left cnt, Aside0 (wr.ranges Try.prog 9 (plainElem (H := Unit) Try.prog 5) b r 10 (nm 10) left cnt) ∧ Aside0 (Seen left k) ∧ Aside0 (Below w.heap.size w wr)) (fun _ wr => wr.rangeLeft b r)
  case atStart => exact ⟨_, _, HR, HS, HB2⟩
  case round =>
    obtain ⟨left, cnt, hR, hS, hB⟩ := hrel
    clear HR HS HB2
    go_wp2_with (at_next; refine wpList_next_ranges _ rfl _ rfl 9 law (plainElem (H := Unit) Try.prog 5) Value.string (Value.int .u8) string_key_inv u8_inv b r 10 _ _ _ rfl hR.out ?_ ?_)
    · intro hc0 hl0
      have hm : Aside0 (nameOf k = ⟨#[]⟩) := ⟨name_miss (fun l => hS.out l (hl0 _))⟩
      clear hl0
      go_wp2_with fail
      go_ret
      exact ⟨by rw [hm.out]; rfl, hB.out⟩
    · intro x c kl ya yb w3 cnt3 hkey hlk hv hat hrg hlt hg1 hs1 hen
      have hkl := string_key_is hkey
      subst hkl
      have hy : ya = .lit (.int .u8 c) := by
        obtain ⟨c', e1, e2, _⟩ := plainElem_int_inv Try.underlying5 hv
        injection e1 with _ e1
        subst e1
        exact congrArg Prod.fst e2
      subst hy
      have hkc := kof_of hat
      have HR3 := Aside0.mk hrg
      have HB3 := Aside0.mk (hB.out.grown hg1 hB.out.size (fun q hq => by injection hq with hq; omega))
      by_cases hck : c = k
      · have hx : Aside0 (x = nameOf k) := ⟨name_hit (by rw [hkc, hck])⟩
        have hb : (c == k) = true := beq_iff_eq.2 hck
        clear hkey hlk hv hat hrg hg1 hs1 hkc hck
        go_wp2_with fail
        go_ret
        exact ⟨by rw [← hx.out]; rfl, HB3.out⟩
      · have hb : (c == k) = false := beq_eq_false_iff_ne.2 hck
        have HS3 := Aside0.mk (seen_next hS.out hkc hck)
        have hmu : Aside0 (w3.rangeLeft b r < wr.rangeLeft b r) := ⟨by rw [hrg.left_eq, hR.out.left_eq]; exact hlt⟩
        clear hkey hlk hv hat hrg hg1 hs1 hkc hck
        go_wp2_with fail
        go_roundw
        case rel => exact ⟨_, _, HR3, HS3, HB3⟩
        case measure => exact hmu.out
end Go.Proofs.Ytklnenaiolclaaa.H
