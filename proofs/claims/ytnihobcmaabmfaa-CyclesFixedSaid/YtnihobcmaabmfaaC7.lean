/- The law CyclesFixed by its contracts. -/
import Derived.Test.YtnihobcmaabmfaaC6
namespace Go.Proofs.Ytnihobcmaabmfaa.H
open Go.RowKit Go.Proofs.YtnihobcmaabmfaaW.PrintWords Go.Proofs.YtnihobcmaabmfaaW.PrintLast Go.Proofs.YtnihobcmaabmfaaW.PrintMore
set_option linter.unusedVariables false
set_option linter.unusedSimpArgs false
set_option maxHeartbeats 8000000
set_option maxRecDepth 100000
theorem row_at {k : IntKind} {w : World} {A : Option Addr} {len cap : Nat} {z : List Int} (h : Rw.IsRow k w A len cap z) (i : Nat) (hi : i < len) : ∃ (ad : Addr) (x : Int), A = some ad ∧ w.cell? (ad.add i) = some (.int k x) ∧ (Lit.int k x).wf = true := by
  rcases h with ⟨_, rfl, _⟩ | ⟨ad, rfl, hl, hm, hz, hc, hw⟩
  · omega
  · have hiz : i < z.length := by omega
    refine ⟨ad, z.getD i 0, rfl, hc i hiz, hw _ ?_⟩
    rw [List.getD_eq_getElem?_getD, List.getElem?_eq_getElem hiz]
    exact List.getElem_mem hiz
theorem row_len {k : IntKind} {w : World} {A : Option Addr} {len cap : Nat} {z : List Int} (h : Rw.IsRow k w A len cap z) : len ≤ 9223372036854775807 := by
  have hm : maxLen = 9223372036854775807 := rfl
  rcases h with ⟨_, rfl, _⟩ | ⟨ad, rfl, hl, h2, _⟩ <;> omega
theorem mulb {n m : Int} (h0 : 0 ≤ n) (h1 : n ≤ 1099511627776) (h2 : 0 ≤ m) (h3 : m ≤ 8388608) : 0 ≤ n * m ∧ n * m ≤ 9223372036854775808 := by
  refine ⟨Int.mul_nonneg h0 h2, ?_⟩
  have := Int.mul_le_mul h1 h3 h2 (by decide : (0 : Int) ≤ 1099511627776)
  omega
theorem now_is {s p n d X : Int} (hX : X = n * (s + p)) (hs : 0 ≤ s + p) (hs2 : s + p ≤ 8388608) (x0 : 0 ≤ X) (x1 : X ≤ 9223372036854775808) (d0 : 0 ≤ d) (d1 : d ≤ 4194304) : nowv s p n d = X + d := by
  unfold nowv
  rw [show IntKind.u64.wrap (s + p) = s + p by rw [IntKind.wrap_u64]; omega, ← hX, show IntKind.u64.wrap X = X by rw [IntKind.wrap_u64]; omega, IntKind.wrap_u64]
  omega
theorem begin_is {s p n X : Int} (hX : X = n * (s + p)) (hn : n ≤ 1099511627776) (s1 : 1 ≤ s) (s2 : s ≤ 4194304) (p0 : 0 ≤ p) (p1 : p ≤ 4194304) (x0 : 0 ≤ X) (x1 : X ≤ 9223372036854775808) : cycles_Begin.f n s p = some (X, 0) := by
  unfold cycles_Begin.f cycles_may.f
  rw [if_neg (by omega), if_pos s1, if_pos s2, decide_eq_true p1]
  simp only [Option.bind_some, if_true]
  rw [show IntKind.u64.wrap (s + p) = s + p by rw [IntKind.wrap_u64]; omega, ← hX, show IntKind.u64.wrap X = X by rw [IntKind.wrap_u64]; omega]
theorem now_v (g : Nat) (s p n d v : Int) (w : World) (hc : Cn 58 w g s p n d) (h1 : 1 ≤ s) (hv : nowv s p n d = v) : Calls Try.prog 10 #[.pointer (some ⟨g, 0, none⟩)] w fun e w' => e = .returned (.int .u64 v) ∧ Drawn0 w w' := by
  subst hv
  exact now_any g s p n d w hc h1
theorem new_ex (s p n : Int) (w : World) (h : mayB s p = true) (hn : n < 1099511627776) : Calls Try.prog 7 #[.int .u64 s, .int .u64 p, .int .u64 n] w fun e w' => ∃ g, e = .returned (.tuple #[.pointer (some ⟨g, 0, none⟩), .int .i64 0]) ∧ w.heap.size ≤ g ∧ Cn 58 w' g s p n 0 ∧ Below w.heap.size w w' :=
  (new_ok s p n w h hn).mono fun _ _ h => ⟨_, h.1, Nat.le_refl _, h.2.1, h.2.2⟩
theorem three (w : World) (a b c : Value) (t : TypeId) : (w.alloc (.cells #[a, b, c] t)).cell? ⟨w.heap.size, 0, none⟩ = some a ∧ (w.alloc (.cells #[a, b, c] t)).cell? ⟨w.heap.size, 1, none⟩ = some b ∧ (w.alloc (.cells #[a, b, c] t)).cell? ⟨w.heap.size, 2, none⟩ = some c :=
  ⟨blk_cell (heap_alloc_new w _) 0, blk_cell (heap_alloc_new w _) 1, blk_cell (heap_alloc_new w _) 2⟩
theorem fixed_any (a0 a1 a2 : Int) (A : Option Addr) (n1 c1 : Nat) (z1 : List Int) (B : Option Addr) (n2 c2 : Nat) (z2 : List Int) (w : World) (h0 : (Lit.int .u64 a0).wf = true) (h1 : (Lit.int .u64 a1).wf = true) (h2 : (Lit.int .u64 a2).wf = true) (r1 : Rw.IsRow .u64 w A n1 c1 z1) (y1 : n1 * 8 ≤ 140737488351232) (r2 : Rw.IsRow .u64 w B n2 c2 z2) (y2 : n2 * 8 ≤ 140737488351232) :
    Calls Try.prog 4 #[.agg #[.int .u64 a0, .int .u64 a1, .int .u64 a2], .slice A n1 c1, .slice B n2 c2] w fun e w' => e = .returned (.bool true) ∧ Below w.heap.size w w' := by
  have u0 := u64_lo' h0
  have u1 := u64_lo' h1
  have u2 := u64_lo' h2
  have HR1 := Aside0.mk r1
  have HR2 := Aside0.mk r2
  clear h0 h1 h2 r1 r2
  obtain ⟨s, hs, s1, s2⟩ : ∃ s, s = 1 + a0 % 4194304 ∧ 1 ≤ s ∧ s ≤ 4194304 := ⟨_, rfl, by omega, by omega⟩
  obtain ⟨p, hp, p0, p1⟩ : ∃ p, p = a1 % 4194305 ∧ 0 ≤ p ∧ p ≤ 4194304 := ⟨_, rfl, by omega, by omega⟩
  obtain ⟨f, hf, f0, f1⟩ : ∃ f, f = a2 % 1099511626776 ∧ 0 ≤ f ∧ f < 1099511626776 := ⟨_, rfl, by omega, by omega⟩
  have Hs := Aside0.mk hs
  have Hp := Aside0.mk hp
  have Hf := Aside0.mk hf
  have Hm : Aside0 (mayB s p = true) := ⟨by simp [mayB]; omega⟩
  clear hs hp hf
  have HB0 := Aside0.mk (below_alloc (Below.refl w.heap.size w) (.cells #[.int .u64 a0, .int .u64 a1, .int .u64 a2] 23))
  obtain ⟨t0, t1, t2⟩ := three w (.int .u64 a0) (.int .u64 a1) (.int .u64 a2) 23
  go_enter Try.func4, Try.ntmps4
  go_wp2_with fail
  refine (awake_yes _).mono ?_
  rintro e w1 ⟨rfl, hb⟩
  have k0 := pw_cell_below hb t0
  have k1 := pw_cell_below hb t1
  have k2 := pw_cell_below hb t2
  have HB1 := Aside0.mk (below_step HB0.out hb)
  clear hb t0 t1 t2 HB0
  go_wp2_with fail
  go_quiet (fail)
  have HB2 := Aside0.mk (pw_below_drewN HB1.out nq)
  clear k0 k1 k2 HB1
  rw [← Hs.out, ← Hp.out, ← Hf.out]
  generalize World.drewN w1 nq = w2 at HB2 ⊢
  clear Hs Hp Hf u0 u1 u2
  go_wp2_with fail
  refine (new_ex s p f _ Hm.out (by omega)).mono ?_
  rintro e w3 ⟨g, rfl, hg, hc, hb⟩
  have HB3 := Aside0.mk (below_step HB2.out hb)
  have HC3 := Aside0.mk hc
  have hgw : w.heap.size ≤ g := Nat.le_trans HB2.out.size hg
  clear hb hc hg HB2 Hm
  go_wp2_with fail
  go_loopw [12, 13] (fun v12 v13 wr => ∃ (i : Nat) (last : Int), i ≤ n2 ∧ i ≤ 200 ∧ v12 = .int .u64 last ∧ v13 = .int .i64 i ∧ 0 ≤ last ∧ Aside0 (last ≤ (f + i) * (s + p)) ∧ Aside0 (Cn 58 wr g s p (f + i) 0) ∧ Aside0 (Below w.heap.size w wr)) (fun _ v13 _ => n2 - (intOf v13).toNat)
  case atStart => exact ⟨0, 0, by omega, by omega, rfl, rfl, by omega, ⟨Int.mul_nonneg (by omega) (by omega)⟩, ⟨by have := HC3.out; simpa using this⟩, HB3⟩
  case round =>
    obtain ⟨i, last, hi, hi2, rfl, rfl, l0, hl, hc, hb⟩ := hrel
    clear HC3 HB3
    by_cases hlt : i < n2 ∧ i < 200
    · obtain ⟨hlt, hlt2⟩ := hlt
      obtain ⟨bd, y0, rfl, hy, wy⟩ := row_at HR2.out i hlt
      have HY := Aside0.mk hy
      have hy0 := u64_lo' wy
      have m0 : 0 ≤ y0 % (p + 1) := Int.emod_nonneg _ (by omega)
      have m1 : y0 % (p + 1) ≤ p := by have := Int.emod_lt_of_pos y0 (show 0 < p + 1 by omega); omega
      clear hy wy
      obtain ⟨X, hX⟩ : ∃ X, X = (f + (i : Int)) * (s + p) := ⟨_, rfl⟩
      have hxb := mulb (n := f + (i : Int)) (m := s + p) (by omega) (by omega) (by omega) (by omega)
      rw [← hX] at hxb
      obtain ⟨x0, x1⟩ := hxb
      have hlX : last ≤ X := by rw [hX]; exact hl.out
      obtain ⟨n, hn⟩ : ∃ n, n = f + (i : Int) := ⟨_, rfl⟩
      rw [← hn] at hX
      have hnn : 0 ≤ n := by omega
      have hn2 : n < 1099511627776 := by omega
      have HX := Aside0.mk hX
      have hc' : Aside0 (Cn 58 wr g s p n 0) := ⟨by rw [hn]; exact hc.out⟩
      have HN := Aside0.mk hn
      have hnf : f + (i : Int) = n := hn.symm
      clear hX hl hc hn
      go_wp2_with fail
      refine (cycles_Begin.calls n s p X 0 _ (begin_is HX.out (by omega) s1 s2 p0 p1 x0 x1)).mono ?_
      rintro e w4 ⟨rfl, hd⟩
      have HB4 := Aside0.mk (below_step hb.out hd.below)
      have HC4 := Aside0.mk (hc'.out.below hd.below)
      clear hd hb hc'
      go_wp2_with fail
      refine (now_v g s p n 0 X _ HC4.out s1 (by have := now_is HX.out (by omega) (by omega) x0 x1 (Int.le_refl 0) (by decide); simpa using this)).mono ?_
      rintro e w5 ⟨rfl, hd⟩
      have HB5 := Aside0.mk (below_step HB4.out hd.below)
      have HC5 := Aside0.mk (HC4.out.below hd.below)
      clear hd HB4 HC4
      go_wp2_with fail
      refine (left_in g s p n 0 _ HC5.out s1 s2 (by omega) (by omega) hnn hn2).mono ?_
      rintro e w6 ⟨rfl, hd⟩
      have HB6 := Aside0.mk (below_step HB5.out hd.below)
      have HC6 := Aside0.mk (HC5.out.below hd.below)
      clear hd HB5 HC5
      go_wp2_with fail
      refine (number_any g s p n 0 _ HC6.out s1).mono ?_
      rintro e w7 ⟨rfl, hw⟩
      subst w7
      go_wp2_with fail
      go_loopw [16] (fun v16 wr2 => ∃ (k : Nat) (d : Int), k ≤ 3 ∧ v16 = .int .i64 k ∧ 0 ≤ d ∧ d ≤ s ∧ Aside0 (Cn 58 wr2 g s p n d) ∧ Aside0 (Below w.heap.size w wr2)) (fun v16 _ => 3 - (intOf v16).toNat)
      case atStart => exact ⟨0, 0, by omega, rfl, by omega, by omega, HC6, HB6⟩
      case round =>
        obtain ⟨k, d, hk, rfl, d0, d1, hc2, hb2⟩ := hrel
        clear HC6 HB6
        by_cases hin : k < 3 ∧ 3 * i + k < n1
        · obtain ⟨hk3, hin⟩ := hin
          obtain ⟨ad, xx, rfl, hxx, wx⟩ := row_at HR1.out (3 * i + k) hin
          have hcell := pw_cell_below hb2.out hxx
          have hx0 := u64_lo' wx
          have q0 : 0 ≤ xx % (s + 1) := Int.emod_nonneg _ (by omega)
          have q1 : xx % (s + 1) ≤ s := by have := Int.emod_lt_of_pos xx (show 0 < s + 1 by omega); omega
          clear hxx wx
          go_wp2_with fail
          generalize xx % (s + 1) = x at q0 q1 ⊢
          clear hcell
          refine (left_in g s p n (d) _ hc2.out s1 s2 (by omega) (by omega) hnn hn2).mono ?_
          rintro e w8 ⟨rfl, hd⟩
          have HB8 := Aside0.mk (below_step hb2.out hd.below)
          have HC8 := Aside0.mk (hc2.out.below hd.below)
          clear hd hb2 hc2
          by_cases hle : x ≤ s - d
          · have hlv : Aside0 (x ≤ leftv s n d) := ⟨by unfold leftv; rw [if_neg (by omega)]; exact hle⟩
            go_wp2_with fail
            refine (spend_ok g s p n d x _ HC8.out s1 s2 d0 d1 hnn q0 hlv.out).mono ?_
            rintro e w9 ⟨rfl, hc9, ho⟩
            have HB9 := Aside0.mk (below_only HB8.out ho hgw)
            have HC9 := Aside0.mk hc9
            clear ho hc9 HB8 HC8 hlv
            have he : (s - (d + x) != s - d - x) = false := bne_eq_false_iff_eq.2 (by omega)
            go_wp2_with fail
            refine (left_in g s p n (d + x) _ HC9.out s1 s2 (by omega) (by omega) hnn hn2).mono ?_
            rintro e wa ⟨rfl, hd⟩
            have HBa := Aside0.mk (below_step HB9.out hd.below)
            have HCa := Aside0.mk (HC9.out.below hd.below)
            clear hd HB9 HC9
            go_wp2_with fail
            refine (now_v g s p n (d + x) (X + (d + x)) _ HCa.out s1 (now_is HX.out (by omega) (by omega) x0 x1 (by omega) (by omega))).mono ?_
            rintro e wb ⟨rfl, hd⟩
            have HBb := Aside0.mk (below_step HBa.out hd.below)
            have HCb := Aside0.mk (HCa.out.below hd.below)
            clear hd HBa HCa
            go_wp2_with fail
            go_roundw
            case rel => exact ⟨k + 1, d + x, by omega, by go_num, by omega, by omega, HCb, HBb⟩
            case measure => simp [intOf]; omega
          · have hlv : Aside0 (leftv s n d < x) := ⟨by unfold leftv; rw [if_neg (by omega)]; omega⟩
            have hgt : s - d < x := by omega
            clear hle
            go_wp2_with fail
            refine (spend_no g s p n d x _ HC8.out s1 s2 d0 d1 hnn q0 hlv.out).mono ?_
            rintro e w9 ⟨rfl, hc9, ho⟩
            have HB9 := Aside0.mk (below_only HB8.out ho hgw)
            have HC9 := Aside0.mk hc9
            clear ho hc9 HB8 HC8 hlv
            go_wp2_with fail
            refine (left_in g s p n (d) _ HC9.out s1 s2 (by omega) (by omega) hnn hn2).mono ?_
            rintro e wa ⟨rfl, hd⟩
            have HBa := Aside0.mk (below_step HB9.out hd.below)
            have HCa := Aside0.mk (HC9.out.below hd.below)
            clear hd HB9 HC9
            go_wp2_with fail
            refine (now_v g s p n (d) (X + (d)) _ HCa.out s1 (now_is HX.out (by omega) (by omega) x0 x1 (by omega) (by omega))).mono ?_
            rintro e wb ⟨rfl, hd⟩
            have HBb := Aside0.mk (below_step HBa.out hd.below)
            have HCb := Aside0.mk (HCa.out.below hd.below)
            clear hd HBa HCa
            go_wp2_with fail
            go_roundw
            case rel => exact ⟨k + 1, d, by omega, by go_num, by omega, by omega, HCb, HBb⟩
            case measure => simp [intOf]; omega
        · have hout : 3 ≤ k ∨ k < 3 ∧ n1 ≤ 3 * i + k := by omega
          clear hin
          have HNX : Aside0 (X + d ≤ (f + ((i + 1 : Nat) : Int)) * (s + p)) := ⟨by
            have e1 : (f + ((i + 1 : Nat) : Int)) * (s + p) = X + (s + p) := by
              rw [HX.out, HN.out, Int.natCast_add, ← Int.add_assoc, Int.add_mul (f + (i : Int))]
              simp
            rw [e1]; omega⟩
          have HX1 : Aside0 (X + (s + p) = (n + 1) * (s + p)) := ⟨by rw [HX.out, Int.add_mul]; simp⟩
          have HN1 : Aside0 (n + 1 = f + ((i + 1 : Nat) : Int)) := ⟨by rw [HN.out]; omega⟩
          have hxy : X + (s + p) ≤ 9223372036854775808 := by
            have := mulb (n := n + 1) (m := s + p) (by omega) (by omega) (by omega) (by omega)
            rw [← HX1.out] at this
            omega
          rcases hout with h3 | ⟨h3, h4⟩
          all_goals
            go_wp2_with fail
            refine (now_v g s p n d (X + d) _ hc2.out s1 (now_is HX.out (by omega) (by omega) x0 x1 (by omega) (by omega))).mono ?_
            rintro e w8 ⟨rfl, hd⟩
            have HB8 := Aside0.mk (below_step hb2.out hd.below)
            have HC8 := Aside0.mk (hc2.out.below hd.below)
            have hyc := pw_cell_below HB8.out HY.out
            clear hd hb2 hc2
            go_wp2_with fail
            generalize y0 % (p + 1) = y at m0 m1 ⊢
            refine (switch_ok g s p n d y _ HC8.out s1 s2 d0 d1 hnn m0 hn2 m1).mono ?_
            rintro e w9 ⟨rfl, hc9, ho⟩
            have HB9 := Aside0.mk (below_only HB8.out ho hgw)
            have HC9 := Aside0.mk hc9
            clear ho hc9 HB8 HC8 hyc
            go_wp2_with fail
            refine (now_v g s p (n + 1) 0 (X + (s + p)) _ HC9.out s1 (by have := now_is HX1.out (by omega) (by omega) (by omega) hxy (Int.le_refl 0) (by decide); simpa using this)).mono ?_
            rintro e wa ⟨rfl, hd⟩
            have HBa := Aside0.mk (below_step HB9.out hd.below)
            have HCa := Aside0.mk (HC9.out.below hd.below)
            clear hd HB9 HC9
            go_wp2_with fail
            go_roundw
            case rel => exact ⟨i + 1, X + d, by omega, by omega, rfl, by go_num, by omega, HNX, ⟨by rw [← HN1.out]; exact HCa.out⟩, HBa⟩
            case measure => simp [intOf]; omega
    · have hout : n2 ≤ i ∨ i < n2 ∧ 200 ≤ i := by omega
      clear hlt
      rcases hout with h3 | ⟨h3, h4⟩
      all_goals
        go_wp2_with fail
        go_ret
        exact ⟨rfl, hb.out⟩
end Go.Proofs.Ytnihobcmaabmfaa.H
