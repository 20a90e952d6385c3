/- Contract of call.Decode. -/
import Derived.Test.YtklnenaiolclaaaC1
namespace Go.Proofs.Ytklnenaiolclaaa.H
open Go.RowKit Go.Proofs.YtklnenaiolclaaaW.PrintWords Go.Proofs.YtklnenaiolclaaaW.PrintLast Go.Proofs.YtklnenaiolclaaaW.PrintMore
set_option linter.unusedVariables false
set_option linter.unusedSimpArgs false
set_option maxHeartbeats 8000000
set_option maxRecDepth 100000
def cV (c : C7) : Value := .agg c.cells
def raw (x0 x1 x2 x3 x4 x5 : Int) : Array Value := #[.int .u64 x0, .int .u64 x1, .int .u64 x2, .int .u64 x3, .int .u64 x4, .int .u64 x5]
def Bl (w : World) (g : Nat) (t : TypeId) (cs : Array Value) : Prop := w.heap[g]? = some (.cells cs t (0, 0))
theorem Bl.later {w w' : World} {g : Nat} {t : TypeId} {cs : Array Value} (h : Bl w g t cs) (hb : Below w.heap.size w w') : Bl w' g t cs := blk_grown h (grown_of_below hb none) (by simp)
theorem Bl.keep {w w' : World} {g g' : Nat} {t : TypeId} {cs : Array Value} (h : Bl w g t cs) (hb : KeepBut w w' g' none) (hne : g ≠ g') : Bl w' g t cs := hb.blk h hne (by simp)
theorem Bl.far {w : World} {g : Nat} {t : TypeId} {cs : Array Value} (h : Bl w g t cs) {p : Addr} (hp : g ≠ p.block) (u : Value) : Bl (w.setCell p u) g t cs := blk_far h hp u
theorem res_ct {fn : Func} {p u : Tmp} (h : fn.results = #[.cell p 26, .tmp u]) (tmps : Array Value) (w : World) (g : Nat) (c : C7) (hp : tmps.getD p undef = .pointer (some ⟨g, 0, none⟩)) (hg : Bl w g 26 c.cells) :
    (results fn tmps).run Try.prog w = .ok (.tuple #[cV c, tmps.getD u undef]) w := results_ct h tmps w g 26 c.cells (0, 0) _ hp hg Try.underlying26 rfl (by kernel_rfl)
def put7 (w : World) (g : Nat) (c : C7) : World := ((((((w.setCell ⟨g, 0, none⟩ (.int .u8 c.k)).setCell ⟨g, 1, none⟩ (.int .i64 c.p)).setCell ⟨g, 2, none⟩ (.int .i64 c.g)).setCell ⟨g, 3, none⟩ (.int .i64 c.n)).setCell ⟨g, 4, none⟩ (.int .u8 c.m)).setCell ⟨g, 5, none⟩ (.int .u64 c.a)).setCell ⟨g, 6, none⟩ (.int .u64 c.v)
theorem put7_blk {w : World} {g : Nat} {d : C7} (h : Bl w g 26 d.cells) (c : C7) : Bl (put7 w g c) g 26 c.cells := by
  have h1 := blk_set h 0 (.int .u8 c.k)
  have h2 := blk_set h1 1 (.int .i64 c.p)
  have h3 := blk_set h2 2 (.int .i64 c.g)
  have h4 := blk_set h3 3 (.int .i64 c.n)
  have h5 := blk_set h4 4 (.int .u8 c.m)
  have h6 := blk_set h5 5 (.int .u64 c.a)
  exact blk_set h6 6 (.int .u64 c.v)
theorem put7_below {w0 w : World} {g : Nat} (h : Below w0.heap.size w0 w) (hg : w0.heap.size ≤ g) (c : C7) : Below w0.heap.size w0 (put7 w g c) := by
  have h1 := below_set (j := 0) (v := .int .u8 c.k) h hg
  have h2 := below_set (j := 1) (v := .int .i64 c.p) h1 hg
  have h3 := below_set (j := 2) (v := .int .i64 c.g) h2 hg
  have h4 := below_set (j := 3) (v := .int .i64 c.n) h3 hg
  have h5 := below_set (j := 4) (v := .int .u8 c.m) h4 hg
  have h6 := below_set (j := 5) (v := .int .u64 c.a) h5 hg
  exact below_set (j := 6) (v := .int .u64 c.v) h6 hg
theorem Bl.cells7 {w : World} {g : Nat} {c : C7} (h : Bl w g 26 c.cells) : w.cell? ⟨g, 0, none⟩ = some (.int .u8 c.k) ∧ w.cell? ⟨g, 1, none⟩ = some (.int .i64 c.p) ∧ w.cell? ⟨g, 2, none⟩ = some (.int .i64 c.g) ∧ w.cell? ⟨g, 3, none⟩ = some (.int .i64 c.n) ∧ w.cell? ⟨g, 4, none⟩ = some (.int .u8 c.m) ∧ w.cell? ⟨g, 5, none⟩ = some (.int .u64 c.a) ∧ w.cell? ⟨g, 6, none⟩ = some (.int .u64 c.v) :=
  ⟨blk_cell h 0, blk_cell h 1, blk_cell h 2, blk_cell h 3, blk_cell h 4, blk_cell h 5, blk_cell h 6⟩
theorem Bl.free {w : World} {g : Nat} {t : TypeId} {cs : Array Value} (h : Bl w g t cs) : ∀ i, w.frozen? ⟨g, i, none⟩ = false := fun i => blk_frozen h i
def ck (k : Int) : C7 := { c0 with k := k }
theorem fields_row {w w' : World} {v : Value} {L : List Int} (h : Kd.R (Kd.int .u8) 50 w' w.heap.size (fun _ => True) v L) : ∃ A c, v = .slice A L.length c ∧ ∀ i : Nat, i < L.length → ∃ g : Nat, A = some ⟨g, 0, none⟩ ∧ w.heap.size ≤ g ∧ w'.cell? ⟨g, i, none⟩ = some (.int .u8 (rd L (i : Int))) := by
  obtain ⟨A, c, rfl⟩ := Kd.R_slice h
  refine ⟨A, c, rfl, fun i hi => ?_⟩
  obtain ⟨g, co, eo, gb, gl, cl, HG⟩ := Kd.R_form h (by omega)
  cases eo
  have hc := (Kd.R_celln 0 h (i : Int) (by omega) (by omega)).1
  exact ⟨g, rfl, gb, hc⟩
def ws (x1 x2 x3 x4 x5 : Int) : List Int := [x1, x2, x3, x4, x5]
theorem ws_cell {w : World} {b : Nat} {x0 x1 x2 x3 x4 x5 : Int} (h : Bl w b 24 #[.int .u64 x0, .int .u64 x1, .int .u64 x2, .int .u64 x3, .int .u64 x4, .int .u64 x5]) {i : Nat} (hi : i < 5) : w.cell? ⟨b, 1 + i, none⟩ = some (.int .u64 (rd (ws x1 x2 x3 x4 x5) (i : Int))) := by
  have := blk_cell h (1 + i)
  rw [this]
  have hc : i = 0 ∨ i = 1 ∨ i = 2 ∨ i = 3 ∨ i = 4 := by omega
  rcases hc with rfl | rfl | rfl | rfl | rfl <;> rfl
theorem ws_drop {x1 x2 x3 x4 x5 : Int} {i : Nat} (hi : i < 5) : (ws x1 x2 x3 x4 x5).drop i = rd (ws x1 x2 x3 x4 x5) (i : Int) :: (ws x1 x2 x3 x4 x5).drop (i + 1) := by
  have hc : i = 0 ∨ i = 1 ∨ i = 2 ∨ i = 3 ∨ i = 4 := by omega
  rcases hc with rfl | rfl | rfl | rfl | rfl <;> rfl
theorem ws_lo {x1 x2 x3 x4 x5 : Int} (h1 : 0 ≤ x1) (h2 : 0 ≤ x2) (h3 : 0 ≤ x3) (h4 : 0 ≤ x4) (h5 : 0 ≤ x5) {i : Nat} (hi : i < 5) : 0 ≤ rd (ws x1 x2 x3 x4 x5) (i : Int) := by
  have hc : i = 0 ∨ i = 1 ∨ i = 2 ∨ i = 3 ∨ i = 4 := by omega
  rcases hc with rfl | rfl | rfl | rfl | rfl <;> assumption
theorem L_drop {L : List Int} {i : Nat} (hi : i < L.length) : L.drop i = rd L (i : Int) :: L.drop (i + 1) := by
  rw [List.drop_eq_getElem_cons hi]
  simp [rd, List.getD, hi]
theorem L_mem {L : List Int} {i : Nat} (hi : i < L.length) : rd L (i : Int) ∈ L := by
  have : rd L (i : Int) = L[i] := by simp [rd, List.getD, hi]
  rw [this]; exact List.getElem_mem hi
theorem keep_refl_trans {w w1 w2 : World} {g : Nat} (h : KeepBut w w1 g none) (k : KeepBut w1 w2 g none) : KeepBut w w2 g none := h.trans k (.inl rfl)
def DP (D : Option C7) (w : World) (e : Ending) (w' : World) : Prop := e = .returned (.tuple #[cV (D.getD c0), .int .i64 (if D.isSome then 0 else 250)]) ∧ Below w.heap.size w w'
theorem DP_none {w w' : World} (hb : Below w.heap.size w w') : DP none w (.returned (.tuple #[cV c0, .int .i64 250])) w' := ⟨rfl, hb⟩
theorem DP_some {d : C7} {w w' : World} (hb : Below w.heap.size w w') : DP (some d) w (.returned (.tuple #[cV d, .int .i64 0])) w' := ⟨rfl, hb⟩
theorem decode_any (x0 x1 x2 x3 x4 x5 : Int) (w : World) (h0 : 0 ≤ x0) (h1 : 0 ≤ x1) (h2 : 0 ≤ x2) (h3 : 0 ≤ x3) (h4 : 0 ≤ x4) (h5 : 0 ≤ x5) :
    Calls Try.prog 9 #[.agg (raw x0 x1 x2 x3 x4 x5)] w (DP (dec x0 x1 x2 x3 x4 x5) w) := by
  have hz : Bl ((w.alloc (.cells (raw x0 x1 x2 x3 x4 x5) 24)).alloc (.cells c0.cells 26)) (w.heap.size + 1) 26 c0.cells := by have := heap_alloc_new (w.alloc (.cells (raw x0 x1 x2 x3 x4 x5) 24)) (.cells c0.cells 26); simpa [Bl] using this
  have HZ := Aside0.mk hz
  clear hz
  have HB0 := Aside0.mk (below_alloc (below_alloc (Below.refl w.heap.size w) (.cells (raw x0 x1 x2 x3 x4 x5) 24)) (.cells c0.cells 26))
  by_cases hb : 255 < x0
  · have hd : dec x0 x1 x2 x3 x4 x5 = none := if_pos hb
    rw [hd]
    unfold raw
    go_enter Try.func9, Try.ntmps9
    go_wp2_with fail
    refine bodyPost_ret (res_ct rfl _ _ (w.heap.size + 1) c0 rfl HZ.out) rfl ?_
    exact DP_none HB0.out
  · have hm : x0 % 256 = x0 := by omega
    have Hd : Aside0 (dec x0 x1 x2 x3 x4 x5 = match fds x0 with | none => none | some L => go L [x1, x2, x3, x4, x5] (ck x0)) := ⟨if_neg hb⟩
    have hb' : x0 ≤ 255 := by omega
    have HR : Aside0 (Bl ((w.alloc (.cells (raw x0 x1 x2 x3 x4 x5) 24)).alloc (.cells c0.cells 26)) w.heap.size 24 (raw x0 x1 x2 x3 x4 x5)) := ⟨(Bl.later (w := w.alloc (.cells (raw x0 x1 x2 x3 x4 x5) 24)) (heap_alloc_new w _) (below_alloc (Below.refl _ _) _))⟩
    clear hb
    have HC : Aside0 (Bl (((w.alloc (.cells (raw x0 x1 x2 x3 x4 x5) 24)).alloc (.cells c0.cells 26)).alloc (.cells (ck x0).cells 26)) (w.heap.size + 1 + 1) 26 (ck x0).cells) := ⟨by have := heap_alloc_new ((w.alloc (.cells (raw x0 x1 x2 x3 x4 x5) 24)).alloc (.cells c0.cells 26)) (.cells (ck x0).cells 26); simpa [Bl] using this⟩
    have HB1 := Aside0.mk (below_alloc HB0.out (.cells (ck x0).cells 26))
    have HZ1 := Aside0.mk (HZ.out.later (below_alloc (Below.refl _ _) (.cells (ck x0).cells 26)))
    have HR1 := Aside0.mk (HR.out.later (below_alloc (Below.refl _ _) (.cells (ck x0).cells 26)))
    clear HB0 HZ HR
    cases hL : fds x0 with
    | none =>
      have hd : dec x0 x1 x2 x3 x4 x5 = none := by rw [Hd.out, hL]
      rw [hd]
      have HN := Aside0.mk (fds_no hL)
      clear hd hL Hd
      unfold raw
      go_enter Try.func9, Try.ntmps9
      go_wp2_with fail
      refine (call_fields.calls 5 x0 [] false _ HN.out).mono ?_
      rintro e w1 ⟨v, rfl, hv, hb⟩
      obtain ⟨A, c, rfl⟩ := Kd.R_slice hv
      have HB2 := Aside0.mk (below_step HB1.out hb)
      have HZ2 := Aside0.mk (HZ1.out.later hb)
      obtain ⟨z0, z1, z2, z3, z4, z5, z6⟩ := HZ2.out.cells7
      have hf := HZ2.out.free
      clear hv hb HB1 HZ1 HR1 HC HN
      go_wp2_with fail
      refine bodyPost_ret (res_ct rfl _ _ (w.heap.size + 1) c0 rfl (put7_blk HZ2.out c0)) rfl ?_
      exact DP_none (put7_below HB2.out (Nat.le_succ _) c0)
    | some L =>
      obtain ⟨hN, hl4, hfs⟩ := fds_yes hL
      have HN := Aside0.mk hN
      have HD : Aside0 (dec x0 x1 x2 x3 x4 x5 = go L [x1, x2, x3, x4, x5] (ck x0)) := ⟨by rw [Hd.out, hL]⟩
      have HFS := Aside0.mk hfs
      clear hN hL Hd hfs
      generalize hres : dec x0 x1 x2 x3 x4 x5 = D at HD
      clear hres
      unfold raw at HB1 HZ1 HR1 HC ⊢
      go_enter Try.func9, Try.ntmps9
      go_wp2_with fail
      refine (call_fields.calls 5 x0 L true _ HN.out).mono ?_
      rintro e w1 ⟨v, rfl, hv, hb⟩
      obtain ⟨A, c, rfl, hrow⟩ := fields_row hv
      have HB2 := Aside0.mk (below_step HB1.out hb)
      have HZ2 := Aside0.mk (HZ1.out.later hb)
      have HR2 := Aside0.mk (HR1.out.later hb)
      have HC2 := Aside0.mk (HC.out.later hb)
      have HW := Aside0.mk hrow
      have HK : Aside0 (KeepBut w1 w1 (w.heap.size + 1 + 1) none) := ⟨KeepBut.refl _ _ _⟩
      clear hv hb hrow HB1 HZ1 HR1 HC HN
      go_wp2_with fail
      go_loopw [28] (fun v28 wr => ∃ (i : Nat) (d : C7), i ≤ 5 ∧ v28 = .int .i64 i ∧ Aside0 (D = go (L.drop i) ((ws x1 x2 x3 x4 x5).drop i) d) ∧ Aside0 (Bl wr (w.heap.size + 1 + 1) 26 d.cells) ∧ Aside0 (Bl wr (w.heap.size + 1) 26 c0.cells) ∧ Aside0 (Bl wr w.heap.size 24 #[.int .u64 x0, .int .u64 x1, .int .u64 x2, .int .u64 x3, .int .u64 x4, .int .u64 x5]) ∧ Aside0 (KeepBut w1 wr (w.heap.size + 1 + 1) none) ∧ Aside0 (Below w.heap.size w wr)) (fun v28 _ => 5 - (intOf v28).toNat)
      case atStart => exact ⟨0, ck x0, by omega, rfl, ⟨HD.out⟩, HC2, HZ2, HR2, HK, HB2⟩
      case round =>
        obtain ⟨i, d, hi, rfl, hD, hC, hZ, hR, hK, hB⟩ := hrel
        clear HC2 HZ2 HR2 HK HB2 HD
        by_cases hlt : i < 5
        · have hxc := ws_cell hR.out hlt
          have hx0 := ws_lo h1 h2 h3 h4 h5 (x1 := x1) (x2 := x2) (x3 := x3) (x4 := x4) (x5 := x5) hlt
          have hDw := hD.out
          rw [ws_drop hlt] at hDw
          have HDW := Aside0.mk hDw
          clear hDw hD
          generalize rd (ws x1 x2 x3 x4 x5) (i : Int) = x at hxc hx0 HDW
          by_cases hiL : i < L.length
          · obtain ⟨gl, rfl, hgl, hlc⟩ := HW.out i hiL
            have hlc2 := keep_cell hK.out hlc (by simp at hgl ⊢; omega)
            have hff := HFS.out _ (L_mem hiL)
            have hDw := HDW.out
            rw [L_drop hiL] at hDw
            simp only [go] at hDw
            have HDX := Aside0.mk hDw
            clear hDw HDW hlc hgl
            generalize rd L (i : Int) = f at hlc2 hff HDX
            obtain ⟨f0, f5⟩ := hff
            cases hs : setF d f x with
            | some d' =>
              have hDn := HDX.out
              rw [hs] at hDn
              have HDn := Aside0.mk hDn
              have HS := Aside0.mk (set_yes ⟨f0, f5⟩ hx0 hs)
              clear hDn HDX hs
              go_wp2_with fail
              refine (call_set.calls (w.heap.size + 1 + 1) d.k d.p d.g d.n d.m d.a d.v f x true d'.k d'.p d'.g d'.n d'.m d'.a d'.v w _ ⟨hC.out, by omega⟩ hB.out HS.out).mono ?_
              rintro e w2 ⟨rfl, hI, hb2, hk2⟩
              have HC3 : Aside0 (Bl w2 (w.heap.size + 1 + 1) 26 d'.cells) := ⟨hI.1⟩
              have HZ3 := Aside0.mk (hZ.out.keep hk2 (by omega))
              have HR3 := Aside0.mk (hR.out.keep hk2 (by omega))
              have HK3 := Aside0.mk (keep_refl_trans hK.out hk2)
              have HB3 := Aside0.mk hb2
              clear hI hb2 hk2 hC hZ hR hK hB hxc hlc2
              go_wp2_with fail
              go_roundw
              case rel => exact ⟨i + 1, d', by omega, by go_num, HDn, HC3, HZ3, HR3, HK3, HB3⟩
              case measure => simp [intOf]; omega
            | none =>
              have hDn := HDX.out
              rw [hs] at hDn
              obtain ⟨dd, hset⟩ := set_no ⟨f0, f5⟩ hx0 hs
              have HDn := Aside0.mk hDn
              have HS := Aside0.mk hset
              clear hDn HDX hs hset
              go_wp2_with fail
              refine (call_set.calls (w.heap.size + 1 + 1) d.k d.p d.g d.n d.m d.a d.v f x false dd.k dd.p dd.g dd.n dd.m dd.a dd.v w _ ⟨hC.out, by omega⟩ hB.out HS.out).mono ?_
              rintro e w2 ⟨rfl, hI, hb2, hk2⟩
              have HZ3 := Aside0.mk (hZ.out.keep hk2 (by omega))
              obtain ⟨z0, z1, z2, z3, z4, z5, z6⟩ := HZ3.out.cells7
              have hfr := HZ3.out.free
              have HB3 := Aside0.mk hb2
              clear hI hb2 hk2 hC hZ hR hK hB hxc hlc2
              go_wp2_with fail
              refine bodyPost_ret (res_ct rfl _ _ (w.heap.size + 1) c0 rfl (put7_blk HZ3.out c0)) rfl ?_
              rw [HDn.out]
              exact DP_none (put7_below HB3.out (Nat.le_succ _) c0)
          · have hLn : L.drop i = [] := List.drop_eq_nil_of_le (by omega)
            have hLn1 : L.drop (i + 1) = [] := List.drop_eq_nil_of_le (by omega)
            have hDw := HDW.out
            rw [hLn] at hDw
            simp only [go] at hDw
            have HDX := Aside0.mk hDw
            have HL1 := Aside0.mk hLn1
            clear hDw HDW hLn hLn1
            by_cases hxz : x = 0
            · have hDn := HDX.out
              rw [if_pos hxz] at hDn
              have HDn := Aside0.mk hDn
              have hxz' : (x != 0) = false := bne_eq_false_iff_eq.2 hxz
              clear hDn HDX hxz
              go_wp2_with fail
              go_roundw
              case rel => exact ⟨i + 1, d, by omega, by go_num, ⟨by rw [HL1.out]; exact HDn.out⟩, hC, hZ, hR, hK, hB⟩
              case measure => simp [intOf]; omega
            · have hDn := HDX.out
              rw [if_neg hxz] at hDn
              have HDn := Aside0.mk hDn
              have hxz' : (x != 0) = true := bne_iff_ne.2 hxz
              obtain ⟨z0, z1, z2, z3, z4, z5, z6⟩ := hZ.out.cells7
              have hfr := hZ.out.free
              clear hDn HDX hxz
              go_wp2_with fail
              refine bodyPost_ret (res_ct rfl _ _ (w.heap.size + 1) c0 rfl (put7_blk hZ.out c0)) rfl ?_
              rw [HDn.out]
              exact DP_none (put7_below hB.out (Nat.le_succ _) c0)
        · have hi5 : i = 5 := by omega
          subst hi5
          have hDn : D = some d := by
            rw [hD.out]
            show go (L.drop 5) [] d = some d
            cases L.drop 5 <;> rfl
          have HDn := Aside0.mk hDn
          obtain ⟨q0, q1, q2, q3, q4, q5, q6⟩ := hC.out.cells7
          obtain ⟨z0, z1, z2, z3, z4, z5, z6⟩ := hZ.out.cells7
          have hfr := hZ.out.free
          clear hDn hD
          go_wp2_with fail
          refine bodyPost_ret (res_ct rfl _ _ (w.heap.size + 1) d rfl (put7_blk hZ.out d)) rfl ?_
          rw [HDn.out]
          exact DP_some (put7_below hB.out (Nat.le_succ _) d)
end Go.Proofs.Ytklnenaiolclaaa.H
