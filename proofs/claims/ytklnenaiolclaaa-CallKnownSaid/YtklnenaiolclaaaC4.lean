/- Contract of the reference's Decode: the same as call.Decode's. -/
import Derived.Test.YtklnenaiolclaaaC3
import Derived.RegionTactic
import Derived.Deep.RegionWith
import Derived.IntWalk
namespace Go.Proofs.Ytklnenaiolclaaa.H
open Go.RowKit Go.Proofs.YtklnenaiolclaaaW.PrintWords Go.Proofs.YtklnenaiolclaaaW.PrintLast Go.Proofs.YtklnenaiolclaaaW.PrintMore
set_option linter.unusedVariables false
set_option linter.unusedSimpArgs false
set_option maxHeartbeats 8000000
set_option maxRecDepth 100000
def letter (f : Int) : Int := if f = 0 then 112 else if f = 1 then 103 else if f = 2 then 110 else if f = 3 then 109 else if f = 4 then 97 else 118
def str (L : List Int) : ByteArray := ⟨(L.map fun f => UInt8.ofNat (letter f).toNat).toArray⟩
theorem str_size (L : List Int) : (str L).size = L.length := by simp [str, ByteArray.size]
theorem str_at (L : List Int) (hL : ∀ f ∈ L, 0 ≤ f ∧ f ≤ 5) (j : Nat) (hj : j < L.length) : ∀ h : j < (str L).size, (((str L)[j]'h).toNat : Int) = letter (rd L (j : Int)) := by
  intro h
  have e : rd L (j : Int) = L[j] := by simp [rd, List.getD, hj]
  have h1 : ((str L)[j]'h) = UInt8.ofNat (letter L[j]).toNat := by
    show ((str L).data[j]'_) = _
    simp [str]
  rw [h1, e]
  obtain ⟨f0, f5⟩ := hL L[j] (List.getElem_mem hj)
  have hc : L[j] = 0 ∨ L[j] = 1 ∨ L[j] = 2 ∨ L[j] = 3 ∨ L[j] = 4 ∨ L[j] = 5 := by omega
  rcases hc with h | h | h | h | h | h <;> rw [h] <;> rfl
theorem nms_yes {k : Int} {L : List Int} (h : fds k = some L) : cofferdamref25_Names.f 5 k = some (str L, true) := by
  unfold fds at h
  have hc : k = 1 ∨ k = 2 ∨ k = 3 ∨ k = 10 ∨ k = 4 ∨ k = 6 ∨ k = 5 ∨ k = 7 ∨ k = 8 ∨ k = 9 ∨ (k ≠ 1 ∧ k ≠ 2 ∧ k ≠ 3 ∧ k ≠ 10 ∧ k ≠ 4 ∧ k ≠ 6 ∧ k ≠ 5 ∧ k ≠ 7 ∧ k ≠ 8 ∧ k ≠ 9) := by omega
  rcases hc with rfl | rfl | rfl | rfl | rfl | rfl | rfl | rfl | rfl | rfl | h1
  all_goals try (simp at h; subst h; rfl)
  · simp [h1] at h
theorem nms_no {k : Int} (h : fds k = none) : cofferdamref25_Names.f 5 k = some (⟨#[]⟩, false) := by
  unfold fds at h
  have hc : k = 1 ∨ k = 2 ∨ k = 3 ∨ k = 10 ∨ k = 4 ∨ k = 6 ∨ k = 5 ∨ k = 7 ∨ k = 8 ∨ k = 9 ∨ (k ≠ 1 ∧ k ≠ 2 ∧ k ≠ 3 ∧ k ≠ 10 ∧ k ≠ 4 ∧ k ≠ 6 ∧ k ≠ 5 ∧ k ≠ 7 ∧ k ≠ 8 ∧ k ≠ 9) := by omega
  rcases hc with rfl | rfl | rfl | rfl | rfl | rfl | rfl | rfl | rfl | rfl | h1
  all_goals try (simp at h; done)
  · simp [cofferdamref25_Names.f, cofferdamref25_Names.j0, cofferdamref25_Names.j1, h1]
theorem with_yes {c d : C7} {f x : Int} (hf : 0 ≤ f ∧ f ≤ 5) (hx : 0 ≤ x) (h : setF c f x = some d) : cofferdamref25_with.f c.k c.p c.g c.n c.m c.a c.v (letter f) x = some (d.k, d.p, d.g, d.n, d.m, d.a, d.v, true) := by
  unfold setF at h
  have hc : f = 0 ∨ f = 1 ∨ f = 2 ∨ f = 3 ∨ f = 4 ∨ f = 5 := by omega
  have hw : x ≤ 2147483647 → wrap64 (Int.tmod x 2147483648) = x := fun h => by rw [Int.tmod_eq_emod_of_nonneg hx]; unfold wrap64; omega
  have hm : x ≤ 255 → (Int.tmod x 256) % 256 = x := fun h => by rw [Int.tmod_eq_emod_of_nonneg hx]; omega
  unfold cofferdamref25_with.f letter
  rcases hc with rfl | rfl | rfl | rfl | rfl | rfl
  all_goals simp at h ⊢
  · obtain ⟨h1, rfl⟩ := h
    exact ⟨rfl, hw h1, rfl, rfl, rfl, rfl, rfl, h1⟩
  · obtain ⟨h1, rfl⟩ := h
    exact ⟨rfl, rfl, hw h1, rfl, rfl, rfl, rfl, h1⟩
  · obtain ⟨h1, rfl⟩ := h
    exact ⟨rfl, rfl, rfl, hw h1, rfl, rfl, rfl, h1⟩
  · obtain ⟨h1, rfl⟩ := h
    exact ⟨rfl, rfl, rfl, rfl, hm h1, rfl, rfl, by omega⟩
  · subst h; simp
  · subst h; simp
theorem with_no {c : C7} {f x : Int} (hf : 0 ≤ f ∧ f ≤ 5) (hx : 0 ≤ x) (h : setF c f x = none) : ∃ d : C7, cofferdamref25_with.f c.k c.p c.g c.n c.m c.a c.v (letter f) x = some (d.k, d.p, d.g, d.n, d.m, d.a, d.v, false) := by
  unfold setF at h
  have hc : f = 0 ∨ f = 1 ∨ f = 2 ∨ f = 3 ∨ f = 4 ∨ f = 5 := by omega
  unfold cofferdamref25_with.f letter
  rcases hc with rfl | rfl | rfl | rfl | rfl | rfl
  all_goals simp at h
  · exact ⟨⟨c.k, wrap64 (Int.tmod x 2147483648), c.g, c.n, c.m, c.a, c.v⟩, by simp; omega⟩
  · exact ⟨⟨c.k, c.p, wrap64 (Int.tmod x 2147483648), c.n, c.m, c.a, c.v⟩, by simp; omega⟩
  · exact ⟨⟨c.k, c.p, c.g, wrap64 (Int.tmod x 2147483648), c.m, c.a, c.v⟩, by simp; omega⟩
  · exact ⟨⟨c.k, c.p, c.g, c.n, (Int.tmod x 256) % 256, c.a, c.v⟩, by simp; omega⟩
theorem put7_far {w : World} {g b : Nat} {t : TypeId} {cs : Array Value} (h : Bl w b t cs) (hne : b ≠ g) (c : C7) : Bl (put7 w g c) b t cs :=
  ((((((h.far (p := ⟨g, 0, none⟩) hne _).far (p := ⟨g, 1, none⟩) hne _).far (p := ⟨g, 2, none⟩) hne _).far (p := ⟨g, 3, none⟩) hne _).far (p := ⟨g, 4, none⟩) hne _).far (p := ⟨g, 5, none⟩) hne _).far (p := ⟨g, 6, none⟩) hne _
theorem rdecode_any (x0 x1 x2 x3 x4 x5 : Int) (w : World) (h0 : 0 ≤ x0) (h1 : 0 ≤ x1) (h2 : 0 ≤ x2) (h3 : 0 ≤ x3) (h4 : 0 ≤ x4) (h5 : 0 ≤ x5) :
    Calls Try.prog 10 #[.agg (raw x0 x1 x2 x3 x4 x5)] w (DP (dec x0 x1 x2 x3 x4 x5) w) := by
  have hz : Bl ((w.alloc (.cells (raw x0 x1 x2 x3 x4 x5) 24)).alloc (.cells c0.cells 26)) (w.heap.size + 1) 26 c0.cells := by have := heap_alloc_new (w.alloc (.cells (raw x0 x1 x2 x3 x4 x5) 24)) (.cells c0.cells 26); simpa [Bl] using this
  have HZ := Aside0.mk hz
  clear hz
  have HB0 := Aside0.mk (below_alloc (below_alloc (Below.refl w.heap.size w) (.cells (raw x0 x1 x2 x3 x4 x5) 24)) (.cells c0.cells 26))
  by_cases hb : 255 < x0
  · have hd : dec x0 x1 x2 x3 x4 x5 = none := if_pos hb
    rw [hd]
    unfold raw
    go_enter Try.func10, Try.ntmps10
    go_wp2_with fail
    refine bodyPost_ret (res_ct rfl _ _ (w.heap.size + 1) c0 rfl HZ.out) rfl ?_
    exact DP_none HB0.out
  · have hm : x0 % 256 = x0 := by omega
    have Hd : Aside0 (dec x0 x1 x2 x3 x4 x5 = match fds x0 with | none => none | some L => go L [x1, x2, x3, x4, x5] (ck x0)) := ⟨if_neg hb⟩
    have hb' : x0 ≤ 255 := by omega
    have HR : Aside0 (Bl ((w.alloc (.cells (raw x0 x1 x2 x3 x4 x5) 24)).alloc (.cells c0.cells 26)) w.heap.size 24 (raw x0 x1 x2 x3 x4 x5)) := ⟨(Bl.later (w := w.alloc (.cells (raw x0 x1 x2 x3 x4 x5) 24)) (heap_alloc_new w _) (below_alloc (Below.refl _ _) _))⟩
    clear hb
    cases hL : fds x0 with
    | none =>
      have hd : dec x0 x1 x2 x3 x4 x5 = none := by rw [Hd.out, hL]
      rw [hd]
      have HN := Aside0.mk (nms_no hL)
      clear hd hL Hd
      unfold raw at HB0 HZ HR ⊢
      go_enter Try.func10, Try.ntmps10
      go_wp2_with fail
      refine (cofferdamref25_Names.calls 5 x0 ⟨#[]⟩ false _ HN.out).mono ?_
      rintro e w1 ⟨rfl, hd⟩
      have HB2 := Aside0.mk (below_step HB0.out hd.below)
      have HZ2 := Aside0.mk (HZ.out.later hd.below)
      obtain ⟨z0, z1, z2, z3, z4, z5, z6⟩ := HZ2.out.cells7
      have hf := HZ2.out.free
      clear hd HB0 HZ HR HN
      go_wp2_with fail
      refine bodyPost_ret (res_ct rfl _ _ (w.heap.size + 1) c0 rfl (put7_blk HZ2.out c0)) rfl ?_
      exact DP_none (put7_below HB2.out (Nat.le_succ _) c0)
    | some L =>
      obtain ⟨_, hl4, hfs⟩ := fds_yes hL
      have HN := Aside0.mk (nms_yes hL)
      have HD : Aside0 (dec x0 x1 x2 x3 x4 x5 = go L [x1, x2, x3, x4, x5] (ck x0)) := ⟨by rw [Hd.out, hL]⟩
      have HFS := Aside0.mk hfs
      have hss := str_size L
      have HSZ := Aside0.mk hss
      clear hL Hd hfs hss
      generalize hres : dec x0 x1 x2 x3 x4 x5 = D at HD
      clear hres
      have HSAT := Aside0.mk (str_at L HFS.out)
      generalize str L = S at HN HSZ HSAT
      unfold raw at HB0 HZ HR ⊢
      go_enter Try.func10, Try.ntmps10
      go_wp2_with fail
      refine (cofferdamref25_Names.calls 5 x0 S true _ HN.out).mono ?_
      rintro e w1 ⟨rfl, hd⟩
      have HB1 := Aside0.mk (below_step HB0.out hd.below)
      have HZ1 := Aside0.mk (HZ.out.later hd.below)
      have HR1 := Aside0.mk (HR.out.later hd.below)
      obtain ⟨r0, _⟩ : w1.cell? ⟨w.heap.size, 0, none⟩ = some (.int .u64 x0) ∧ True := ⟨blk_cell HR1.out 0, trivial⟩
      have hgw : w.heap.size ≤ w1.heap.size := HB1.out.size
      have hgz : w.heap.size + 1 < w1.heap.size := by have := blk_lt HZ1.out; omega
      have HC : Aside0 (Bl (w1.alloc (.cells (ck x0).cells 26)) w1.heap.size 26 (ck x0).cells) := ⟨heap_alloc_new w1 _⟩
      have HB2 := Aside0.mk (below_alloc HB1.out (.cells (ck x0).cells 26))
      have HZ2 := Aside0.mk (HZ1.out.later (below_alloc (Below.refl _ _) (.cells (ck x0).cells 26)))
      have HR2 := Aside0.mk (HR1.out.later (below_alloc (Below.refl _ _) (.cells (ck x0).cells 26)))
      clear hd HB0 HZ HR HN HB1 HZ1 HR1
      go_wp2_with fail
      generalize w1.heap.size = gc at HC hgw hgz ⊢
      go_loopw [7] (fun v7 wr => ∃ (i : Nat) (d : C7), i ≤ 5 ∧ v7 = .int .i64 ((i : Int) + 1) ∧ Aside0 (D = go (L.drop i) ((ws x1 x2 x3 x4 x5).drop i) d) ∧ Aside0 (Bl wr gc 26 d.cells) ∧ Aside0 (Bl wr (w.heap.size + 1) 26 c0.cells) ∧ Aside0 (Bl wr w.heap.size 24 #[.int .u64 x0, .int .u64 x1, .int .u64 x2, .int .u64 x3, .int .u64 x4, .int .u64 x5]) ∧ Aside0 (Below w.heap.size w wr)) (fun v7 _ => 6 - (intOf v7).toNat)
      case atStart => exact ⟨0, ck x0, by omega, rfl, ⟨HD.out⟩, HC, HZ2, HR2, HB2⟩
      case round =>
        obtain ⟨i, d, hi, rfl, hD, hC, hZ, hR, hB⟩ := hrel
        clear HC HZ2 HR2 HB2 HD r0
        have hsz : (S.size : Int) = (L.length : Int) := by have := HSZ.out; omega
        have HSI := Aside0.mk hsz
        by_cases hlt : i < 5
        · have hxc := ws_cell hR.out hlt
          have hx0 := ws_lo h1 h2 h3 h4 h5 (x1 := x1) (x2 := x2) (x3 := x3) (x4 := x4) (x5 := x5) hlt
          have hDw := hD.out
          rw [ws_drop hlt] at hDw
          have HDW := Aside0.mk hDw
          clear hDw hD
          generalize rd (ws x1 x2 x3 x4 x5) (i : Int) = x at hxc hx0 HDW
          by_cases hiL : i < L.length
          · have hff := HFS.out _ (L_mem hiL)
            have hDw := HDW.out
            rw [L_drop hiL] at hDw
            simp only [go] at hDw
            have HDX := Aside0.mk hDw
            have hbt := HSAT.out i hiL
            have hiS : i < S.size := by have := HSZ.out; omega
            clear hDw HDW hsz
            generalize rd L (i : Int) = f at hff HDX hbt
            obtain ⟨f0, f5⟩ := hff
            obtain ⟨q0, q1, q2, q3, q4, q5, q6⟩ := hC.out.cells7
            rw [Nat.add_comm] at hxc
            have b0 : (0 : Int) ≤ (i : Int) := by omega
            have b1 : (i : Int) < (S.size : Int) := by omega
            have b2 : (0 : Int) ≤ (i : Int) + 1 := by omega
            have b3 : (i : Int) + 1 < 6 := by omega
            have b6 : ((i : Int) + 1).toNat = i + 1 := by omega
            have b5 : IntKind.i64.wrap (i : Int) = (i : Int) := IntWalk.i64_in _ (by omega)
            have b4 : IntKind.i64.wrap ((i : Int) + 1 - 1) = (i : Int) := by rw [show ((i : Int) + 1 - 1) = (i : Int) by omega]; exact b5
            cases hs : setF d f x with
            | some d' =>
              have hDn := HDX.out
              rw [hs] at hDn
              have HDn := Aside0.mk hDn
              have HS := Aside0.mk (with_yes ⟨f0, f5⟩ hx0 hs)
              clear hDn HDX hs
              go_wp2_with fail
              go_region_held3 (fun w' => w'.cell? ⟨gc, 0, none⟩ = some (.int .u8 d.k) ∧ w'.cell? ⟨gc, 1, none⟩ = some (.int .i64 d.p) ∧ w'.cell? ⟨gc, 2, none⟩ = some (.int .i64 d.g) ∧ w'.cell? ⟨gc, 3, none⟩ = some (.int .i64 d.n) ∧ w'.cell? ⟨gc, 4, none⟩ = some (.int .u8 d.m) ∧ w'.cell? ⟨gc, 5, none⟩ = some (.int .u64 d.a) ∧ w'.cell? ⟨gc, 6, none⟩ = some (.int .u64 d.v) ∧ w'.cell? ⟨w.heap.size, i + 1, none⟩ = some (.int .u64 x) ∧ Below wr.heap.size wr w')
                (exact ⟨pw_cell_below (by (repeat (with_reducible first | exact Below.refl _ _ | exact hB5 | apply below_alloc | apply pw_below_drewN | apply below_drew | refine below_set ?_ (Nat.le_refl _) | refine below_set ?_ hB5.size))) q0, pw_cell_below (by (repeat (with_reducible first | exact Below.refl _ _ | exact hB5 | apply below_alloc | apply pw_below_drewN | apply below_drew | refine below_set ?_ (Nat.le_refl _) | refine below_set ?_ hB5.size))) q1, pw_cell_below (by (repeat (with_reducible first | exact Below.refl _ _ | exact hB5 | apply below_alloc | apply pw_below_drewN | apply below_drew | refine below_set ?_ (Nat.le_refl _) | refine below_set ?_ hB5.size))) q2, pw_cell_below (by (repeat (with_reducible first | exact Below.refl _ _ | exact hB5 | apply below_alloc | apply pw_below_drewN | apply below_drew | refine below_set ?_ (Nat.le_refl _) | refine below_set ?_ hB5.size))) q3, pw_cell_below (by (repeat (with_reducible first | exact Below.refl _ _ | exact hB5 | apply below_alloc | apply pw_below_drewN | apply below_drew | refine below_set ?_ (Nat.le_refl _) | refine below_set ?_ hB5.size))) q4, pw_cell_below (by (repeat (with_reducible first | exact Below.refl _ _ | exact hB5 | apply below_alloc | apply pw_below_drewN | apply below_drew | refine below_set ?_ (Nat.le_refl _) | refine below_set ?_ hB5.size))) q5, pw_cell_below (by (repeat (with_reducible first | exact Below.refl _ _ | exact hB5 | apply below_alloc | apply pw_below_drewN | apply below_drew | refine below_set ?_ (Nat.le_refl _) | refine below_set ?_ hB5.size))) q6, pw_cell_below (by (repeat (with_reducible first | exact Below.refl _ _ | exact hB5 | apply below_alloc | apply pw_below_drewN | apply below_drew | refine below_set ?_ (Nat.le_refl _) | refine below_set ?_ hB5.size))) hxc, by (repeat (with_reducible first | exact Below.refl _ _ | exact hB5 | apply below_alloc | apply pw_below_drewN | apply below_drew | refine below_set ?_ (Nat.le_refl _) | refine below_set ?_ hB5.size))⟩)
                (first
                  | (go_at_call 23; refine (cofferdamref25_with.calls d.k d.p d.g d.n d.m d.a d.v (letter f) x d'.k d'.p d'.g d'.n d'.m d'.a d'.v true _ HS.out).mono ?_; rintro e w5 ⟨rfl, hb5⟩; have hB5 := below_step (w := wr) (by (repeat (with_reducible first | exact Below.refl _ _ | exact hB5 | apply below_alloc | apply pw_below_drewN | apply below_drew | refine below_set ?_ (Nat.le_refl _) | refine below_set ?_ hB5.size))) hb5; (try (have hn : Bl w5 wr.heap.size 26 c0.cells := (hb5.block wr.heap.size (by simp)).trans (heap_alloc_new wr (.cells c0.cells 26)); obtain ⟨n0, n1, n2, n3, n4, n5, n6⟩ := hn.cells7; have nf := hn.free))))
              all_goals
                have hlt8 : gc < wr.heap.size := blk_lt hC.out
                first
                  | (obtain ⟨w8, hW⟩ : ∃ w8, w8 = w5.alloc (.cells d'.cells 26) := ⟨_, rfl⟩
                     have HG8 : Aside0 (Bl w8 w5.heap.size 26 d'.cells) := ⟨by rw [hW]; exact heap_alloc_new _ _⟩
                     have HB8 : Aside0 (Below wr.heap.size wr w8) := ⟨by rw [hW]; exact below_alloc hB5 _⟩
                     have hg8 : wr.heap.size ≤ w5.heap.size := hB5.size
                     simp only [C7.cells] at hW
                     rw [← hW]
                     clear hW
                     generalize w5.heap.size = g8 at HG8 hg8 ⊢)
                  | (obtain ⟨w8, hW⟩ : ∃ w8, w8 = put7 w5 wr.heap.size d' := ⟨_, rfl⟩
                     have HG8 : Aside0 (Bl w8 wr.heap.size 26 d'.cells) := ⟨by rw [hW]; exact put7_blk hn d'⟩
                     have HB8 : Aside0 (Below wr.heap.size wr w8) := ⟨by rw [hW]; exact put7_below hB5 (Nat.le_refl _) d'⟩
                     simp only [put7] at hW
                     rw [← hW]
                     clear hW
                     obtain ⟨g8, hge⟩ : ∃ g8, g8 = wr.heap.size := ⟨_, rfl⟩
                     have hg8 : wr.heap.size ≤ g8 := by omega
                     rw [← hge] at HG8 ⊢
                     clear hge)
                have HC8 := Aside0.mk (hC.out.later HB8.out)
                have HZ8 := Aside0.mk (hZ.out.later HB8.out)
                have HR8 := Aside0.mk (hR.out.later HB8.out)
                have HBW := Aside0.mk (below_step hB.out HB8.out)
                obtain ⟨p0, p1, p2, p3, p4, p5, p6⟩ := HG8.out.cells7
                clear hC hZ hR hB hB5 HB8 q0 q1 q2 q3 q4 q5 q6 hxc hb5
                (try clear hn n0 n1 n2 n3 n4 n5 n6 nf)
                clear b1 b4 b5 b6 hbt
                obtain ⟨q0, q1, q2, q3, q4, q5, q6⟩ := HC8.out.cells7
                have hfr := HC8.out.free
                go_wp2_with fail
                have HC9 := Aside0.mk (put7_blk HC8.out d')
                have HZ9 := Aside0.mk (put7_far HZ8.out (show w.heap.size + 1 ≠ gc by omega) d')
                have HR9 := Aside0.mk (put7_far HR8.out (show w.heap.size ≠ gc by omega) d')
                have HB9 := Aside0.mk (put7_below HBW.out hgw d')
                clear HC8 HZ8 HR8 HBW HG8 q0 q1 q2 q3 q4 q5 q6 p0 p1 p2 p3 p4 p5 p6 hfr
                go_roundw
                case rel => exact ⟨i + 1, d', by omega, by go_num, HDn, HC9, HZ9, HR9, HB9⟩
                case measure => simp [intOf]; omega
            | none =>
              have hDn := HDX.out
              rw [hs] at hDn
              obtain ⟨dd, hset⟩ := with_no ⟨f0, f5⟩ hx0 hs
              have HDn := Aside0.mk hDn
              have HS := Aside0.mk hset
              clear hDn HDX hs hset
              go_wp2_with fail
              go_region_held3 (fun w' => w'.cell? ⟨gc, 0, none⟩ = some (.int .u8 d.k) ∧ w'.cell? ⟨gc, 1, none⟩ = some (.int .i64 d.p) ∧ w'.cell? ⟨gc, 2, none⟩ = some (.int .i64 d.g) ∧ w'.cell? ⟨gc, 3, none⟩ = some (.int .i64 d.n) ∧ w'.cell? ⟨gc, 4, none⟩ = some (.int .u8 d.m) ∧ w'.cell? ⟨gc, 5, none⟩ = some (.int .u64 d.a) ∧ w'.cell? ⟨gc, 6, none⟩ = some (.int .u64 d.v) ∧ w'.cell? ⟨w.heap.size, i + 1, none⟩ = some (.int .u64 x) ∧ Below wr.heap.size wr w')
                (exact ⟨pw_cell_below (by (repeat (with_reducible first | exact Below.refl _ _ | exact hB5 | apply below_alloc | apply pw_below_drewN | apply below_drew | refine below_set ?_ (Nat.le_refl _) | refine below_set ?_ hB5.size))) q0, pw_cell_below (by (repeat (with_reducible first | exact Below.refl _ _ | exact hB5 | apply below_alloc | apply pw_below_drewN | apply below_drew | refine below_set ?_ (Nat.le_refl _) | refine below_set ?_ hB5.size))) q1, pw_cell_below (by (repeat (with_reducible first | exact Below.refl _ _ | exact hB5 | apply below_alloc | apply pw_below_drewN | apply below_drew | refine below_set ?_ (Nat.le_refl _) | refine below_set ?_ hB5.size))) q2, pw_cell_below (by (repeat (with_reducible first | exact Below.refl _ _ | exact hB5 | apply below_alloc | apply pw_below_drewN | apply below_drew | refine below_set ?_ (Nat.le_refl _) | refine below_set ?_ hB5.size))) q3, pw_cell_below (by (repeat (with_reducible first | exact Below.refl _ _ | exact hB5 | apply below_alloc | apply pw_below_drewN | apply below_drew | refine below_set ?_ (Nat.le_refl _) | refine below_set ?_ hB5.size))) q4, pw_cell_below (by (repeat (with_reducible first | exact Below.refl _ _ | exact hB5 | apply below_alloc | apply pw_below_drewN | apply below_drew | refine below_set ?_ (Nat.le_refl _) | refine below_set ?_ hB5.size))) q5, pw_cell_below (by (repeat (with_reducible first | exact Below.refl _ _ | exact hB5 | apply below_alloc | apply pw_below_drewN | apply below_drew | refine below_set ?_ (Nat.le_refl _) | refine below_set ?_ hB5.size))) q6, pw_cell_below (by (repeat (with_reducible first | exact Below.refl _ _ | exact hB5 | apply below_alloc | apply pw_below_drewN | apply below_drew | refine below_set ?_ (Nat.le_refl _) | refine below_set ?_ hB5.size))) hxc, by (repeat (with_reducible first | exact Below.refl _ _ | exact hB5 | apply below_alloc | apply pw_below_drewN | apply below_drew | refine below_set ?_ (Nat.le_refl _) | refine below_set ?_ hB5.size))⟩)
                (first
                  | (go_at_call 23; refine (cofferdamref25_with.calls d.k d.p d.g d.n d.m d.a d.v (letter f) x dd.k dd.p dd.g dd.n dd.m dd.a dd.v false _ HS.out).mono ?_; rintro e w5 ⟨rfl, hb5⟩; have hB5 := below_step (w := wr) (by (repeat (with_reducible first | exact Below.refl _ _ | exact hB5 | apply below_alloc | apply pw_below_drewN | apply below_drew | refine below_set ?_ (Nat.le_refl _) | refine below_set ?_ hB5.size))) hb5; (try (have hn : Bl w5 wr.heap.size 26 c0.cells := (hb5.block wr.heap.size (by simp)).trans (heap_alloc_new wr (.cells c0.cells 26)); obtain ⟨n0, n1, n2, n3, n4, n5, n6⟩ := hn.cells7; have nf := hn.free))))
              all_goals
                have hlt8 : gc < wr.heap.size := blk_lt hC.out
                first
                  | (obtain ⟨w8, hW⟩ : ∃ w8, w8 = w5.alloc (.cells dd.cells 26) := ⟨_, rfl⟩
                     have HG8 : Aside0 (Bl w8 w5.heap.size 26 dd.cells) := ⟨by rw [hW]; exact heap_alloc_new _ _⟩
                     have HB8 : Aside0 (Below wr.heap.size wr w8) := ⟨by rw [hW]; exact below_alloc hB5 _⟩
                     have hg8 : wr.heap.size ≤ w5.heap.size := hB5.size
                     simp only [C7.cells] at hW
                     rw [← hW]
                     clear hW
                     generalize w5.heap.size = g8 at HG8 hg8 ⊢)
                  | (obtain ⟨w8, hW⟩ : ∃ w8, w8 = put7 w5 wr.heap.size dd := ⟨_, rfl⟩
                     have HG8 : Aside0 (Bl w8 wr.heap.size 26 dd.cells) := ⟨by rw [hW]; exact put7_blk hn dd⟩
                     have HB8 : Aside0 (Below wr.heap.size wr w8) := ⟨by rw [hW]; exact put7_below hB5 (Nat.le_refl _) dd⟩
                     simp only [put7] at hW
                     rw [← hW]
                     clear hW
                     obtain ⟨g8, hge⟩ : ∃ g8, g8 = wr.heap.size := ⟨_, rfl⟩
                     have hg8 : wr.heap.size ≤ g8 := by omega
                     rw [← hge] at HG8 ⊢
                     clear hge)
                have HC8 := Aside0.mk (hC.out.later HB8.out)
                have HZ8 := Aside0.mk (hZ.out.later HB8.out)
                have HR8 := Aside0.mk (hR.out.later HB8.out)
                have HBW := Aside0.mk (below_step hB.out HB8.out)
                obtain ⟨p0, p1, p2, p3, p4, p5, p6⟩ := HG8.out.cells7
                clear hC hZ hR hB hB5 HB8 q0 q1 q2 q3 q4 q5 q6 hxc hb5
                (try clear hn n0 n1 n2 n3 n4 n5 n6 nf)
                clear b1 b4 b5 b6 hbt
                obtain ⟨z0, z1, z2, z3, z4, z5, z6⟩ := HZ8.out.cells7
                have hfr := HZ8.out.free
                go_wp2_with fail
                refine bodyPost_ret (res_ct rfl _ _ (w.heap.size + 1) c0 rfl (put7_blk HZ8.out c0)) rfl ?_
                rw [HDn.out]
                exact DP_none (put7_below HBW.out (Nat.le_succ _) c0)
          · have hLn : L.drop i = [] := List.drop_eq_nil_of_le (by omega)
            have hLn1 : L.drop (i + 1) = [] := List.drop_eq_nil_of_le (by omega)
            have hDw := HDW.out
            rw [hLn] at hDw
            simp only [go] at hDw
            have HDX := Aside0.mk hDw
            have HL1 := Aside0.mk hLn1
            have hgt : (S.size : Int) < (i : Int) + 1 := by omega
            rw [Nat.add_comm] at hxc
            clear hDw HDW hLn hLn1 hsz
            by_cases hxz : x = 0
            · have hDn := HDX.out
              rw [if_pos hxz] at hDn
              have HDn := Aside0.mk hDn
              have hxz' : (x != 0) = false := bne_eq_false_iff_eq.2 hxz
              clear hDn HDX hxz
              go_wp2_with fail
              go_roundw
              case rel => exact ⟨i + 1, d, by omega, by go_num, ⟨by rw [HL1.out]; exact HDn.out⟩, hC, hZ, hR, hB⟩
              case measure => simp [intOf]; omega
            · have hDn := HDX.out
              rw [if_neg hxz] at hDn
              have HDn := Aside0.mk hDn
              have hxz' : (x != 0) = true := bne_iff_ne.2 hxz
              obtain ⟨z0, z1, z2, z3, z4, z5, z6⟩ := hZ.out.cells7
              have hfr := hZ.out.free
              clear hDn HDX hxz
              go_wp2_with fail
              refine bodyPost_ret (res_ct rfl _ _ (w.heap.size + 1) c0 rfl (put7_blk hZ.out c0)) rfl ?_
              rw [HDn.out]
              exact DP_none (put7_below hB.out (Nat.le_succ _) c0)
        · have hi5 : i = 5 := by omega
          subst hi5
          have hDn : D = some d := by
            rw [hD.out]
            show go (L.drop 5) [] d = some d
            cases L.drop 5 <;> rfl
          have HDn := Aside0.mk hDn
          obtain ⟨q0, q1, q2, q3, q4, q5, q6⟩ := hC.out.cells7
          obtain ⟨z0, z1, z2, z3, z4, z5, z6⟩ := hZ.out.cells7
          have hfr := hZ.out.free
          clear hDn hD hsz
          go_wp2_with fail
          refine bodyPost_ret (res_ct rfl _ _ (w.heap.size + 1) d rfl (put7_blk hZ.out d)) rfl ?_
          rw [HDn.out]
          exact DP_some (put7_below hB.out (Nat.le_succ _) d)
end Go.Proofs.Ytklnenaiolclaaa.H
