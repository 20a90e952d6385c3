/- Plain law: a set's tags are the last ones touched; what kept tells. -/
import Derived.Test.YtcneepffhplpiaaC3
namespace Go.Proofs.Ytcneepffhplpiaa.H
open Go.RowKit Go.Proofs.YtcneepffhplpiaaW.PrintWords Go.Proofs.YtcneepffhplpiaaW.PrintLast Go.Proofs.YtcneepffhplpiaaW.PrintMore
set_option linter.unusedVariables false
set_option linter.unusedSimpArgs false
set_option maxHeartbeats 4000000
theorem with_l0 (l : List Int) (x : Int) (hl : l.length ≤ 17) (e : Nat) : ∀ (m i : Nat), i + m = l.length → cofferdamlaw03_with.l0 (m + 1 + e) l x (i : Int) = some (if x ∈ l.drop i then l else l ++ [x])
  | 0, i, h => by
    have hi : i = l.length := by omega
    subst hi
    rw [show 0 + 1 + e = e + 1 by omega]
    unfold cofferdamlaw03_with.l0
    rw [if_neg (by omega)]
    have h1 : ([] : List Int).length + l.length < 17592186044416 := by simp; omega
    rw [if_pos h1]
    simp
    omega
  | m + 1, i, h => by
    have hi : i < l.length := by omega
    have ih := with_l0 l x hl e m (i + 1) (by omega)
    rw [show m + 1 + 1 + e = (m + 1 + e) + 1 by omega]
    unfold cofferdamlaw03_with.l0
    have hw : wrap64 ((i : Int) + 1) = ((i + 1 : Nat) : Int) := by unfold wrap64; omega
    have hm : x ∈ l.drop i ↔ (x = l[i] ∨ x ∈ l.drop (i + 1)) := by rw [List.drop_eq_getElem_cons hi]; exact List.mem_cons
    rw [if_pos (by omega), if_pos (by omega), rd_get hi, hw, ih]
    by_cases hx : l[i] = x
    · rw [if_pos hx, if_pos (hm.2 (.inl hx.symm))]
    · rw [if_neg hx]
      by_cases hd : x ∈ l.drop (i + 1)
      · rw [if_pos hd, if_pos (hm.2 (.inr hd))]
      · rw [if_neg hd, if_neg (fun h => (hm.1 h).elim (fun e => hx e.symm) hd)]
def addOnce (l : List Int) (x : Int) : List Int := if x ∈ l then l else l ++ [x]
theorem with_is (l : List Int) (x : Int) (hl : l.length ≤ 17) (k : Nat) (hk : l.length + 1 ≤ k) : cofferdamlaw03_with.f k l x = some (addOnce l x) := by
  obtain ⟨e, rfl⟩ : ∃ e, k = l.length + 1 + e := ⟨k - (l.length + 1), by omega⟩
  have := with_l0 l x hl e l.length 0 (by omega)
  simpa [cofferdamlaw03_with.f, addOnce] using this
/-- Going back over touches (the last one first). -/
def back (s t : Int) (w : Nat) : List (Int × Int) → List Int → Bool
  | [], _ => false
  | (a, x) :: h, o => if a = s then (if x = t then true else if w ≤ (addOnce o x).length then false else back s t w h (addOnce o x)) else back s t w h o
theorem kept_l0 (H : List (Int × Int)) (s t : Int) (w : Nat) (hw : w ≤ 16) (hH : H.length ≤ 200) : ∀ (r : Nat) (o : List Int), r ≤ H.length → o.length < w →
    cofferdamlaw03_kept.l0 (r + 20) (H.reverse.map Prod.fst) (H.reverse.map Prod.snd) s t (w : Int) o ((r : Int) - 1) = some (back s t w (H.drop (H.length - r)) o)
  | 0, o, _, _ => by
    rw [show H.length - 0 = H.length by omega, List.drop_length]
    unfold cofferdamlaw03_kept.l0
    simp [back]
  | r + 1, o, hr, ho => by
    have hd : H.drop (H.length - (r + 1)) = H[H.length - (r + 1)] :: H.drop (H.length - r) := by
      rw [List.drop_eq_getElem_cons (by omega)]
      congr 2
      omega
    have hx : ∀ o' : List Int, o'.length < w → cofferdamlaw03_kept.l0 (r + 20) (H.reverse.map Prod.fst) (H.reverse.map Prod.snd) s t (w : Int) o' (r - 1 : Int) = some (back s t w (H.drop (H.length - r)) o') := fun o' h => kept_l0 H s t w hw hH r o' (by omega) h
    rw [hd]
    have hi : (((r + 1 : Nat) : Int) - 1) = (r : Int) := by omega
    have hl1 : (H.reverse.map Prod.fst).length = H.length := by simp
    have hl2 : (H.reverse.map Prod.snd).length = H.length := by simp
    have g1 : rd (H.reverse.map Prod.fst) (r : Int) = (H[H.length - (r + 1)]).1 := by
      rw [rd_get (by omega)]
      simp
      congr 2
      omega
    have g2 : rd (H.reverse.map Prod.snd) (r : Int) = (H[H.length - (r + 1)]).2 := by
      rw [rd_get (by omega)]
      simp
      congr 2
      omega
    have hwr : wrap64 ((r : Int) - 1) = (r : Int) - 1 := by unfold wrap64; omega
    rw [show r + 1 + 20 = (r + 20) + 1 by omega]
    unfold cofferdamlaw03_kept.l0
    rw [hi, if_pos (by omega), if_pos (by omega), hl1, if_pos (by omega), g1, hwr, hl2, g2]
    generalize H[H.length - (r + 1)] = p
    obtain ⟨a, x⟩ := p
    simp only
    by_cases ha : a = s
    · rw [if_pos ha, if_pos (by omega)]
      simp only [back]
      rw [if_pos ha]
      by_cases hxt : x = t
      · rw [if_pos hxt, if_pos hxt]
      · rw [if_neg hxt, if_neg hxt, with_is o x (by omega) (r + 20) (by omega)]
        simp only [Option.bind_some]
        by_cases hlen : w ≤ (addOnce o x).length
        · rw [if_pos (by omega), if_pos hlen]
        · rw [if_neg (by omega), if_neg hlen, hx _ (by omega)]
    · rw [if_neg ha, hx o ho]
      simp only [back]
      rw [if_neg ha]
theorem kept_is (H : List (Int × Int)) (s t : Int) (w : Nat) (h1 : 1 ≤ w) (hw : w ≤ 16) (hH : H.length ≤ 200) :
    cofferdamlaw03_kept.f (H.length + 20) (H.reverse.map Prod.fst) (H.reverse.map Prod.snd) s t (w : Int) = some (back s t w H []) := by
  have := kept_l0 H s t w hw hH H.length [] (Nat.le_refl _) (by simp; omega)
  rw [Nat.sub_self, List.drop_zero] at this
  unfold cofferdamlaw03_kept.f
  rw [← this]
  congr 1
  rw [List.length_map, List.length_reverse]
  unfold wrap64
  omega
/-- A set's touches. -/
def hist (s : Int) (H : List (Int × Int)) : List Int := (H.filter fun p => p.1 == s).map Prod.snd
/-- Each number once, the first one stays. -/
def dd : List Int → List Int
  | [] => []
  | x :: h => x :: (dd h).filter fun y => y != x
def backL (t : Int) (w : Nat) : List Int → List Int → Bool
  | [], _ => false
  | x :: h, o => if x = t then true else if w ≤ (addOnce o x).length then false else backL t w h (addOnce o x)
theorem back_hist (s t : Int) (w : Nat) : ∀ (H : List (Int × Int)) (o : List Int), back s t w H o = backL t w (hist s H) o
  | [], o => rfl
  | (a, x) :: H, o => by
    unfold back hist
    by_cases ha : a = s
    · rw [if_pos ha]
      have : (((a, x) :: H).filter fun p => p.1 == s) = (a, x) :: H.filter fun p => p.1 == s := by simp [ha]
      rw [this, List.map_cons]
      simp only [backL]
      rw [back_hist s t w H (addOnce o x)]
      rfl
    · rw [if_neg ha]
      have : (((a, x) :: H).filter fun p => p.1 == s) = H.filter fun p => p.1 == s := by simp [ha]
      rw [this]
      exact back_hist s t w H o
theorem dd_mem (x : Int) : ∀ h, x ∈ dd h ↔ x ∈ h
  | [] => by simp [dd]
  | y :: h => by
    simp only [dd, List.mem_cons, List.mem_filter, dd_mem x h]
    by_cases e : x = y <;> simp [e]
/-- What is left of a list without what others name. -/
def wo (o : List Int) (l : List Int) : List Int := l.filter fun y => decide (y ∉ o)
theorem backL_is (t : Int) (w : Nat) : ∀ (h o : List Int), t ∉ o → o.length < w → (backL t w h o = true ↔ t ∈ (wo o (dd h)).take (w - o.length))
  | [], o, _, _ => by simp [backL, dd, wo]
  | x :: h, o, ho, hl => by
    have e : w - o.length = (w - o.length - 1) + 1 := by omega
    simp only [backL]
    have hdd : dd (x :: h) = x :: (dd h).filter fun y => y != x := rfl
    rw [hdd]
    by_cases hx : x = t
    · subst hx
      rw [if_pos rfl]
      have : wo o (x :: (dd h).filter fun y => y != x) = x :: wo o ((dd h).filter fun y => y != x) := by simp [wo, ho]
      rw [this, e, List.take_succ_cons]
      simp
    · rw [if_neg hx]
      by_cases hxo : x ∈ o
      · have ha : addOnce o x = o := if_pos hxo
        rw [ha, if_neg (by omega), backL_is t w h o ho hl]
        have : wo o (x :: (dd h).filter fun y => y != x) = wo o (dd h) := by
          unfold wo
          rw [List.filter_cons_of_neg (by simp [hxo]), List.filter_filter]
          apply List.filter_congr
          intro y _
          by_cases hy : y ∈ o
          · simp [hy]
          · have : y ≠ x := fun e => hy (e ▸ hxo)
            simp [hy, this]
        rw [this]
      · have ha : addOnce o x = o ++ [x] := if_neg hxo
        have hla : (o ++ [x]).length = o.length + 1 := by simp
        have hw : wo o (x :: (dd h).filter fun y => y != x) = x :: wo (o ++ [x]) (dd h) := by
          unfold wo
          rw [List.filter_cons_of_pos (by simp [hxo]), List.filter_filter]
          congr 1
          apply List.filter_congr
          intro y _
          by_cases hy : y ∈ o <;> by_cases hyx : y = x <;> simp [hy, hyx]
        rw [ha, hw, e, List.take_succ_cons]
        have htx : ¬ t = x := fun h => hx h.symm
        by_cases hlen : w ≤ (o ++ [x]).length
        · rw [if_pos hlen]
          have : w - o.length - 1 = 0 := by omega
          rw [this]
          simp [htx]
        · rw [if_neg hlen, backL_is t w h (o ++ [x]) (by simp [ho, htx]) (by omega), hla]
          rw [show w - (o.length + 1) = w - o.length - 1 by omega]
          simp [htx]
theorem backL_nil (t : Int) (w : Nat) (h : List Int) (hw : 1 ≤ w) : backL t w h [] = true ↔ t ∈ (dd h).take w := by
  have := backL_is t w h [] (by simp) (by simp; omega)
  rw [this]
  have : wo [] (dd h) = dd h := List.filter_eq_self.2 (fun _ _ => by simp)
  rw [this]
  simp
theorem dd_nodup : ∀ h, (dd h).Nodup
  | [] => by simp [dd]
  | x :: h => by
    simp only [dd]
    exact List.nodup_cons.2 ⟨by simp, (dd_nodup h).filter _⟩
theorem idx_mem (l : List Int) (t : Int) : 0 ≤ idx l t ↔ t ∈ l := by
  rcases idx_says l t with ⟨h, hn⟩ | ⟨k, hk, h, ha, _⟩
  · rw [h]; simp [hn]
  · rw [h]
    have := List.mem_of_getElem? ha
    simp [this]
theorem filter_ne {D : List Int} {t : Int} (h : t ∉ D) : D.filter (fun y => y != t) = D :=
  List.filter_eq_self.2 fun y hy => by
    have : y ≠ t := fun e => h (e ▸ hy)
    simpa using this
/-- A touch keeps a set's tags the last ones. -/
theorem tl_is (D : List Int) (hD : D.Nodup) (w : Nat) (h1 : 1 ≤ w) (t : Int) : tl (w : Int) (D.take w) t = (t :: D.filter fun y => y != t).take w := by
  obtain ⟨v, rfl⟩ : ∃ v, w = v + 1 := ⟨w - 1, by omega⟩
  unfold tl
  rw [List.take_succ_cons]
  rcases idx_says (D.take (v + 1)) t with ⟨hi, hno⟩ | ⟨k, hk, hi, hat, hno⟩
  · rw [hi, if_neg (by omega)]
    by_cases hl : (((D.take (v + 1)).length : Nat) : Int) < ((v + 1 : Nat) : Int)
    · rw [if_pos hl]
      have hlen : D.length ≤ v := by rw [List.length_take] at hl; omega
      rw [List.take_of_length_le (by omega)] at hno ⊢
      rw [filter_ne hno, List.take_of_length_le hlen]
    · rw [if_neg hl]
      have hlen : v + 1 ≤ D.length := by rw [List.length_take] at hl; omega
      have e1 : (D.take (v + 1)).length = v + 1 := by rw [List.length_take]; omega
      rw [e1]
      have e2 : D = D.take (v + 1) ++ D.drop (v + 1) := (List.take_append_drop _ _).symm
      have e3 : D.filter (fun y => y != t) = D.take (v + 1) ++ (D.drop (v + 1)).filter (fun y => y != t) := by
        conv => lhs; rw [e2]
        rw [List.filter_append, filter_ne hno]
      rw [e3, List.take_append_of_le_length (by omega)]
      simp
  · rw [hi, if_pos (by omega)]
    have hkv : k < v + 1 := by rw [List.length_take] at hk; omega
    have hkD : k < D.length := by rw [List.length_take] at hk; omega
    have hatD : D[k]? = some t := by rw [List.getElem?_take, if_pos hkv] at hat; exact hat
    have hDk : D = D.take k ++ t :: D.drop (k + 1) := by
      have h2 : D.drop k = t :: D.drop (k + 1) := by
        rw [List.drop_eq_getElem_cons hkD]
        congr 1
        rw [List.getElem?_eq_getElem hkD] at hatD
        injection hatD
      rw [← h2]
      exact (List.take_append_drop k D).symm
    have hA : t ∉ D.take k := by
      rw [List.take_take, Nat.min_eq_left (by omega)] at hno
      exact hno
    have hB : t ∉ D.drop (k + 1) := by
      rw [hDk] at hD
      have := (List.nodup_append.1 hD).2.1
      exact (List.nodup_cons.1 this).1
    have e3 : D.filter (fun y => y != t) = D.take k ++ D.drop (k + 1) := by
      conv => lhs; rw [hDk]
      rw [List.filter_append, filter_ne hA, List.filter_cons_of_neg (by simp), filter_ne hB]
    rw [e3]
    have hkn : ((k : Int)).toNat = k := by omega
    rw [hkn, List.take_take, Nat.min_eq_left (by omega), List.drop_take]
    have hlk : (D.take k).length = k := by rw [List.length_take]; omega
    rw [List.take_append, hlk, List.take_of_length_le (l := D.take k) (by omega)]
    rw [show v + 1 - (k + 1) = v - k by omega]
theorem tl_dd (h : List Int) (w : Nat) (h1 : 1 ≤ w) (t : Int) : tl (w : Int) ((dd h).take w) t = (dd (t :: h)).take w := tl_is (dd h) (dd_nodup h) w h1 t
theorem kept_says (H : List (Int × Int)) (s t : Int) (w : Nat) (h1 : 1 ≤ w) (hw : w ≤ 16) (hH : H.length ≤ 200) :
    cofferdamlaw03_kept.f (H.length + 20) (H.reverse.map Prod.fst) (H.reverse.map Prod.snd) s t (w : Int) = some (decide (0 ≤ idx ((dd (hist s H)).take w) t)) := by
  rw [kept_is H s t w h1 hw hH, back_hist]
  congr 1
  rw [Bool.eq_iff_iff, backL_nil _ _ _ h1, decide_eq_true_iff, idx_mem]
end Go.Proofs.Ytcneepffhplpiaa.H
