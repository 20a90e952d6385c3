/- Contracts of cost.bounds and its closures: what each kind costs at most. -/
import Derived.Test.YtpodcbaechlejaaProg
import Derived.Below
import Derived.Deep.Draws
import Derived.Deep.AppendLies
import Derived.Maps.AppendAt
import Derived.OwnWalk
import Derived.Laws.BytesArg
import Derived.Laws.MakeOwn
import Derived.Laws.OwnMore
import Derived.Deep.OwnRows
import Derived.Tactics
import Derived.Lib.ConvBytes
import Derived.Laws.Slices
import Derived.WalkKit
import Derived.KernelRfl
import Derived.RowKit3
import Derived.Deep.LoopGhost
import Derived.Deep.QuietTactic
import Derived.BigQuiet
import Derived.WideLaws
import Derived.Deep.DeepCutAuto
import Derived.Deep.CutBlock
import Derived.Deep.RegionHeld3
import Derived.Laws.Rows
import Derived.Lib.AppendStr
import Derived.ArgAppend
import Derived.Laws.IdiomCopy
import Derived.OrdersHeld
import Derived.Laws.BitsLemmas
import Derived.RowKit
import Derived.Test.YtpodcbaechlejaaWWords
import Derived.Test.YtpodcbaechlejaaWLast
import Derived.Test.YtpodcbaechlejaaWTab
import Derived.Test.YtpodcbaechlejaaWFour
import Derived.Test.YtpodcbaechlejaaWQPut
import Derived.Test.YtpodcbaechlejaaWApart
import Derived.Test.YtpodcbaechlejaaWArr
import Derived.Test.YtpodcbaechlejaaWZeros
import Derived.Test.YtpodcbaechlejaaWFoot
import Derived.Test.YtpodcbaechlejaaWKept
import Derived.Test.YtpodcbaechlejaaWShare
import Derived.Test.YtpodcbaechlejaaWN
import Derived.Test.YtpodcbaechlejaaWFootNe
import Derived.Test.YtpodcbaechlejaaWAt
import Derived.Test.YtpodcbaechlejaaWEqStruct
import Derived.Test.YtpodcbaechlejaaWRepsOne
import Derived.Test.YtpodcbaechlejaaWInv
import Derived.Test.YtpodcbaechlejaaWInvWords
import Derived.Test.YtpodcbaechlejaaWGuard
import Derived.Test.YtpodcbaechlejaaWNEv
import Derived.Test.YtpodcbaechlejaaWMore
import Derived.Laws.EntriesVeiled
namespace Go.Proofs.Ytpodcbaechlejaa.H
open Go.RowKit Go.Proofs.YtpodcbaechlejaaW.PrintWords Go.Proofs.YtpodcbaechlejaaW.PrintLast Go.Proofs.YtpodcbaechlejaaW.PrintMore
set_option linter.unusedVariables false
set_option linter.unusedSimpArgs false

def pg (m step : Int) : Int := IntKind.u64.wrap (step + IntKind.u64.wrap (2 * m))
def al (m step limit : Int) : Int := IntKind.u64.wrap (IntKind.u64.wrap limit * pg m step)
def fm (step disk user : Int) : Int := IntKind.u64.wrap (IntKind.u64.wrap (IntKind.u64.wrap (IntKind.u64.wrap (2 * IntKind.u64.wrap user) + 1) * step) + disk)
def bd1 (m : Int) : Int := IntKind.u64.wrap (17 * m)
def bd2 (m all : Int) : Int := IntKind.u64.wrap (all + m)
def bd3 (m nodes all : Int) : Int := IntKind.u64.wrap (IntKind.u64.wrap (m + IntKind.u64.wrap (IntKind.u64.wrap (16 * IntKind.u64.wrap nodes) * m)) + all)
def bd4 (m : Int) : Int := IntKind.u64.wrap (113 * m)
def bd5 (page : Int) : Int := IntKind.u64.wrap (64 * page)
def bd6 (m step : Int) : Int := IntKind.u64.wrap (IntKind.u64.wrap (64 * IntKind.u64.wrap (step + m)) + m)
def bd8 (m fault disk frame : Int) : Int := IntKind.u64.wrap (IntKind.u64.wrap (IntKind.u64.wrap (IntKind.u64.wrap (26 * m) + fault) + frame) + disk)
def bd9 (m fault disk frame : Int) : Int := IntKind.u64.wrap (IntKind.u64.wrap (IntKind.u64.wrap (IntKind.u64.wrap (64 * m) + IntKind.u64.wrap (2 * fault)) + IntKind.u64.wrap (2 * frame)) + disk)
/-- What a kind costs at most, behind entering. -/
def bd (m fault step disk user limit nodes : Int) (kind : Nat) : Int :=
  match kind with
  | 1 => bd1 m | 2 => bd2 m (al m step limit) | 3 => bd3 m nodes (al m step limit) | 4 => bd4 m | 5 => bd5 (pg m step) | 6 => bd6 m step | 7 => mx (bd4 m) (bd5 (pg m step)) | 8 => bd8 m fault disk (fm step disk user) | 9 => bd9 m fault disk (fm step disk user) | _ => 0
def BW (l1 llc m fault step disk image user limit nodes : Int) (gc gs gm gp ga gf hm hu : Nat) (w' : World) : Prop := w'.heap[gc]? = some (.cells #[.int .u64 l1, .int .u64 llc, .int .u64 m, .int .u64 fault, .int .u64 step, .int .u64 disk] 24) ∧ w'.heap[gs]? = some (.cells #[.int .i64 image, .int .i64 user, .int .i64 limit, .int .i64 nodes] 35) ∧ w'.heap[gm]? = some (.cells #[.int .u64 m] 22) ∧ w'.heap[gp]? = some (.cells #[.int .u64 (pg m step)] 22) ∧ w'.heap[ga]? = some (.cells #[.int .u64 (al m step limit)] 22) ∧ w'.heap[gf]? = some (.cells #[.int .u64 (fm step disk user)] 22) ∧ w'.heap[hm]? = some (.cells #[.func (.func 29) #[] #[(.pointer (some ⟨gm, 0, none⟩))]] 52) ∧ w'.heap[hu]? = some (.cells #[.func (.func 30) #[] #[(.pointer (some ⟨gp, 0, none⟩))]] 52)
theorem nine (w : World) (o0 o1 o2 o3 o4 o5 o6 o7 o8 : Obj) : (((((((((w.alloc o0).alloc o1).alloc o2).alloc o3).alloc o4).alloc o5).alloc o6).alloc o7).alloc o8).heap[w.heap.size]? = some o0 ∧ (((((((((w.alloc o0).alloc o1).alloc o2).alloc o3).alloc o4).alloc o5).alloc o6).alloc o7).alloc o8).heap[w.heap.size + 1]? = some o1 ∧ (((((((((w.alloc o0).alloc o1).alloc o2).alloc o3).alloc o4).alloc o5).alloc o6).alloc o7).alloc o8).heap[w.heap.size + 1 + 1]? = some o2 ∧ (((((((((w.alloc o0).alloc o1).alloc o2).alloc o3).alloc o4).alloc o5).alloc o6).alloc o7).alloc o8).heap[w.heap.size + 1 + 1 + 1]? = some o3 ∧ (((((((((w.alloc o0).alloc o1).alloc o2).alloc o3).alloc o4).alloc o5).alloc o6).alloc o7).alloc o8).heap[w.heap.size + 1 + 1 + 1 + 1]? = some o4 ∧ (((((((((w.alloc o0).alloc o1).alloc o2).alloc o3).alloc o4).alloc o5).alloc o6).alloc o7).alloc o8).heap[w.heap.size + 1 + 1 + 1 + 1 + 1]? = some o5 ∧ (((((((((w.alloc o0).alloc o1).alloc o2).alloc o3).alloc o4).alloc o5).alloc o6).alloc o7).alloc o8).heap[w.heap.size + 1 + 1 + 1 + 1 + 1 + 1]? = some o6 ∧ (((((((((w.alloc o0).alloc o1).alloc o2).alloc o3).alloc o4).alloc o5).alloc o6).alloc o7).alloc o8).heap[w.heap.size + 1 + 1 + 1 + 1 + 1 + 1 + 1]? = some o7 ∧ (((((((((w.alloc o0).alloc o1).alloc o2).alloc o3).alloc o4).alloc o5).alloc o6).alloc o7).alloc o8).heap[w.heap.size + 1 + 1 + 1 + 1 + 1 + 1 + 1 + 1]? = some o8 := by
  refine ⟨?_, ?_, ?_, ?_, ?_, ?_, ?_, ?_, ?_⟩
  · have h := blk_new w o0
    have e : w.heap.size = w.heap.size := by simp
    rw [e] at h
    exact (blk_alloc (blk_alloc (blk_alloc (blk_alloc (blk_alloc (blk_alloc (blk_alloc (blk_alloc h _) _) _) _) _) _) _) _)
  · have h := blk_new (w.alloc o0) o1
    have e : (w.alloc o0).heap.size = w.heap.size + 1 := by simp
    rw [e] at h
    exact (blk_alloc (blk_alloc (blk_alloc (blk_alloc (blk_alloc (blk_alloc (blk_alloc h _) _) _) _) _) _) _)
  · have h := blk_new ((w.alloc o0).alloc o1) o2
    have e : ((w.alloc o0).alloc o1).heap.size = w.heap.size + 1 + 1 := by simp
    rw [e] at h
    exact (blk_alloc (blk_alloc (blk_alloc (blk_alloc (blk_alloc (blk_alloc h _) _) _) _) _) _)
  · have h := blk_new (((w.alloc o0).alloc o1).alloc o2) o3
    have e : (((w.alloc o0).alloc o1).alloc o2).heap.size = w.heap.size + 1 + 1 + 1 := by simp
    rw [e] at h
    exact (blk_alloc (blk_alloc (blk_alloc (blk_alloc (blk_alloc h _) _) _) _) _)
  · have h := blk_new ((((w.alloc o0).alloc o1).alloc o2).alloc o3) o4
    have e : ((((w.alloc o0).alloc o1).alloc o2).alloc o3).heap.size = w.heap.size + 1 + 1 + 1 + 1 := by simp
    rw [e] at h
    exact (blk_alloc (blk_alloc (blk_alloc (blk_alloc h _) _) _) _)
  · have h := blk_new (((((w.alloc o0).alloc o1).alloc o2).alloc o3).alloc o4) o5
    have e : (((((w.alloc o0).alloc o1).alloc o2).alloc o3).alloc o4).heap.size = w.heap.size + 1 + 1 + 1 + 1 + 1 := by simp
    rw [e] at h
    exact (blk_alloc (blk_alloc (blk_alloc h _) _) _)
  · have h := blk_new ((((((w.alloc o0).alloc o1).alloc o2).alloc o3).alloc o4).alloc o5) o6
    have e : ((((((w.alloc o0).alloc o1).alloc o2).alloc o3).alloc o4).alloc o5).heap.size = w.heap.size + 1 + 1 + 1 + 1 + 1 + 1 := by simp
    rw [e] at h
    exact (blk_alloc (blk_alloc h _) _)
  · have h := blk_new (((((((w.alloc o0).alloc o1).alloc o2).alloc o3).alloc o4).alloc o5).alloc o6) o7
    have e : (((((((w.alloc o0).alloc o1).alloc o2).alloc o3).alloc o4).alloc o5).alloc o6).heap.size = w.heap.size + 1 + 1 + 1 + 1 + 1 + 1 + 1 := by simp
    rw [e] at h
    exact (blk_alloc h _)
  · have h := blk_new ((((((((w.alloc o0).alloc o1).alloc o2).alloc o3).alloc o4).alloc o5).alloc o6).alloc o7) o8
    have e : ((((((((w.alloc o0).alloc o1).alloc o2).alloc o3).alloc o4).alloc o5).alloc o6).alloc o7).heap.size = w.heap.size + 1 + 1 + 1 + 1 + 1 + 1 + 1 + 1 := by simp
    rw [e] at h
    exact h
theorem results_c26 (tmps : Array Value) (w : World) (g : Nat) {x0 x1 x2 x3 x4 x5 x6 x7 x8 x9 x10 : Value} (hp : tmps.getD 4 undef = .pointer (some ⟨g, 0, none⟩)) (hg : w.heap[g]? = some (.cells (#[x0, x1, x2, x3, x4, x5, x6, x7, x8, x9, x10] : Array Value) 53 (0, 0))) :
    (results Try.f26 tmps).run Try.prog w = .ok (.agg #[x0, x1, x2, x3, x4, x5, x6, x7, x8, x9, x10]) w := by
  have hp' : tmps[4]?.getD undef = .pointer (some ⟨g, 0, none⟩) := by simpa using hp
  simp [results, Try.results26, hp', asAddr, run_loadVar_row w g 53 53 _ (0, 0) _ hg Try.underlying53 rfl (by kernel_rfl)]
set_option maxHeartbeats 4000000 in
set_option maxRecDepth 100000 in
theorem bounds_any (l1 llc m fault step disk image user limit nodes : Int) (w : World) :
    Calls Try.prog 26 #[.agg #[.int .u64 l1, .int .u64 llc, .int .u64 m, .int .u64 fault, .int .u64 step, .int .u64 disk], .agg #[.int .i64 image, .int .i64 user, .int .i64 limit, .int .i64 nodes]] w fun e w' => ∃ gc gs gm gp ga gf hm hu : Nat, e = .returned (.agg #[(.func (.func 31) #[] #[]), (.func (.func 32) #[] #[(.pointer (some ⟨gm, 0, none⟩))]), (.func (.func 33) #[] #[(.pointer (some ⟨ga, 0, none⟩)), (.pointer (some ⟨gm, 0, none⟩))]), (.func (.func 34) #[] #[(.pointer (some ⟨gm, 0, none⟩)), (.pointer (some ⟨gs, 0, none⟩)), (.pointer (some ⟨ga, 0, none⟩))]), (.func (.func 29) #[] #[(.pointer (some ⟨gm, 0, none⟩))]), (.func (.func 30) #[] #[(.pointer (some ⟨gp, 0, none⟩))]), (.func (.func 35) #[] #[(.pointer (some ⟨gc, 0, none⟩)), (.pointer (some ⟨gm, 0, none⟩))]), (.func (.func 36) #[] #[(.pointer (some ⟨hm, 0, none⟩)), (.pointer (some ⟨hu, 0, none⟩))]), (.func (.func 37) #[] #[(.pointer (some ⟨gm, 0, none⟩)), (.pointer (some ⟨gc, 0, none⟩)), (.pointer (some ⟨gf, 0, none⟩))]), (.func (.func 38) #[] #[(.pointer (some ⟨gm, 0, none⟩)), (.pointer (some ⟨gc, 0, none⟩)), (.pointer (some ⟨gf, 0, none⟩))]), (.func (.func 31) #[] #[])]) ∧ BW l1 llc m fault step disk image user limit nodes gc gs gm gp ga gf hm hu w' ∧ Below w.heap.size w w' := by
  have hu24 := Try.underlying24
  have hu35 := Try.underlying35
  have hmf : ∀ (fn : Fn) (first cap : Array Value) (w : World), (Instr.makeFunc fn first cap).run Try.prog w = .ok (.func fn first cap) w := fun _ _ _ _ => rfl
  go_enter Try.func26, Try.ntmps26
  go_wp2
  have h9 := fun o0 o1 o2 o3 o4 o5 o6 o7 o8 => nine w o0 o1 o2 o3 o4 o5 o6 o7 o8
  refine bodyPost_ret (results_c26 _ _ (w.heap.size + 1 + 1) ?h1 (h9 _ _ _ _ _ _ _ _ _).2.2.1) rfl ⟨w.heap.size, w.heap.size + 1, w.heap.size + 1 + 1 + 1, w.heap.size + 1 + 1 + 1 + 1, w.heap.size + 1 + 1 + 1 + 1 + 1, w.heap.size + 1 + 1 + 1 + 1 + 1 + 1, w.heap.size + 1 + 1 + 1 + 1 + 1 + 1 + 1, w.heap.size + 1 + 1 + 1 + 1 + 1 + 1 + 1 + 1, rfl, ?_, ?_⟩
  case h1 => rfl
  · exact ⟨(h9 _ _ _ _ _ _ _ _ _).1, (h9 _ _ _ _ _ _ _ _ _).2.1, (h9 _ _ _ _ _ _ _ _ _).2.2.2.1, (h9 _ _ _ _ _ _ _ _ _).2.2.2.2.1, (h9 _ _ _ _ _ _ _ _ _).2.2.2.2.2.1, (h9 _ _ _ _ _ _ _ _ _).2.2.2.2.2.2.1, (h9 _ _ _ _ _ _ _ _ _).2.2.2.2.2.2.2.1, (h9 _ _ _ _ _ _ _ _ _).2.2.2.2.2.2.2.2⟩
  · exact below_alloc (below_alloc (below_alloc (below_alloc (below_alloc (below_alloc (below_alloc (below_alloc (below_alloc (Below.refl _ _) _) _) _) _) _) _) _) _) _
set_option maxHeartbeats 4000000 in
set_option maxRecDepth 100000 in
theorem clo29 (l1 llc m fault step disk image user limit nodes : Int) (gc gs gm gp ga gf hm hu : Nat) (w : World) (hw : BW l1 llc m fault step disk image user limit nodes gc gs gm gp ga gf hm hu w) : Calls Try.prog 29 #[.pointer (some ⟨gm, 0, none⟩)] w fun e w' => e = .returned (.int .u64 (bd4 m)) ∧ w = w' := by
  obtain ⟨hgc, hgs, hgm, hgp, hga, hgf, hhm, hhu⟩ := hw
  have cgm0 := blk_cell hgm 0
  simp only [List.getElem?_toArray, List.getElem?_cons_zero, List.getElem?_cons_succ] at cgm0
  clear hgc hgs hgm hgp hga hgf hhm hhu
  go_enter Try.func29, Try.ntmps29
  go_wp2
  go_ret
  exact ⟨rfl, rfl⟩
set_option maxHeartbeats 4000000 in
set_option maxRecDepth 100000 in
theorem clo30 (l1 llc m fault step disk image user limit nodes : Int) (gc gs gm gp ga gf hm hu : Nat) (w : World) (hw : BW l1 llc m fault step disk image user limit nodes gc gs gm gp ga gf hm hu w) : Calls Try.prog 30 #[.pointer (some ⟨gp, 0, none⟩)] w fun e w' => e = .returned (.int .u64 (bd5 (pg m step))) ∧ w = w' := by
  obtain ⟨hgc, hgs, hgm, hgp, hga, hgf, hhm, hhu⟩ := hw
  have cgp0 := blk_cell hgp 0
  simp only [List.getElem?_toArray, List.getElem?_cons_zero, List.getElem?_cons_succ] at cgp0
  clear hgc hgs hgm hgp hga hgf hhm hhu
  go_enter Try.func30, Try.ntmps30
  go_wp2
  go_ret
  exact ⟨rfl, rfl⟩
set_option maxHeartbeats 4000000 in
set_option maxRecDepth 100000 in
theorem clo31 (l1 llc m fault step disk image user limit nodes : Int) (gc gs gm gp ga gf hm hu : Nat) (w : World) (hw : BW l1 llc m fault step disk image user limit nodes gc gs gm gp ga gf hm hu w) : Calls Try.prog 31 #[] w fun e w' => e = .returned (.int .u64 0) ∧ w = w' := by
  obtain ⟨hgc, hgs, hgm, hgp, hga, hgf, hhm, hhu⟩ := hw

  clear hgc hgs hgm hgp hga hgf hhm hhu
  go_enter Try.func31, Try.ntmps31
  go_wp2
  go_ret
  exact ⟨rfl, rfl⟩
set_option maxHeartbeats 4000000 in
set_option maxRecDepth 100000 in
theorem clo32 (l1 llc m fault step disk image user limit nodes : Int) (gc gs gm gp ga gf hm hu : Nat) (w : World) (hw : BW l1 llc m fault step disk image user limit nodes gc gs gm gp ga gf hm hu w) : Calls Try.prog 32 #[.pointer (some ⟨gm, 0, none⟩)] w fun e w' => e = .returned (.int .u64 (bd1 m)) ∧ w = w' := by
  obtain ⟨hgc, hgs, hgm, hgp, hga, hgf, hhm, hhu⟩ := hw
  have cgm0 := blk_cell hgm 0
  simp only [List.getElem?_toArray, List.getElem?_cons_zero, List.getElem?_cons_succ] at cgm0
  clear hgc hgs hgm hgp hga hgf hhm hhu
  go_enter Try.func32, Try.ntmps32
  go_wp2
  go_ret
  exact ⟨rfl, rfl⟩
set_option maxHeartbeats 4000000 in
set_option maxRecDepth 100000 in
theorem clo33 (l1 llc m fault step disk image user limit nodes : Int) (gc gs gm gp ga gf hm hu : Nat) (w : World) (hw : BW l1 llc m fault step disk image user limit nodes gc gs gm gp ga gf hm hu w) : Calls Try.prog 33 #[.pointer (some ⟨ga, 0, none⟩), .pointer (some ⟨gm, 0, none⟩)] w fun e w' => e = .returned (.int .u64 (bd2 m (al m step limit))) ∧ w = w' := by
  obtain ⟨hgc, hgs, hgm, hgp, hga, hgf, hhm, hhu⟩ := hw
  have cga0 := blk_cell hga 0
  simp only [List.getElem?_toArray, List.getElem?_cons_zero, List.getElem?_cons_succ] at cga0
  have cgm0 := blk_cell hgm 0
  simp only [List.getElem?_toArray, List.getElem?_cons_zero, List.getElem?_cons_succ] at cgm0
  clear hgc hgs hgm hgp hga hgf hhm hhu
  go_enter Try.func33, Try.ntmps33
  go_wp2
  go_ret
  exact ⟨rfl, rfl⟩
set_option maxHeartbeats 4000000 in
set_option maxRecDepth 100000 in
theorem clo34 (l1 llc m fault step disk image user limit nodes : Int) (gc gs gm gp ga gf hm hu : Nat) (w : World) (hw : BW l1 llc m fault step disk image user limit nodes gc gs gm gp ga gf hm hu w) : Calls Try.prog 34 #[.pointer (some ⟨gm, 0, none⟩), .pointer (some ⟨gs, 0, none⟩), .pointer (some ⟨ga, 0, none⟩)] w fun e w' => e = .returned (.int .u64 (bd3 m nodes (al m step limit))) ∧ w = w' := by
  obtain ⟨hgc, hgs, hgm, hgp, hga, hgf, hhm, hhu⟩ := hw
  have cgm0 := blk_cell hgm 0
  simp only [List.getElem?_toArray, List.getElem?_cons_zero, List.getElem?_cons_succ] at cgm0
  have cgs0 := blk_cell hgs 0
  simp only [List.getElem?_toArray, List.getElem?_cons_zero, List.getElem?_cons_succ] at cgs0
  have cgs1 := blk_cell hgs 1
  simp only [List.getElem?_toArray, List.getElem?_cons_zero, List.getElem?_cons_succ] at cgs1
  have cgs2 := blk_cell hgs 2
  simp only [List.getElem?_toArray, List.getElem?_cons_zero, List.getElem?_cons_succ] at cgs2
  have cgs3 := blk_cell hgs 3
  simp only [List.getElem?_toArray, List.getElem?_cons_zero, List.getElem?_cons_succ] at cgs3
  have cga0 := blk_cell hga 0
  simp only [List.getElem?_toArray, List.getElem?_cons_zero, List.getElem?_cons_succ] at cga0
  clear hgc hgs hgm hgp hga hgf hhm hhu
  go_enter Try.func34, Try.ntmps34
  go_wp2
  go_ret
  exact ⟨rfl, rfl⟩
set_option maxHeartbeats 4000000 in
set_option maxRecDepth 100000 in
theorem clo35 (l1 llc m fault step disk image user limit nodes : Int) (gc gs gm gp ga gf hm hu : Nat) (w : World) (hw : BW l1 llc m fault step disk image user limit nodes gc gs gm gp ga gf hm hu w) : Calls Try.prog 35 #[.pointer (some ⟨gc, 0, none⟩), .pointer (some ⟨gm, 0, none⟩)] w fun e w' => e = .returned (.int .u64 (bd6 m step)) ∧ w = w' := by
  obtain ⟨hgc, hgs, hgm, hgp, hga, hgf, hhm, hhu⟩ := hw
  have cgc0 := blk_cell hgc 0
  simp only [List.getElem?_toArray, List.getElem?_cons_zero, List.getElem?_cons_succ] at cgc0
  have cgc1 := blk_cell hgc 1
  simp only [List.getElem?_toArray, List.getElem?_cons_zero, List.getElem?_cons_succ] at cgc1
  have cgc2 := blk_cell hgc 2
  simp only [List.getElem?_toArray, List.getElem?_cons_zero, List.getElem?_cons_succ] at cgc2
  have cgc3 := blk_cell hgc 3
  simp only [List.getElem?_toArray, List.getElem?_cons_zero, List.getElem?_cons_succ] at cgc3
  have cgc4 := blk_cell hgc 4
  simp only [List.getElem?_toArray, List.getElem?_cons_zero, List.getElem?_cons_succ] at cgc4
  have cgc5 := blk_cell hgc 5
  simp only [List.getElem?_toArray, List.getElem?_cons_zero, List.getElem?_cons_succ] at cgc5
  have cgm0 := blk_cell hgm 0
  simp only [List.getElem?_toArray, List.getElem?_cons_zero, List.getElem?_cons_succ] at cgm0
  clear hgc hgs hgm hgp hga hgf hhm hhu
  go_enter Try.func35, Try.ntmps35
  go_wp2
  go_ret
  exact ⟨rfl, rfl⟩
set_option maxHeartbeats 4000000 in
set_option maxRecDepth 100000 in
theorem clo37 (l1 llc m fault step disk image user limit nodes : Int) (gc gs gm gp ga gf hm hu : Nat) (w : World) (hw : BW l1 llc m fault step disk image user limit nodes gc gs gm gp ga gf hm hu w) : Calls Try.prog 37 #[.pointer (some ⟨gm, 0, none⟩), .pointer (some ⟨gc, 0, none⟩), .pointer (some ⟨gf, 0, none⟩)] w fun e w' => e = .returned (.int .u64 (bd8 m fault disk (fm step disk user))) ∧ w = w' := by
  obtain ⟨hgc, hgs, hgm, hgp, hga, hgf, hhm, hhu⟩ := hw
  have cgm0 := blk_cell hgm 0
  simp only [List.getElem?_toArray, List.getElem?_cons_zero, List.getElem?_cons_succ] at cgm0
  have cgc0 := blk_cell hgc 0
  simp only [List.getElem?_toArray, List.getElem?_cons_zero, List.getElem?_cons_succ] at cgc0
  have cgc1 := blk_cell hgc 1
  simp only [List.getElem?_toArray, List.getElem?_cons_zero, List.getElem?_cons_succ] at cgc1
  have cgc2 := blk_cell hgc 2
  simp only [List.getElem?_toArray, List.getElem?_cons_zero, List.getElem?_cons_succ] at cgc2
  have cgc3 := blk_cell hgc 3
  simp only [List.getElem?_toArray, List.getElem?_cons_zero, List.getElem?_cons_succ] at cgc3
  have cgc4 := blk_cell hgc 4
  simp only [List.getElem?_toArray, List.getElem?_cons_zero, List.getElem?_cons_succ] at cgc4
  have cgc5 := blk_cell hgc 5
  simp only [List.getElem?_toArray, List.getElem?_cons_zero, List.getElem?_cons_succ] at cgc5
  have cgf0 := blk_cell hgf 0
  simp only [List.getElem?_toArray, List.getElem?_cons_zero, List.getElem?_cons_succ] at cgf0
  clear hgc hgs hgm hgp hga hgf hhm hhu
  go_enter Try.func37, Try.ntmps37
  go_wp2
  go_ret
  exact ⟨rfl, rfl⟩
set_option maxHeartbeats 4000000 in
set_option maxRecDepth 100000 in
theorem clo38 (l1 llc m fault step disk image user limit nodes : Int) (gc gs gm gp ga gf hm hu : Nat) (w : World) (hw : BW l1 llc m fault step disk image user limit nodes gc gs gm gp ga gf hm hu w) : Calls Try.prog 38 #[.pointer (some ⟨gm, 0, none⟩), .pointer (some ⟨gc, 0, none⟩), .pointer (some ⟨gf, 0, none⟩)] w fun e w' => e = .returned (.int .u64 (bd9 m fault disk (fm step disk user))) ∧ w = w' := by
  obtain ⟨hgc, hgs, hgm, hgp, hga, hgf, hhm, hhu⟩ := hw
  have cgm0 := blk_cell hgm 0
  simp only [List.getElem?_toArray, List.getElem?_cons_zero, List.getElem?_cons_succ] at cgm0
  have cgc0 := blk_cell hgc 0
  simp only [List.getElem?_toArray, List.getElem?_cons_zero, List.getElem?_cons_succ] at cgc0
  have cgc1 := blk_cell hgc 1
  simp only [List.getElem?_toArray, List.getElem?_cons_zero, List.getElem?_cons_succ] at cgc1
  have cgc2 := blk_cell hgc 2
  simp only [List.getElem?_toArray, List.getElem?_cons_zero, List.getElem?_cons_succ] at cgc2
  have cgc3 := blk_cell hgc 3
  simp only [List.getElem?_toArray, List.getElem?_cons_zero, List.getElem?_cons_succ] at cgc3
  have cgc4 := blk_cell hgc 4
  simp only [List.getElem?_toArray, List.getElem?_cons_zero, List.getElem?_cons_succ] at cgc4
  have cgc5 := blk_cell hgc 5
  simp only [List.getElem?_toArray, List.getElem?_cons_zero, List.getElem?_cons_succ] at cgc5
  have cgf0 := blk_cell hgf 0
  simp only [List.getElem?_toArray, List.getElem?_cons_zero, List.getElem?_cons_succ] at cgf0
  clear hgc hgs hgm hgp hga hgf hhm hhu
  go_enter Try.func38, Try.ntmps38
  go_wp2
  go_ret
  exact ⟨rfl, rfl⟩
end Go.Proofs.Ytpodcbaechlejaa.H
