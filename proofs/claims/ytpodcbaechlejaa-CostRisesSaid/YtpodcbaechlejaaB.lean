/- Short words for printed walks: a block's object is kept by draws and new blocks. -/
import Derived.Test.YtpodcbaechlejaaHx2
namespace Go.Proofs.Ytpodcbaechlejaa.H
open Go.RowKit Go.Proofs.YtpodcbaechlejaaW.PrintWords Go.Proofs.YtpodcbaechlejaaW.PrintLast Go.Proofs.YtpodcbaechlejaaW.PrintMore
/-- Each object of the first world lies in the second. -/
class Kp (w w' : World) : Prop where
  out : ∀ {g : Nat} {o : Obj}, w.heap[g]? = some o → w'.heap[g]? = some o
instance (priority := low) kp_refl {w : World} : Kp w w := ⟨id⟩
instance kp_drew {w w' : World} [h : Kp w w'] : Kp w w'.drew := ⟨fun x => blk_drew (h.out x)⟩
instance kp_drewN {w w' : World} {n : Nat} [h : Kp w w'] : Kp w (w'.drewN n) := ⟨fun x => blk_drewN (h.out x) n⟩
instance kp_alloc {w w' : World} {o : Obj} [h : Kp w w'] : Kp w (w'.alloc o) := ⟨fun x => blk_alloc (h.out x) o⟩
theorem bk {w w' : World} {g : Nat} {o : Obj} (h : w.heap[g]? = some o) [k : Kp w w'] : w'.heap[g]? = some o := k.out h
end Go.Proofs.Ytpodcbaechlejaa.H
