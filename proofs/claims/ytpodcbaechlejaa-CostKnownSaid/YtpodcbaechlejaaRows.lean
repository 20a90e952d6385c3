/-
  No cell of these rows narrows 'for every input' (looked for: loops, veiled, ifaces, maps, wideKeys, modest, calm, conditions, laid).
  DERIVED. THE GIVEN ROWS OF THIS SEAT. 5 by the template 'for every input the law returns true; each argument reads behind the call as it read before'; 0 by the template 'total and deterministic' (their statements: YtpodcbaechlejaaTotals.lean).
  GIVEN WITH THE SEED: the statements are not yours to turn. If you find one false, say at which input.
  Laid BY PROGRAM, IN A SANDBOX (cutbox-rows.mjs): the forced cells as the released guide's own fill.sh prints them over the translation a5aa17ec5f44f7a7… (all of the seat's roots in one cut). By AI agents, Wed Nov 11 2026. No macro, syntax, notation, axiom, sorry.
-/
import Derived.Test.YtpodcbaechlejaaChecked
import GoSem.Claim
import GoSem.ClaimJoined
import GoSem.ClaimMapViews
import Derived.JoinedTies
import Derived.KernelRfl
namespace Go.Proofs.Ytpodcbaechlejaa
/- THE CELL 'sum', in the pinned program and in every row, IS THE sha256 OF THE DUMP (.gsa) THAT YtpodcbaechlejaaProg.lean LOADS. Nothing in Lean hashes anything: it is a label: what it is worth is what the hold of that sum in a sandbox is worth. -/
noncomputable def Try.pinned : Pinned := { name := "ytpodcbaechlejaa", sum := "a5aa17ec5f44f7a79e21235e4f50637d60bbb92ce8617b7073776923d91f92e6", checked := Try.checked }
namespace Rows
def none {H : Type} : Left H := { results := [], args := [] }

/-- 'cofferdamlaw10.CostTouches': WHATEVER THE INPUT: true; the input reads as it did. -/
def costTouchesSpec : ChangeSpec := { name := "costTouches", fn := fun _ => fun
  | [d1, d2, d3] => { results := [.lit (.bool true)], args := [d1, d2, d3] }
  | _ => none }
def costTouchesRow : OpenClaim := { program := "ytpodcbaechlejaa", sum := "a5aa17ec5f44f7a79e21235e4f50637d60bbb92ce8617b7073776923d91f92e6", func := "cofferdam/cofferdamlaw10.CostTouches", spec := "costTouches", unfollowed := true, recurses := true, apart := false }
def CostTouchesSaid : Prop := costTouchesRow.holds Try.pinned (OpenSpec.ofChange costTouchesSpec)

/-- ITS FALSE NEIGHBOUR: 'it returns false'. Refute it at one input. -/
def costTouchesWrong : ChangeSpec := { name := "costTouches", fn := fun _ => fun
  | [d1, d2, d3] => { results := [.lit (.bool false)], args := [d1, d2, d3] }
  | _ => none }
def CostTouchesWrongFalsely : Prop := costTouchesRow.holds Try.pinned (OpenSpec.ofChange costTouchesWrong)

/-- 'cofferdamlaw10.CostScales': WHATEVER THE INPUT: true; the input reads as it did. -/
def costScalesSpec : ChangeSpec := { name := "costScales", fn := fun _ => fun
  | [d1, d2, d3] => { results := [.lit (.bool true)], args := [d1, d2, d3] }
  | _ => none }
def costScalesRow : OpenClaim := { program := "ytpodcbaechlejaa", sum := "a5aa17ec5f44f7a79e21235e4f50637d60bbb92ce8617b7073776923d91f92e6", func := "cofferdam/cofferdamlaw10.CostScales", spec := "costScales", unfollowed := true, recurses := true, apart := false }
def CostScalesSaid : Prop := costScalesRow.holds Try.pinned (OpenSpec.ofChange costScalesSpec)

/-- ITS FALSE NEIGHBOUR: 'it returns false'. Refute it at one input. -/
def costScalesWrong : ChangeSpec := { name := "costScales", fn := fun _ => fun
  | [d1, d2, d3] => { results := [.lit (.bool false)], args := [d1, d2, d3] }
  | _ => none }
def CostScalesWrongFalsely : Prop := costScalesRow.holds Try.pinned (OpenSpec.ofChange costScalesWrong)

/-- 'cofferdamlaw10.CostWorst': WHATEVER THE INPUT: true; the input reads as it did. -/
def costWorstSpec : ChangeSpec := { name := "costWorst", fn := fun _ => fun
  | [d1, d2] => { results := [.lit (.bool true)], args := [d1, d2] }
  | _ => none }
def costWorstRow : OpenClaim := { program := "ytpodcbaechlejaa", sum := "a5aa17ec5f44f7a79e21235e4f50637d60bbb92ce8617b7073776923d91f92e6", func := "cofferdam/cofferdamlaw10.CostWorst", spec := "costWorst", unfollowed := true, recurses := true, apart := false }
def CostWorstSaid : Prop := costWorstRow.holds Try.pinned (OpenSpec.ofChange costWorstSpec)

/-- ITS FALSE NEIGHBOUR: 'it returns false'. Refute it at one input. -/
def costWorstWrong : ChangeSpec := { name := "costWorst", fn := fun _ => fun
  | [d1, d2] => { results := [.lit (.bool false)], args := [d1, d2] }
  | _ => none }
def CostWorstWrongFalsely : Prop := costWorstRow.holds Try.pinned (OpenSpec.ofChange costWorstWrong)

/-- 'cofferdamlaw10.CostRises': WHATEVER THE INPUT: true; the input reads as it did. -/
def costRisesSpec : ChangeSpec := { name := "costRises", fn := fun _ => fun
  | [d1, d2, d3] => { results := [.lit (.bool true)], args := [d1, d2, d3] }
  | _ => none }
def costRisesRow : OpenClaim := { program := "ytpodcbaechlejaa", sum := "a5aa17ec5f44f7a79e21235e4f50637d60bbb92ce8617b7073776923d91f92e6", func := "cofferdam/cofferdamlaw10.CostRises", spec := "costRises", unfollowed := true, recurses := true, apart := false }
def CostRisesSaid : Prop := costRisesRow.holds Try.pinned (OpenSpec.ofChange costRisesSpec)

/-- ITS FALSE NEIGHBOUR: 'it returns false'. Refute it at one input. -/
def costRisesWrong : ChangeSpec := { name := "costRises", fn := fun _ => fun
  | [d1, d2, d3] => { results := [.lit (.bool false)], args := [d1, d2, d3] }
  | _ => none }
def CostRisesWrongFalsely : Prop := costRisesRow.holds Try.pinned (OpenSpec.ofChange costRisesWrong)

/-- 'cofferdamlaw10.CostKnown': WHATEVER THE INPUT: true; the input reads as it did. -/
def costKnownSpec : ChangeSpec := { name := "costKnown", fn := fun _ => fun
  | [] => { results := [.lit (.bool true)], args := [] }
  | _ => none }
def costKnownRow : OpenClaim := { program := "ytpodcbaechlejaa", sum := "a5aa17ec5f44f7a79e21235e4f50637d60bbb92ce8617b7073776923d91f92e6", func := "cofferdam/cofferdamlaw10.CostKnown", spec := "costKnown", unfollowed := true, recurses := true, apart := false }
def CostKnownSaid : Prop := costKnownRow.holds Try.pinned (OpenSpec.ofChange costKnownSpec)

/-- ITS FALSE NEIGHBOUR: 'it returns false'. Refute it at one input. -/
def costKnownWrong : ChangeSpec := { name := "costKnown", fn := fun _ => fun
  | [] => { results := [.lit (.bool false)], args := [] }
  | _ => none }
def CostKnownWrongFalsely : Prop := costKnownRow.holds Try.pinned (OpenSpec.ofChange costKnownWrong)

/- THE SECOND FORM. 'bulk': how many values and letters a reading holds, each counted each time it is reached (what is shared counts as often as it is met; a slice's spare places count too). A statement '..UptoSaid' is the law's where the arguments, and the package variables that the reading takes, are together of bulk at most 1048576: NARROWER than '..Said'. Prove '..Said' where nothing that the law and all that it calls make is longer than what came in: it says more and counts as full. Else prove '..UptoSaid'. A law counts once. -/
mutual
def uptoBulk {H : Type} : DataW H → Nat
  | .lit (.string bytes) => bytes.length + 1
  | .lit _ => 1
  | .nil => 1
  | .ptr d => uptoBulk d + 1
  | .slice elems spare => uptoBulkAll elems + uptoBulkAll spare + 1
  | .agg parts => uptoBulkAll parts + 1
  | .iface _ d => uptoBulk d + 1
  | .map entries => uptoBulkEntries entries + 1
  | .held _ => 1
def uptoBulkAll {H : Type} : List (DataW H) → Nat
  | [] => 0
  | d :: r => uptoBulk d + uptoBulkAll r
def uptoBulkEntries {H : Type} : List (Lit × DataW H) → Nat
  | [] => 0
  | x :: r => uptoBulkEntry x + uptoBulkEntries r
def uptoBulkEntry {H : Type} : Lit × DataW H → Nat
  | (.string bytes, d) => bytes.length + uptoBulk d + 1
  | (_, d) => uptoBulk d + 1
 end
def uptoSmall : (H : Type) → List (DataW H) → Bool := fun _ ds => decide (uptoBulkAll ds ≤ 1048576)
def OpenSpec.upto (s : _root_.Go.ChangeSpec) : _root_.Go.OpenSpec := { _root_.Go.OpenSpec.ofChange s with cond := some uptoSmall }

/-- 'cofferdamlaw10.CostTouches', WHERE WHAT IT READS IS OF BULK AT MOST 1048576: true; the input reads as it did. -/
def costTouchesUptoRow : OpenClaim := { program := "ytpodcbaechlejaa", sum := "a5aa17ec5f44f7a79e21235e4f50637d60bbb92ce8617b7073776923d91f92e6", func := "cofferdam/cofferdamlaw10.CostTouches", spec := "costTouches", unfollowed := true, recurses := true, apart := false, narrowed := true }
def CostTouchesUptoSaid : Prop := costTouchesUptoRow.holds Try.pinned (OpenSpec.upto costTouchesSpec)

/-- 'cofferdamlaw10.CostScales', WHERE WHAT IT READS IS OF BULK AT MOST 1048576: true; the input reads as it did. -/
def costScalesUptoRow : OpenClaim := { program := "ytpodcbaechlejaa", sum := "a5aa17ec5f44f7a79e21235e4f50637d60bbb92ce8617b7073776923d91f92e6", func := "cofferdam/cofferdamlaw10.CostScales", spec := "costScales", unfollowed := true, recurses := true, apart := false, narrowed := true }
def CostScalesUptoSaid : Prop := costScalesUptoRow.holds Try.pinned (OpenSpec.upto costScalesSpec)

/-- 'cofferdamlaw10.CostWorst', WHERE WHAT IT READS IS OF BULK AT MOST 1048576: true; the input reads as it did. -/
def costWorstUptoRow : OpenClaim := { program := "ytpodcbaechlejaa", sum := "a5aa17ec5f44f7a79e21235e4f50637d60bbb92ce8617b7073776923d91f92e6", func := "cofferdam/cofferdamlaw10.CostWorst", spec := "costWorst", unfollowed := true, recurses := true, apart := false, narrowed := true }
def CostWorstUptoSaid : Prop := costWorstUptoRow.holds Try.pinned (OpenSpec.upto costWorstSpec)

/-- 'cofferdamlaw10.CostRises', WHERE WHAT IT READS IS OF BULK AT MOST 1048576: true; the input reads as it did. -/
def costRisesUptoRow : OpenClaim := { program := "ytpodcbaechlejaa", sum := "a5aa17ec5f44f7a79e21235e4f50637d60bbb92ce8617b7073776923d91f92e6", func := "cofferdam/cofferdamlaw10.CostRises", spec := "costRises", unfollowed := true, recurses := true, apart := false, narrowed := true }
def CostRisesUptoSaid : Prop := costRisesUptoRow.holds Try.pinned (OpenSpec.upto costRisesSpec)

/-- 'cofferdamlaw10.CostKnown', WHERE WHAT IT READS IS OF BULK AT MOST 1048576: true; the input reads as it did. -/
def costKnownUptoRow : OpenClaim := { program := "ytpodcbaechlejaa", sum := "a5aa17ec5f44f7a79e21235e4f50637d60bbb92ce8617b7073776923d91f92e6", func := "cofferdam/cofferdamlaw10.CostKnown", spec := "costKnown", unfollowed := true, recurses := true, apart := false, narrowed := true }
def CostKnownUptoSaid : Prop := costKnownUptoRow.holds Try.pinned (OpenSpec.upto costKnownSpec)

end Rows
end Go.Proofs.Ytpodcbaechlejaa
