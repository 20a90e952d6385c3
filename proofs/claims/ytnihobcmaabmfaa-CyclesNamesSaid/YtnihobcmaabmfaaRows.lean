/-
  No cell of these rows narrows 'for every input' (looked for: loops, veiled, ifaces, maps, wideKeys, modest, calm, conditions, laid).
  DERIVED. THE GIVEN ROWS OF THIS SEAT. 4 by the template 'for every input the law returns true; each argument reads behind the call as it read before'; 0 by the template 'total and deterministic' (their statements: YtnihobcmaabmfaaTotals.lean).
  GIVEN WITH THE SEED: the statements are not yours to turn. If you find one false, say at which input.
  Laid BY PROGRAM, IN A SANDBOX (cutbox-rows.mjs): the forced cells as the released guide's own fill.sh prints them over the translation dc061b43e648e6b0… (all of the seat's roots in one cut). By AI agents, Wed Nov 11 2026. No macro, syntax, notation, axiom, sorry.
-/
import Derived.Test.YtnihobcmaabmfaaChecked
import GoSem.Claim
import GoSem.ClaimJoined
import GoSem.ClaimMapViews
import Derived.JoinedTies
import Derived.KernelRfl
namespace Go.Proofs.Ytnihobcmaabmfaa
/- THE CELL 'sum', in the pinned program and in every row, IS THE sha256 OF THE DUMP (.gsa) THAT YtnihobcmaabmfaaProg.lean LOADS. Nothing in Lean hashes anything: it is a label: what it is worth is what the hold of that sum in a sandbox is worth. -/
noncomputable def Try.pinned : Pinned := { name := "ytnihobcmaabmfaa", sum := "dc061b43e648e6b000a182fae362c5af37590191f009367c959824f8a9123bd8", checked := Try.checked }
namespace Rows
def none {H : Type} : Left H := { results := [], args := [] }

/-- 'cofferdamlaw05.CyclesPlays': WHATEVER THE INPUT: true; the input reads as it did. -/
def cyclesPlaysSpec : ChangeSpec := { name := "cyclesPlays", fn := fun _ => fun
  | [d1, d2] => { results := [.lit (.bool true)], args := [d1, d2] }
  | _ => none }
def cyclesPlaysRow : OpenClaim := { program := "ytnihobcmaabmfaa", sum := "dc061b43e648e6b000a182fae362c5af37590191f009367c959824f8a9123bd8", func := "cofferdam/cofferdamlaw05.CyclesPlays", spec := "cyclesPlays", apart := false }
def CyclesPlaysSaid : Prop := cyclesPlaysRow.holds Try.pinned (OpenSpec.ofChange cyclesPlaysSpec)

/-- ITS FALSE NEIGHBOUR: 'it returns false'. Refute it at one input. -/
def cyclesPlaysWrong : ChangeSpec := { name := "cyclesPlays", fn := fun _ => fun
  | [d1, d2] => { results := [.lit (.bool false)], args := [d1, d2] }
  | _ => none }
def CyclesPlaysWrongFalsely : Prop := cyclesPlaysRow.holds Try.pinned (OpenSpec.ofChange cyclesPlaysWrong)

/-- 'cofferdamlaw05.CyclesFixed': WHATEVER THE INPUT: true; the input reads as it did. -/
def cyclesFixedSpec : ChangeSpec := { name := "cyclesFixed", fn := fun _ => fun
  | [d1, d2, d3] => { results := [.lit (.bool true)], args := [d1, d2, d3] }
  | _ => none }
def cyclesFixedRow : OpenClaim := { program := "ytnihobcmaabmfaa", sum := "dc061b43e648e6b000a182fae362c5af37590191f009367c959824f8a9123bd8", func := "cofferdam/cofferdamlaw05.CyclesFixed", spec := "cyclesFixed", apart := false }
def CyclesFixedSaid : Prop := cyclesFixedRow.holds Try.pinned (OpenSpec.ofChange cyclesFixedSpec)

/-- ITS FALSE NEIGHBOUR: 'it returns false'. Refute it at one input. -/
def cyclesFixedWrong : ChangeSpec := { name := "cyclesFixed", fn := fun _ => fun
  | [d1, d2, d3] => { results := [.lit (.bool false)], args := [d1, d2, d3] }
  | _ => none }
def CyclesFixedWrongFalsely : Prop := cyclesFixedRow.holds Try.pinned (OpenSpec.ofChange cyclesFixedWrong)

/-- 'cofferdamlaw05.CyclesBegins': WHATEVER THE INPUT: true; the input reads as it did. -/
def cyclesBeginsSpec : ChangeSpec := { name := "cyclesBegins", fn := fun _ => fun
  | [d1, d2, d3] => { results := [.lit (.bool true)], args := [d1, d2, d3] }
  | _ => none }
def cyclesBeginsRow : OpenClaim := { program := "ytnihobcmaabmfaa", sum := "dc061b43e648e6b000a182fae362c5af37590191f009367c959824f8a9123bd8", func := "cofferdam/cofferdamlaw05.CyclesBegins", spec := "cyclesBegins", apart := false }
def CyclesBeginsSaid : Prop := cyclesBeginsRow.holds Try.pinned (OpenSpec.ofChange cyclesBeginsSpec)

/-- ITS FALSE NEIGHBOUR: 'it returns false'. Refute it at one input. -/
def cyclesBeginsWrong : ChangeSpec := { name := "cyclesBegins", fn := fun _ => fun
  | [d1, d2, d3] => { results := [.lit (.bool false)], args := [d1, d2, d3] }
  | _ => none }
def CyclesBeginsWrongFalsely : Prop := cyclesBeginsRow.holds Try.pinned (OpenSpec.ofChange cyclesBeginsWrong)

/-- 'cofferdamlaw05.CyclesNames': WHATEVER THE INPUT: true; the input reads as it did. -/
def cyclesNamesSpec : ChangeSpec := { name := "cyclesNames", fn := fun _ => fun
  | [] => { results := [.lit (.bool true)], args := [] }
  | _ => none }
def cyclesNamesRow : OpenClaim := { program := "ytnihobcmaabmfaa", sum := "dc061b43e648e6b000a182fae362c5af37590191f009367c959824f8a9123bd8", func := "cofferdam/cofferdamlaw05.CyclesNames", spec := "cyclesNames", apart := false }
def CyclesNamesSaid : Prop := cyclesNamesRow.holds Try.pinned (OpenSpec.ofChange cyclesNamesSpec)

/-- ITS FALSE NEIGHBOUR: 'it returns false'. Refute it at one input. -/
def cyclesNamesWrong : ChangeSpec := { name := "cyclesNames", fn := fun _ => fun
  | [] => { results := [.lit (.bool false)], args := [] }
  | _ => none }
def CyclesNamesWrongFalsely : Prop := cyclesNamesRow.holds Try.pinned (OpenSpec.ofChange cyclesNamesWrong)

/- THE SECOND FORM. 'bulk': how many values and letters a reading holds, each counted each time it is reached (what is shared counts as often as it is met; a slice's spare places count too). A statement '..UptoSaid' is the law's where the arguments, and the package variables that the reading takes, are together of bulk at most 1048576: NARROWER than '..Said'. Prove '..Said' where nothing that the law and all that it calls make is longer than what came in: it says more and counts as full. Else prove '..UptoSaid'. A law counts once. -/
mutual
def uptoBulk {H : Type} : DataW H → Nat
  | .lit (.string bytes) => bytes.length + 1
  | .lit _ => 1
  | .nil => 1
  | .ptr d => uptoBulk d + 1
  | .slice elems spare => uptoBulkAll elems + uptoBulkAll spare + 1
  | .agg parts => uptoBulkAll parts + 1
  | .iface _ d => uptoBulk d + 1
  | .map entries => uptoBulkEntries entries + 1
  | .held _ => 1
def uptoBulkAll {H : Type} : List (DataW H) → Nat
  | [] => 0
  | d :: r => uptoBulk d + uptoBulkAll r
def uptoBulkEntries {H : Type} : List (Lit × DataW H) → Nat
  | [] => 0
  | x :: r => uptoBulkEntry x + uptoBulkEntries r
def uptoBulkEntry {H : Type} : Lit × DataW H → Nat
  | (.string bytes, d) => bytes.length + uptoBulk d + 1
  | (_, d) => uptoBulk d + 1
 end
def uptoSmall : (H : Type) → List (DataW H) → Bool := fun _ ds => decide (uptoBulkAll ds ≤ 1048576)
def OpenSpec.upto (s : _root_.Go.ChangeSpec) : _root_.Go.OpenSpec := { _root_.Go.OpenSpec.ofChange s with cond := some uptoSmall }

/-- 'cofferdamlaw05.CyclesPlays', WHERE WHAT IT READS IS OF BULK AT MOST 1048576: true; the input reads as it did. -/
def cyclesPlaysUptoRow : OpenClaim := { program := "ytnihobcmaabmfaa", sum := "dc061b43e648e6b000a182fae362c5af37590191f009367c959824f8a9123bd8", func := "cofferdam/cofferdamlaw05.CyclesPlays", spec := "cyclesPlays", apart := false, narrowed := true }
def CyclesPlaysUptoSaid : Prop := cyclesPlaysUptoRow.holds Try.pinned (OpenSpec.upto cyclesPlaysSpec)

/-- 'cofferdamlaw05.CyclesFixed', WHERE WHAT IT READS IS OF BULK AT MOST 1048576: true; the input reads as it did. -/
def cyclesFixedUptoRow : OpenClaim := { program := "ytnihobcmaabmfaa", sum := "dc061b43e648e6b000a182fae362c5af37590191f009367c959824f8a9123bd8", func := "cofferdam/cofferdamlaw05.CyclesFixed", spec := "cyclesFixed", apart := false, narrowed := true }
def CyclesFixedUptoSaid : Prop := cyclesFixedUptoRow.holds Try.pinned (OpenSpec.upto cyclesFixedSpec)

/-- 'cofferdamlaw05.CyclesBegins', WHERE WHAT IT READS IS OF BULK AT MOST 1048576: true; the input reads as it did. -/
def cyclesBeginsUptoRow : OpenClaim := { program := "ytnihobcmaabmfaa", sum := "dc061b43e648e6b000a182fae362c5af37590191f009367c959824f8a9123bd8", func := "cofferdam/cofferdamlaw05.CyclesBegins", spec := "cyclesBegins", apart := false, narrowed := true }
def CyclesBeginsUptoSaid : Prop := cyclesBeginsUptoRow.holds Try.pinned (OpenSpec.upto cyclesBeginsSpec)

/-- 'cofferdamlaw05.CyclesNames', WHERE WHAT IT READS IS OF BULK AT MOST 1048576: true; the input reads as it did. -/
def cyclesNamesUptoRow : OpenClaim := { program := "ytnihobcmaabmfaa", sum := "dc061b43e648e6b000a182fae362c5af37590191f009367c959824f8a9123bd8", func := "cofferdam/cofferdamlaw05.CyclesNames", spec := "cyclesNames", apart := false, narrowed := true }
def CyclesNamesUptoSaid : Prop := cyclesNamesUptoRow.holds Try.pinned (OpenSpec.upto cyclesNamesSpec)

end Rows
end Go.Proofs.Ytnihobcmaabmfaa
