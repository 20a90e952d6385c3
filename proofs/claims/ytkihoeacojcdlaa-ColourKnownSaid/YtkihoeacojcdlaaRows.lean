/-
  No cell of these rows narrows 'for every input' (looked for: loops, veiled, ifaces, maps, wideKeys, modest, calm, conditions, laid).
  DERIVED. THE GIVEN ROWS OF THIS SEAT. 6 by the template 'for every input the law returns true; each argument reads behind the call as it read before'; 0 by the template 'total and deterministic' (their statements: YtkihoeacojcdlaaTotals.lean).
  GIVEN WITH THE SEED: the statements are not yours to turn. If you find one false, say at which input.
  Laid BY PROGRAM, IN A SANDBOX (cutbox-rows.mjs): the forced cells as the released guide's own fill.sh prints them over the translation 960fe674f2ec9b1a… (all of the seat's roots in one cut). By AI agents, Wed Nov 11 2026. No macro, syntax, notation, axiom, sorry.
-/
import Derived.Test.YtkihoeacojcdlaaChecked
import GoSem.Claim
import GoSem.ClaimJoined
import GoSem.ClaimMapViews
import Derived.JoinedTies
import Derived.KernelRfl
namespace Go.Proofs.Ytkihoeacojcdlaa
/- THE CELL 'sum', in the pinned program and in every row, IS THE sha256 OF THE DUMP (.gsa) THAT YtkihoeacojcdlaaProg.lean LOADS. Nothing in Lean hashes anything: it is a label: what it is worth is what the hold of that sum in a sandbox is worth. -/
noncomputable def Try.pinned : Pinned := { name := "ytkihoeacojcdlaa", sum := "960fe674f2ec9b1a69a8d7141553e4ca4f10cab32c586d4040205e6343a92f33", checked := Try.checked }
namespace Rows
def none {H : Type} : Left H := { results := [], args := [] }

/-- 'cofferdamlaw08.ColourSets': WHATEVER THE INPUT: true; the input reads as it did. -/
def colourSetsSpec : ChangeSpec := { name := "colourSets", fn := fun _ => fun
  | [d1, d2, d3] => { results := [.lit (.bool true)], args := [d1, d2, d3] }
  | _ => none }
def colourSetsRow : OpenClaim := { program := "ytkihoeacojcdlaa", sum := "960fe674f2ec9b1a69a8d7141553e4ca4f10cab32c586d4040205e6343a92f33", func := "cofferdam/cofferdamlaw08.ColourSets", spec := "colourSets", apart := false }
def ColourSetsSaid : Prop := colourSetsRow.holds Try.pinned (OpenSpec.ofChange colourSetsSpec)

/-- ITS FALSE NEIGHBOUR: 'it returns false'. Refute it at one input. -/
def colourSetsWrong : ChangeSpec := { name := "colourSets", fn := fun _ => fun
  | [d1, d2, d3] => { results := [.lit (.bool false)], args := [d1, d2, d3] }
  | _ => none }
def ColourSetsWrongFalsely : Prop := colourSetsRow.holds Try.pinned (OpenSpec.ofChange colourSetsWrong)

/-- 'cofferdamlaw08.ColourOf': WHATEVER THE INPUT: true; the input reads as it did. -/
def colourOfSpec : ChangeSpec := { name := "colourOf", fn := fun _ => fun
  | [d1, d2, d3] => { results := [.lit (.bool true)], args := [d1, d2, d3] }
  | _ => none }
def colourOfRow : OpenClaim := { program := "ytkihoeacojcdlaa", sum := "960fe674f2ec9b1a69a8d7141553e4ca4f10cab32c586d4040205e6343a92f33", func := "cofferdam/cofferdamlaw08.ColourOf", spec := "colourOf", apart := false }
def ColourOfSaid : Prop := colourOfRow.holds Try.pinned (OpenSpec.ofChange colourOfSpec)

/-- ITS FALSE NEIGHBOUR: 'it returns false'. Refute it at one input. -/
def colourOfWrong : ChangeSpec := { name := "colourOf", fn := fun _ => fun
  | [d1, d2, d3] => { results := [.lit (.bool false)], args := [d1, d2, d3] }
  | _ => none }
def ColourOfWrongFalsely : Prop := colourOfRow.holds Try.pinned (OpenSpec.ofChange colourOfWrong)

/-- 'cofferdamlaw08.ColourFrames': WHATEVER THE INPUT: true; the input reads as it did. -/
def colourFramesSpec : ChangeSpec := { name := "colourFrames", fn := fun _ => fun
  | [d1, d2, d3] => { results := [.lit (.bool true)], args := [d1, d2, d3] }
  | _ => none }
def colourFramesRow : OpenClaim := { program := "ytkihoeacojcdlaa", sum := "960fe674f2ec9b1a69a8d7141553e4ca4f10cab32c586d4040205e6343a92f33", func := "cofferdam/cofferdamlaw08.ColourFrames", spec := "colourFrames", apart := false }
def ColourFramesSaid : Prop := colourFramesRow.holds Try.pinned (OpenSpec.ofChange colourFramesSpec)

/-- ITS FALSE NEIGHBOUR: 'it returns false'. Refute it at one input. -/
def colourFramesWrong : ChangeSpec := { name := "colourFrames", fn := fun _ => fun
  | [d1, d2, d3] => { results := [.lit (.bool false)], args := [d1, d2, d3] }
  | _ => none }
def ColourFramesWrongFalsely : Prop := colourFramesRow.holds Try.pinned (OpenSpec.ofChange colourFramesWrong)

/-- 'cofferdamlaw08.ColourLines': WHATEVER THE INPUT: true; the input reads as it did. -/
def colourLinesSpec : ChangeSpec := { name := "colourLines", fn := fun _ => fun
  | [d1, d2, d3] => { results := [.lit (.bool true)], args := [d1, d2, d3] }
  | _ => none }
def colourLinesRow : OpenClaim := { program := "ytkihoeacojcdlaa", sum := "960fe674f2ec9b1a69a8d7141553e4ca4f10cab32c586d4040205e6343a92f33", func := "cofferdam/cofferdamlaw08.ColourLines", spec := "colourLines", apart := false }
def ColourLinesSaid : Prop := colourLinesRow.holds Try.pinned (OpenSpec.ofChange colourLinesSpec)

/-- ITS FALSE NEIGHBOUR: 'it returns false'. Refute it at one input. -/
def colourLinesWrong : ChangeSpec := { name := "colourLines", fn := fun _ => fun
  | [d1, d2, d3] => { results := [.lit (.bool false)], args := [d1, d2, d3] }
  | _ => none }
def ColourLinesWrongFalsely : Prop := colourLinesRow.holds Try.pinned (OpenSpec.ofChange colourLinesWrong)

/-- 'cofferdamlaw08.ColourSums': WHATEVER THE INPUT: true; the input reads as it did. -/
def colourSumsSpec : ChangeSpec := { name := "colourSums", fn := fun _ => fun
  | [d1, d2, d3] => { results := [.lit (.bool true)], args := [d1, d2, d3] }
  | _ => none }
def colourSumsRow : OpenClaim := { program := "ytkihoeacojcdlaa", sum := "960fe674f2ec9b1a69a8d7141553e4ca4f10cab32c586d4040205e6343a92f33", func := "cofferdam/cofferdamlaw08.ColourSums", spec := "colourSums", apart := false }
def ColourSumsSaid : Prop := colourSumsRow.holds Try.pinned (OpenSpec.ofChange colourSumsSpec)

/-- ITS FALSE NEIGHBOUR: 'it returns false'. Refute it at one input. -/
def colourSumsWrong : ChangeSpec := { name := "colourSums", fn := fun _ => fun
  | [d1, d2, d3] => { results := [.lit (.bool false)], args := [d1, d2, d3] }
  | _ => none }
def ColourSumsWrongFalsely : Prop := colourSumsRow.holds Try.pinned (OpenSpec.ofChange colourSumsWrong)

/-- 'cofferdamlaw08.ColourKnown': WHATEVER THE INPUT: true; the input reads as it did. -/
def colourKnownSpec : ChangeSpec := { name := "colourKnown", fn := fun _ => fun
  | [] => { results := [.lit (.bool true)], args := [] }
  | _ => none }
def colourKnownRow : OpenClaim := { program := "ytkihoeacojcdlaa", sum := "960fe674f2ec9b1a69a8d7141553e4ca4f10cab32c586d4040205e6343a92f33", func := "cofferdam/cofferdamlaw08.ColourKnown", spec := "colourKnown", apart := false }
def ColourKnownSaid : Prop := colourKnownRow.holds Try.pinned (OpenSpec.ofChange colourKnownSpec)

/-- ITS FALSE NEIGHBOUR: 'it returns false'. Refute it at one input. -/
def colourKnownWrong : ChangeSpec := { name := "colourKnown", fn := fun _ => fun
  | [] => { results := [.lit (.bool false)], args := [] }
  | _ => none }
def ColourKnownWrongFalsely : Prop := colourKnownRow.holds Try.pinned (OpenSpec.ofChange colourKnownWrong)

/- THE SECOND FORM. 'bulk': how many values and letters a reading holds, each counted each time it is reached (what is shared counts as often as it is met; a slice's spare places count too). A statement '..UptoSaid' is the law's where the arguments, and the package variables that the reading takes, are together of bulk at most 1048576: NARROWER than '..Said'. Prove '..Said' where nothing that the law and all that it calls make is longer than what came in: it says more and counts as full. Else prove '..UptoSaid'. A law counts once. -/
mutual
def uptoBulk {H : Type} : DataW H → Nat
  | .lit (.string bytes) => bytes.length + 1
  | .lit _ => 1
  | .nil => 1
  | .ptr d => uptoBulk d + 1
  | .slice elems spare => uptoBulkAll elems + uptoBulkAll spare + 1
  | .agg parts => uptoBulkAll parts + 1
  | .iface _ d => uptoBulk d + 1
  | .map entries => uptoBulkEntries entries + 1
  | .held _ => 1
def uptoBulkAll {H : Type} : List (DataW H) → Nat
  | [] => 0
  | d :: r => uptoBulk d + uptoBulkAll r
def uptoBulkEntries {H : Type} : List (Lit × DataW H) → Nat
  | [] => 0
  | x :: r => uptoBulkEntry x + uptoBulkEntries r
def uptoBulkEntry {H : Type} : Lit × DataW H → Nat
  | (.string bytes, d) => bytes.length + uptoBulk d + 1
  | (_, d) => uptoBulk d + 1
 end
def uptoSmall : (H : Type) → List (DataW H) → Bool := fun _ ds => decide (uptoBulkAll ds ≤ 1048576)
def OpenSpec.upto (s : _root_.Go.ChangeSpec) : _root_.Go.OpenSpec := { _root_.Go.OpenSpec.ofChange s with cond := some uptoSmall }

/-- 'cofferdamlaw08.ColourSets', WHERE WHAT IT READS IS OF BULK AT MOST 1048576: true; the input reads as it did. -/
def colourSetsUptoRow : OpenClaim := { program := "ytkihoeacojcdlaa", sum := "960fe674f2ec9b1a69a8d7141553e4ca4f10cab32c586d4040205e6343a92f33", func := "cofferdam/cofferdamlaw08.ColourSets", spec := "colourSets", apart := false, narrowed := true }
def ColourSetsUptoSaid : Prop := colourSetsUptoRow.holds Try.pinned (OpenSpec.upto colourSetsSpec)

/-- 'cofferdamlaw08.ColourOf', WHERE WHAT IT READS IS OF BULK AT MOST 1048576: true; the input reads as it did. -/
def colourOfUptoRow : OpenClaim := { program := "ytkihoeacojcdlaa", sum := "960fe674f2ec9b1a69a8d7141553e4ca4f10cab32c586d4040205e6343a92f33", func := "cofferdam/cofferdamlaw08.ColourOf", spec := "colourOf", apart := false, narrowed := true }
def ColourOfUptoSaid : Prop := colourOfUptoRow.holds Try.pinned (OpenSpec.upto colourOfSpec)

/-- 'cofferdamlaw08.ColourFrames', WHERE WHAT IT READS IS OF BULK AT MOST 1048576: true; the input reads as it did. -/
def colourFramesUptoRow : OpenClaim := { program := "ytkihoeacojcdlaa", sum := "960fe674f2ec9b1a69a8d7141553e4ca4f10cab32c586d4040205e6343a92f33", func := "cofferdam/cofferdamlaw08.ColourFrames", spec := "colourFrames", apart := false, narrowed := true }
def ColourFramesUptoSaid : Prop := colourFramesUptoRow.holds Try.pinned (OpenSpec.upto colourFramesSpec)

/-- 'cofferdamlaw08.ColourLines', WHERE WHAT IT READS IS OF BULK AT MOST 1048576: true; the input reads as it did. -/
def colourLinesUptoRow : OpenClaim := { program := "ytkihoeacojcdlaa", sum := "960fe674f2ec9b1a69a8d7141553e4ca4f10cab32c586d4040205e6343a92f33", func := "cofferdam/cofferdamlaw08.ColourLines", spec := "colourLines", apart := false, narrowed := true }
def ColourLinesUptoSaid : Prop := colourLinesUptoRow.holds Try.pinned (OpenSpec.upto colourLinesSpec)

/-- 'cofferdamlaw08.ColourSums', WHERE WHAT IT READS IS OF BULK AT MOST 1048576: true; the input reads as it did. -/
def colourSumsUptoRow : OpenClaim := { program := "ytkihoeacojcdlaa", sum := "960fe674f2ec9b1a69a8d7141553e4ca4f10cab32c586d4040205e6343a92f33", func := "cofferdam/cofferdamlaw08.ColourSums", spec := "colourSums", apart := false, narrowed := true }
def ColourSumsUptoSaid : Prop := colourSumsUptoRow.holds Try.pinned (OpenSpec.upto colourSumsSpec)

/-- 'cofferdamlaw08.ColourKnown', WHERE WHAT IT READS IS OF BULK AT MOST 1048576: true; the input reads as it did. -/
def colourKnownUptoRow : OpenClaim := { program := "ytkihoeacojcdlaa", sum := "960fe674f2ec9b1a69a8d7141553e4ca4f10cab32c586d4040205e6343a92f33", func := "cofferdam/cofferdamlaw08.ColourKnown", spec := "colourKnown", apart := false, narrowed := true }
def ColourKnownUptoSaid : Prop := colourKnownUptoRow.holds Try.pinned (OpenSpec.upto colourKnownSpec)

end Rows
end Go.Proofs.Ytkihoeacojcdlaa
