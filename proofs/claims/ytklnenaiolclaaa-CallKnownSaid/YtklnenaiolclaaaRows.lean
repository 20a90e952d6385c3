/-
  No cell of these rows narrows 'for every input' (looked for: loops, veiled, ifaces, maps, wideKeys, modest, calm, conditions, laid).
  DERIVED. THE GIVEN ROWS OF THIS SEAT. 6 by the template 'for every input the law returns true; each argument reads behind the call as it read before'; 0 by the template 'total and deterministic' (their statements: YtklnenaiolclaaaTotals.lean).
  GIVEN WITH THE SEED: the statements are not yours to turn. If you find one false, say at which input.
  Laid BY PROGRAM, IN A SANDBOX (cutbox-rows.mjs): the forced cells as the released guide's own fill.sh prints them over the translation c32ce6a5343f3e90… (all of the seat's roots in one cut). By AI agents, Wed Nov 11 2026. No macro, syntax, notation, axiom, sorry.
-/
import Derived.Test.YtklnenaiolclaaaChecked
import GoSem.Claim
import GoSem.ClaimJoined
import GoSem.ClaimMapViews
import Derived.JoinedTies
import Derived.KernelRfl
namespace Go.Proofs.Ytklnenaiolclaaa
/- THE CELL 'sum', in the pinned program and in every row, IS THE sha256 OF THE DUMP (.gsa) THAT YtklnenaiolclaaaProg.lean LOADS. Nothing in Lean hashes anything: it is a label: what it is worth is what the hold of that sum in a sandbox is worth. -/
noncomputable def Try.pinned : Pinned := { name := "ytklnenaiolclaaa", sum := "c32ce6a5343f3e90af6fb8b4ab900e13d6342651492955903d3931ce5c3e41de", checked := Try.checked }
namespace Rows
def none {H : Type} : Left H := { results := [], args := [] }

/-- 'cofferdamlaw25.CallReads': WHATEVER THE INPUT: true; the input reads as it did. -/
def callReadsSpec : ChangeSpec := { name := "callReads", fn := fun _ => fun
  | [d] => { results := [.lit (.bool true)], args := [d] }
  | _ => none }
def callReadsRow : OpenClaim := { program := "ytklnenaiolclaaa", sum := "c32ce6a5343f3e90af6fb8b4ab900e13d6342651492955903d3931ce5c3e41de", func := "cofferdam/cofferdamlaw25.CallReads", spec := "callReads", apart := false }
def CallReadsSaid : Prop := callReadsRow.holds Try.pinned (OpenSpec.ofChange callReadsSpec)

/-- ITS FALSE NEIGHBOUR: 'it returns false'. Refute it at one input. -/
def callReadsWrong : ChangeSpec := { name := "callReads", fn := fun _ => fun
  | [d] => { results := [.lit (.bool false)], args := [d] }
  | _ => none }
def CallReadsWrongFalsely : Prop := callReadsRow.holds Try.pinned (OpenSpec.ofChange callReadsWrong)

/-- 'cofferdamlaw25.CallNames': WHATEVER THE INPUT: true; the input reads as it did. -/
def callNamesSpec : ChangeSpec := { name := "callNames", fn := fun _ => fun
  | [d1, d2] => { results := [.lit (.bool true)], args := [d1, d2] }
  | _ => none }
def callNamesRow : OpenClaim := { program := "ytklnenaiolclaaa", sum := "c32ce6a5343f3e90af6fb8b4ab900e13d6342651492955903d3931ce5c3e41de", func := "cofferdam/cofferdamlaw25.CallNames", spec := "callNames", apart := false }
def CallNamesSaid : Prop := callNamesRow.holds Try.pinned (OpenSpec.ofChange callNamesSpec)

/-- ITS FALSE NEIGHBOUR: 'it returns false'. Refute it at one input. -/
def callNamesWrong : ChangeSpec := { name := "callNames", fn := fun _ => fun
  | [d1, d2] => { results := [.lit (.bool false)], args := [d1, d2] }
  | _ => none }
def CallNamesWrongFalsely : Prop := callNamesRow.holds Try.pinned (OpenSpec.ofChange callNamesWrong)

/-- 'cofferdamlaw25.CallOne': WHATEVER THE INPUT: true; the input reads as it did. -/
def callOneSpec : ChangeSpec := { name := "callOne", fn := fun _ => fun
  | [d1, d2, d3] => { results := [.lit (.bool true)], args := [d1, d2, d3] }
  | _ => none }
def callOneRow : OpenClaim := { program := "ytklnenaiolclaaa", sum := "c32ce6a5343f3e90af6fb8b4ab900e13d6342651492955903d3931ce5c3e41de", func := "cofferdam/cofferdamlaw25.CallOne", spec := "callOne", apart := false }
def CallOneSaid : Prop := callOneRow.holds Try.pinned (OpenSpec.ofChange callOneSpec)

/-- ITS FALSE NEIGHBOUR: 'it returns false'. Refute it at one input. -/
def callOneWrong : ChangeSpec := { name := "callOne", fn := fun _ => fun
  | [d1, d2, d3] => { results := [.lit (.bool false)], args := [d1, d2, d3] }
  | _ => none }
def CallOneWrongFalsely : Prop := callOneRow.holds Try.pinned (OpenSpec.ofChange callOneWrong)

/-- 'cofferdamlaw25.CallWords': WHATEVER THE INPUT: true; the input reads as it did. -/
def callWordsSpec : ChangeSpec := { name := "callWords", fn := fun _ => fun
  | [d] => { results := [.lit (.bool true)], args := [d] }
  | _ => none }
def callWordsRow : OpenClaim := { program := "ytklnenaiolclaaa", sum := "c32ce6a5343f3e90af6fb8b4ab900e13d6342651492955903d3931ce5c3e41de", func := "cofferdam/cofferdamlaw25.CallWords", spec := "callWords", apart := false }
def CallWordsSaid : Prop := callWordsRow.holds Try.pinned (OpenSpec.ofChange callWordsSpec)

/-- ITS FALSE NEIGHBOUR: 'it returns false'. Refute it at one input. -/
def callWordsWrong : ChangeSpec := { name := "callWords", fn := fun _ => fun
  | [d] => { results := [.lit (.bool false)], args := [d] }
  | _ => none }
def CallWordsWrongFalsely : Prop := callWordsRow.holds Try.pinned (OpenSpec.ofChange callWordsWrong)

/-- 'cofferdamlaw25.CallBack': WHATEVER THE INPUT: true; the input reads as it did. -/
def callBackSpec : ChangeSpec := { name := "callBack", fn := fun _ => fun
  | [d1, d2, d3] => { results := [.lit (.bool true)], args := [d1, d2, d3] }
  | _ => none }
def callBackRow : OpenClaim := { program := "ytklnenaiolclaaa", sum := "c32ce6a5343f3e90af6fb8b4ab900e13d6342651492955903d3931ce5c3e41de", func := "cofferdam/cofferdamlaw25.CallBack", spec := "callBack", apart := false }
def CallBackSaid : Prop := callBackRow.holds Try.pinned (OpenSpec.ofChange callBackSpec)

/-- ITS FALSE NEIGHBOUR: 'it returns false'. Refute it at one input. -/
def callBackWrong : ChangeSpec := { name := "callBack", fn := fun _ => fun
  | [d1, d2, d3] => { results := [.lit (.bool false)], args := [d1, d2, d3] }
  | _ => none }
def CallBackWrongFalsely : Prop := callBackRow.holds Try.pinned (OpenSpec.ofChange callBackWrong)

/-- 'cofferdamlaw25.CallKnown': WHATEVER THE INPUT: true; the input reads as it did. -/
def callKnownSpec : ChangeSpec := { name := "callKnown", fn := fun _ => fun
  | [] => { results := [.lit (.bool true)], args := [] }
  | _ => none }
def callKnownRow : OpenClaim := { program := "ytklnenaiolclaaa", sum := "c32ce6a5343f3e90af6fb8b4ab900e13d6342651492955903d3931ce5c3e41de", func := "cofferdam/cofferdamlaw25.CallKnown", spec := "callKnown", apart := false }
def CallKnownSaid : Prop := callKnownRow.holds Try.pinned (OpenSpec.ofChange callKnownSpec)

/-- ITS FALSE NEIGHBOUR: 'it returns false'. Refute it at one input. -/
def callKnownWrong : ChangeSpec := { name := "callKnown", fn := fun _ => fun
  | [] => { results := [.lit (.bool false)], args := [] }
  | _ => none }
def CallKnownWrongFalsely : Prop := callKnownRow.holds Try.pinned (OpenSpec.ofChange callKnownWrong)

/- THE SECOND FORM. 'bulk': how many values and letters a reading holds, each counted each time it is reached (what is shared counts as often as it is met; a slice's spare places count too). A statement '..UptoSaid' is the law's where the arguments, and the package variables that the reading takes, are together of bulk at most 1048576: NARROWER than '..Said'. Prove '..Said' where nothing that the law and all that it calls make is longer than what came in: it says more and counts as full. Else prove '..UptoSaid'. A law counts once. -/
mutual
def uptoBulk {H : Type} : DataW H → Nat
  | .lit (.string bytes) => bytes.length + 1
  | .lit _ => 1
  | .nil => 1
  | .ptr d => uptoBulk d + 1
  | .slice elems spare => uptoBulkAll elems + uptoBulkAll spare + 1
  | .agg parts => uptoBulkAll parts + 1
  | .iface _ d => uptoBulk d + 1
  | .map entries => uptoBulkEntries entries + 1
  | .held _ => 1
def uptoBulkAll {H : Type} : List (DataW H) → Nat
  | [] => 0
  | d :: r => uptoBulk d + uptoBulkAll r
def uptoBulkEntries {H : Type} : List (Lit × DataW H) → Nat
  | [] => 0
  | x :: r => uptoBulkEntry x + uptoBulkEntries r
def uptoBulkEntry {H : Type} : Lit × DataW H → Nat
  | (.string bytes, d) => bytes.length + uptoBulk d + 1
  | (_, d) => uptoBulk d + 1
 end
def uptoSmall : (H : Type) → List (DataW H) → Bool := fun _ ds => decide (uptoBulkAll ds ≤ 1048576)
def OpenSpec.upto (s : _root_.Go.ChangeSpec) : _root_.Go.OpenSpec := { _root_.Go.OpenSpec.ofChange s with cond := some uptoSmall }

/-- 'cofferdamlaw25.CallReads', WHERE WHAT IT READS IS OF BULK AT MOST 1048576: true; the input reads as it did. -/
def callReadsUptoRow : OpenClaim := { program := "ytklnenaiolclaaa", sum := "c32ce6a5343f3e90af6fb8b4ab900e13d6342651492955903d3931ce5c3e41de", func := "cofferdam/cofferdamlaw25.CallReads", spec := "callReads", apart := false, narrowed := true }
def CallReadsUptoSaid : Prop := callReadsUptoRow.holds Try.pinned (OpenSpec.upto callReadsSpec)

/-- 'cofferdamlaw25.CallNames', WHERE WHAT IT READS IS OF BULK AT MOST 1048576: true; the input reads as it did. -/
def callNamesUptoRow : OpenClaim := { program := "ytklnenaiolclaaa", sum := "c32ce6a5343f3e90af6fb8b4ab900e13d6342651492955903d3931ce5c3e41de", func := "cofferdam/cofferdamlaw25.CallNames", spec := "callNames", apart := false, narrowed := true }
def CallNamesUptoSaid : Prop := callNamesUptoRow.holds Try.pinned (OpenSpec.upto callNamesSpec)

/-- 'cofferdamlaw25.CallOne', WHERE WHAT IT READS IS OF BULK AT MOST 1048576: true; the input reads as it did. -/
def callOneUptoRow : OpenClaim := { program := "ytklnenaiolclaaa", sum := "c32ce6a5343f3e90af6fb8b4ab900e13d6342651492955903d3931ce5c3e41de", func := "cofferdam/cofferdamlaw25.CallOne", spec := "callOne", apart := false, narrowed := true }
def CallOneUptoSaid : Prop := callOneUptoRow.holds Try.pinned (OpenSpec.upto callOneSpec)

/-- 'cofferdamlaw25.CallWords', WHERE WHAT IT READS IS OF BULK AT MOST 1048576: true; the input reads as it did. -/
def callWordsUptoRow : OpenClaim := { program := "ytklnenaiolclaaa", sum := "c32ce6a5343f3e90af6fb8b4ab900e13d6342651492955903d3931ce5c3e41de", func := "cofferdam/cofferdamlaw25.CallWords", spec := "callWords", apart := false, narrowed := true }
def CallWordsUptoSaid : Prop := callWordsUptoRow.holds Try.pinned (OpenSpec.upto callWordsSpec)

/-- 'cofferdamlaw25.CallBack', WHERE WHAT IT READS IS OF BULK AT MOST 1048576: true; the input reads as it did. -/
def callBackUptoRow : OpenClaim := { program := "ytklnenaiolclaaa", sum := "c32ce6a5343f3e90af6fb8b4ab900e13d6342651492955903d3931ce5c3e41de", func := "cofferdam/cofferdamlaw25.CallBack", spec := "callBack", apart := false, narrowed := true }
def CallBackUptoSaid : Prop := callBackUptoRow.holds Try.pinned (OpenSpec.upto callBackSpec)

/-- 'cofferdamlaw25.CallKnown', WHERE WHAT IT READS IS OF BULK AT MOST 1048576: true; the input reads as it did. -/
def callKnownUptoRow : OpenClaim := { program := "ytklnenaiolclaaa", sum := "c32ce6a5343f3e90af6fb8b4ab900e13d6342651492955903d3931ce5c3e41de", func := "cofferdam/cofferdamlaw25.CallKnown", spec := "callKnown", apart := false, narrowed := true }
def CallKnownUptoSaid : Prop := callKnownUptoRow.holds Try.pinned (OpenSpec.upto callKnownSpec)

end Rows
end Go.Proofs.Ytklnenaiolclaaa
