/-
  DERIVED. GIVEN WITH THE SEED: THE CARDS: each row of YtlfgkdgjekbkgaaDoorRows.lean that lists a variable, with what it lists TIED to the program's text (the seventh form; the later family's looks); each row that meets fmt, with fmt's text TOLD by the authors' own Lean function (tested against real Go, not proved from fmt's source: count such statements apart). THE CARD IS WHAT COUNTS. Prove the row's statement (the work); the ties are given (YtlfgkdgjekbkgaaDoorTie.lean); close each card by the builder's one call (the guide's Derived/Test/ToyasCard.lean, 'card_holds'). Laid BY PROGRAM, IN A SANDBOX (cutbox-door.mjs). By AI agents, Wed Nov 11 2026. No macro, syntax, notation, axiom, sorry.
-/
import Derived.Test.YtlfgkdgjekbkgaaDoorRows
import GoSem.ClaimSeven
namespace Go.Proofs.YtlfgkdgjekbkgaaDoor
namespace Rows

/-- THE TIED CARD OF 'cofferdamlaw18.SlotsPlays'. -/
def slotsPlaysCard : Claim7 := { stood := { row := slotsPlaysRow, standIns := [], harness := (true, "ed2acfbc4a613547894d226a70c244ee559b6a6c958f3b34b3795d1459b884f0"), looks := false }, kinds := [], alts := [], laidByText := true, laidKinds := [.data], laidTests := true, laidLooks := .later }
def SlotsPlaysCardSaid : Prop := Claim7.holds Tryd.pinned (.plain (OpenSpec.ofChange slotsPlaysSpec)) slotsPlaysCard

/-- THE TIED CARD OF 'cofferdamlaw18.SlotsOnce'. -/
def slotsOnceCard : Claim7 := { stood := { row := slotsOnceRow, standIns := [], harness := (true, "ed2acfbc4a613547894d226a70c244ee559b6a6c958f3b34b3795d1459b884f0"), looks := false }, kinds := [], alts := [], laidByText := true, laidKinds := [.data], laidTests := true, laidLooks := .later }
def SlotsOnceCardSaid : Prop := Claim7.holds Tryd.pinned (.plain (OpenSpec.ofChange slotsOnceSpec)) slotsOnceCard

/-- THE TIED CARD OF 'cofferdamlaw18.SlotsKnown'. -/
def slotsKnownCard : Claim7 := { stood := { row := slotsKnownRow, standIns := [], harness := (true, "ed2acfbc4a613547894d226a70c244ee559b6a6c958f3b34b3795d1459b884f0"), looks := false }, kinds := [], alts := [], laidByText := true, laidKinds := [.data], laidTests := true, laidLooks := .later }
def SlotsKnownCardSaid : Prop := Claim7.holds Tryd.pinned (.plain (OpenSpec.ofChange slotsKnownSpec)) slotsKnownCard

/-- THE SECOND FORM's CARD OF 'cofferdamlaw18.SlotsPlays'. -/
def slotsPlaysUptoCard : Claim7 := { stood := { row := slotsPlaysUptoRow, standIns := [], harness := (true, "ed2acfbc4a613547894d226a70c244ee559b6a6c958f3b34b3795d1459b884f0"), looks := false }, kinds := [], alts := [], laidByText := true, laidKinds := [.data], laidTests := true, laidLooks := .later }
def SlotsPlaysUptoCardSaid : Prop := Claim7.holds Tryd.pinned (.plain (OpenSpec.upto slotsPlaysSpec)) slotsPlaysUptoCard

/-- THE SECOND FORM's CARD OF 'cofferdamlaw18.SlotsOnce'. -/
def slotsOnceUptoCard : Claim7 := { stood := { row := slotsOnceUptoRow, standIns := [], harness := (true, "ed2acfbc4a613547894d226a70c244ee559b6a6c958f3b34b3795d1459b884f0"), looks := false }, kinds := [], alts := [], laidByText := true, laidKinds := [.data], laidTests := true, laidLooks := .later }
def SlotsOnceUptoCardSaid : Prop := Claim7.holds Tryd.pinned (.plain (OpenSpec.upto slotsOnceSpec)) slotsOnceUptoCard

/-- THE SECOND FORM's CARD OF 'cofferdamlaw18.SlotsKnown'. -/
def slotsKnownUptoCard : Claim7 := { stood := { row := slotsKnownUptoRow, standIns := [], harness := (true, "ed2acfbc4a613547894d226a70c244ee559b6a6c958f3b34b3795d1459b884f0"), looks := false }, kinds := [], alts := [], laidByText := true, laidKinds := [.data], laidTests := true, laidLooks := .later }
def SlotsKnownUptoCardSaid : Prop := Claim7.holds Tryd.pinned (.plain (OpenSpec.upto slotsKnownSpec)) slotsKnownUptoCard
end Rows
end Go.Proofs.YtlfgkdgjekbkgaaDoor
