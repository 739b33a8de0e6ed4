/-
  DERIVED. GIVEN WITH THE SEED: THE CARDS: each row of YthjggpnmhddglaaGreatDoorRows.lean that lists a variable, with what it lists TIED to the program's text (the seventh form; the later family's looks); each row that meets fmt, with fmt's text TOLD by the authors' own Lean function (tested against real Go, not proved from fmt's source: count such statements apart). THE CARD IS WHAT COUNTS. Prove the row's statement (the work); the ties are given (YthjggpnmhddglaaGreatDoorTie.lean); close each card by the builder's one call (the guide's Derived/Test/ToyasCard.lean, 'card_holds'). Laid BY PROGRAM, IN A SANDBOX (cutbox-door.mjs). By AI agents, Wed Nov 11 2026. No macro, syntax, notation, axiom, sorry.
-/
import Derived.Test.YthjggpnmhddglaaGreatDoorRows
import GoSem.ClaimSeven
namespace Go.Proofs.YthjggpnmhddglaaGreatDoor
namespace Rows

/-- THE TIED CARD OF 'signalboxlaw.GateSames'. -/
def gateSamesCard : Claim7 := { stood := { row := gateSamesRow, standIns := [], harness := (true, "418d77bc255588876d098afa852a6bd8c4deb1b9ad864c8004077c7cde41e207"), looks := true }, kinds := [], alts := [], laidByText := true, laidKinds := [.data, .handle, .data, .pinned], laidTests := true, laidLooks := .later }
def GateSamesCardSaid : Prop := Claim7.holds Tryz.pinned (.plain (OpenSpec.ofChange gateSamesSpec)) gateSamesCard

/-- THE SECOND FORM's CARD OF 'signalboxlaw.GateSames'. -/
def gateSamesUptoCard : Claim7 := { stood := { row := gateSamesUptoRow, standIns := [], harness := (true, "418d77bc255588876d098afa852a6bd8c4deb1b9ad864c8004077c7cde41e207"), looks := true }, kinds := [], alts := [], laidByText := true, laidKinds := [.data, .handle, .data, .pinned], laidTests := true, laidLooks := .later }
def GateSamesUptoCardSaid : Prop := Claim7.holds Tryz.pinned (.plain (OpenSpec.upto gateSamesSpec)) gateSamesUptoCard
end Rows
end Go.Proofs.YthjggpnmhddglaaGreatDoor
