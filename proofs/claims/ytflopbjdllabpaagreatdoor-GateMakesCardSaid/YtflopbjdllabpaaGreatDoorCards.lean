/-
  DERIVED. GIVEN WITH THE SEED: THE CARDS: each row of YtflopbjdllabpaaGreatDoorRows.lean that lists a variable, with what it lists TIED to the program's text (the seventh form; the later family's looks); each row that meets fmt, with fmt's text TOLD by the authors' own Lean function (tested against real Go, not proved from fmt's source: count such statements apart). THE CARD IS WHAT COUNTS. Prove the row's statement (the work); the ties are given (YtflopbjdllabpaaGreatDoorTie.lean); close each card by the builder's one call (the guide's Derived/Test/ToyasCard.lean, 'card_holds'). Laid BY PROGRAM, IN A SANDBOX (cutbox-door.mjs). By AI agents, Wed Nov 11 2026. No macro, syntax, notation, axiom, sorry.
-/
import Derived.Test.YtflopbjdllabpaaGreatDoorRows
import GoSem.ClaimSeven
namespace Go.Proofs.YtflopbjdllabpaaGreatDoor
namespace Rows

/-- THE TIED CARD OF 'signalboxlaw.GateMakes'. -/
def gateMakesCard : Claim7 := { stood := { row := gateMakesRow, standIns := [], harness := (true, "a3152dc0120318e697abad7d38c37a6010a7da447f64f14a005d36882d44c56f"), looks := true }, kinds := [], alts := [], laidByText := true, laidKinds := [.data, .handle, .data, .pinned], laidTests := true, laidLooks := .later }
def GateMakesCardSaid : Prop := Claim7.holds Tryz.pinned (.plain (OpenSpec.ofChange gateMakesSpec)) gateMakesCard

/-- THE SECOND FORM's CARD OF 'signalboxlaw.GateMakes'. -/
def gateMakesUptoCard : Claim7 := { stood := { row := gateMakesUptoRow, standIns := [], harness := (true, "a3152dc0120318e697abad7d38c37a6010a7da447f64f14a005d36882d44c56f"), looks := true }, kinds := [], alts := [], laidByText := true, laidKinds := [.data, .handle, .data, .pinned], laidTests := true, laidLooks := .later }
def GateMakesUptoCardSaid : Prop := Claim7.holds Tryz.pinned (.plain (OpenSpec.upto gateMakesSpec)) gateMakesUptoCard
end Rows
end Go.Proofs.YtflopbjdllabpaaGreatDoor
