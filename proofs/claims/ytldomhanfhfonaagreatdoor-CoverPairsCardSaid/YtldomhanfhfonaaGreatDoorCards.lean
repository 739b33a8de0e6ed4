/-
  DERIVED. GIVEN WITH THE SEED: THE CARDS: each row of YtldomhanfhfonaaGreatDoorRows.lean that lists a variable, with what it lists TIED to the program's text (the seventh form; the later family's looks); each row that meets fmt, with fmt's text TOLD by the authors' own Lean function (tested against real Go, not proved from fmt's source: count such statements apart). THE CARD IS WHAT COUNTS. Prove the row's statement (the work); the ties are given (YtldomhanfhfonaaGreatDoorTie.lean); close each card by the builder's one call (the guide's Derived/Test/ToyasCard.lean, 'card_holds'). Laid BY PROGRAM, IN A SANDBOX (cutbox-door.mjs). By AI agents, Wed Nov 11 2026. No macro, syntax, notation, axiom, sorry.
-/
import Derived.Test.YtldomhanfhfonaaGreatDoorRows
import GoSem.ClaimSeven
namespace Go.Proofs.YtldomhanfhfonaaGreatDoor
namespace Rows

/-- THE TIED CARD OF 'signalboxlaw.CoverPairs'. -/
def coverPairsCard : Claim7 := { stood := { row := coverPairsRow, standIns := [], harness := (true, "ff42638bce05adb3327dabd49b0453187a3029d89eb2c81dcff62c6ea0918ca4"), looks := true }, kinds := [], alts := [], laidByText := true, laidKinds := [.data, .handle, .data, .pinned], laidTests := true, laidLooks := .later }
def CoverPairsCardSaid : Prop := Claim7.holds Tryz.pinned (.plain (OpenSpec.ofChange coverPairsSpec)) coverPairsCard

/-- THE SECOND FORM's CARD OF 'signalboxlaw.CoverPairs'. -/
def coverPairsUptoCard : Claim7 := { stood := { row := coverPairsUptoRow, standIns := [], harness := (true, "ff42638bce05adb3327dabd49b0453187a3029d89eb2c81dcff62c6ea0918ca4"), looks := true }, kinds := [], alts := [], laidByText := true, laidKinds := [.data, .handle, .data, .pinned], laidTests := true, laidLooks := .later }
def CoverPairsUptoCardSaid : Prop := Claim7.holds Tryz.pinned (.plain (OpenSpec.upto coverPairsSpec)) coverPairsUptoCard
end Rows
end Go.Proofs.YtldomhanfhfonaaGreatDoor
