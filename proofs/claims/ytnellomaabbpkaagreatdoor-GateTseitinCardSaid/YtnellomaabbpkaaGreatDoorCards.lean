/-
  DERIVED. GIVEN WITH THE SEED: THE CARDS: each row of YtnellomaabbpkaaGreatDoorRows.lean that lists a variable, with what it lists TIED to the program's text (the seventh form; the later family's looks); each row that meets fmt, with fmt's text TOLD by the authors' own Lean function (tested against real Go, not proved from fmt's source: count such statements apart). THE CARD IS WHAT COUNTS. Prove the row's statement (the work); the ties are given (YtnellomaabbpkaaGreatDoorTie.lean); close each card by the builder's one call (the guide's Derived/Test/ToyasCard.lean, 'card_holds'). Laid BY PROGRAM, IN A SANDBOX (cutbox-door.mjs). By AI agents, Wed Nov 11 2026. No macro, syntax, notation, axiom, sorry.
-/
import Derived.Test.YtnellomaabbpkaaGreatDoorRows
import GoSem.ClaimSeven
namespace Go.Proofs.YtnellomaabbpkaaGreatDoor
namespace Rows

/-- THE TIED CARD OF 'signalboxkeep.GateTseitin'. -/
def gateTseitinCard : Claim7 := { stood := { row := gateTseitinRow, standIns := [], harness := (true, "b3add2017ad7434941b24e9471a6176a8ab676be63147ef809eedc5ddf77b8a0"), looks := true }, kinds := [], alts := [], laidByText := true, laidKinds := [.data, .handle, .pinned], laidTests := true, laidLooks := .later }
def GateTseitinCardSaid : Prop := Claim7.holds Tryz.pinned (.plain (OpenSpec.ofChange gateTseitinSpec)) gateTseitinCard

/-- THE SECOND FORM's CARD OF 'signalboxkeep.GateTseitin'. -/
def gateTseitinUptoCard : Claim7 := { stood := { row := gateTseitinUptoRow, standIns := [], harness := (true, "b3add2017ad7434941b24e9471a6176a8ab676be63147ef809eedc5ddf77b8a0"), looks := true }, kinds := [], alts := [], laidByText := true, laidKinds := [.data, .handle, .pinned], laidTests := true, laidLooks := .later }
def GateTseitinUptoCardSaid : Prop := Claim7.holds Tryz.pinned (.plain (OpenSpec.upto gateTseitinSpec)) gateTseitinUptoCard
end Rows
end Go.Proofs.YtnellomaabbpkaaGreatDoor
