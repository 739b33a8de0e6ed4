/-
  DERIVED. GIVEN WITH THE SEED: THE CARDS: each row of YtmklekabnghafaaGreatDoorRows.lean that lists a variable, with what it lists TIED to the program's text (the seventh form; the later family's looks); each row that meets fmt, with fmt's text TOLD by the authors' own Lean function (tested against real Go, not proved from fmt's source: count such statements apart). THE CARD IS WHAT COUNTS. Prove the row's statement (the work); the ties are given (YtmklekabnghafaaGreatDoorTie.lean); close each card by the builder's one call (the guide's Derived/Test/ToyasCard.lean, 'card_holds'). Laid BY PROGRAM, IN A SANDBOX (cutbox-door.mjs). By AI agents, Wed Nov 11 2026. No macro, syntax, notation, axiom, sorry.
-/
import Derived.Test.YtmklekabnghafaaGreatDoorRows
import GoSem.ClaimSeven
namespace Go.Proofs.YtmklekabnghafaaGreatDoor
namespace Rows

/-- THE TIED CARD OF 'signalboxkeep.GateTidy'. -/
def gateTidyCard : Claim7 := { stood := { row := gateTidyRow, standIns := [], harness := (true, "9a5ede06529d2f00e73581ce8818476cfeccfa225d9a57a4a5d1719e548e09f1"), looks := true }, kinds := [], alts := [], laidByText := true, laidKinds := [.data, .handle, .pinned], laidTests := true, laidLooks := .later }
def GateTidyCardSaid : Prop := Claim7.holds Tryz.pinned (.plain (OpenSpec.ofChange gateTidySpec)) gateTidyCard

/-- THE SECOND FORM's CARD OF 'signalboxkeep.GateTidy'. -/
def gateTidyUptoCard : Claim7 := { stood := { row := gateTidyUptoRow, standIns := [], harness := (true, "9a5ede06529d2f00e73581ce8818476cfeccfa225d9a57a4a5d1719e548e09f1"), looks := true }, kinds := [], alts := [], laidByText := true, laidKinds := [.data, .handle, .pinned], laidTests := true, laidLooks := .later }
def GateTidyUptoCardSaid : Prop := Claim7.holds Tryz.pinned (.plain (OpenSpec.upto gateTidySpec)) gateTidyUptoCard
end Rows
end Go.Proofs.YtmklekabnghafaaGreatDoor
