/-
  DERIVED. GIVEN WITH THE SEED: THE CARDS: each row of YtjgbgdnbmicngaaDoorRows.lean that lists a variable, with what it lists TIED to the program's text (the seventh form; the later family's looks); each row that meets fmt, with fmt's text TOLD by the authors' own Lean function (tested against real Go, not proved from fmt's source: count such statements apart). THE CARD IS WHAT COUNTS. Prove the row's statement (the work); the ties are given (YtjgbgdnbmicngaaDoorTie.lean); close each card by the builder's one call (the guide's Derived/Test/ToyasCard.lean, 'card_holds'). Laid BY PROGRAM, IN A SANDBOX (cutbox-door.mjs). By AI agents, Wed Nov 11 2026. No macro, syntax, notation, axiom, sorry.
-/
import Derived.Test.YtjgbgdnbmicngaaDoorRows
import GoSem.ClaimSeven
namespace Go.Proofs.YtjgbgdnbmicngaaDoor
namespace Rows

/-- THE TIED CARD OF 'signalboxlaw.BlockBlocks'. -/
def blockBlocksCard : Claim7 := { stood := { row := blockBlocksRow, standIns := [], harness := (true, "c680622edcc09a60a3d0e797b98c04c9ed20376d6a9787a886c3f0b6d0d103ec"), looks := true }, kinds := [], alts := [], laidByText := true, laidKinds := [.handle, .data], laidTests := true, laidLooks := .later }
def BlockBlocksCardSaid : Prop := Claim7.holds Tryd.pinned (.plain (OpenSpec.ofChange blockBlocksSpec)) blockBlocksCard

/-- THE SECOND FORM's CARD OF 'signalboxlaw.BlockBlocks'. -/
def blockBlocksUptoCard : Claim7 := { stood := { row := blockBlocksUptoRow, standIns := [], harness := (true, "c680622edcc09a60a3d0e797b98c04c9ed20376d6a9787a886c3f0b6d0d103ec"), looks := true }, kinds := [], alts := [], laidByText := true, laidKinds := [.handle, .data], laidTests := true, laidLooks := .later }
def BlockBlocksUptoCardSaid : Prop := Claim7.holds Tryd.pinned (.plain (OpenSpec.upto blockBlocksSpec)) blockBlocksUptoCard
end Rows
end Go.Proofs.YtjgbgdnbmicngaaDoor
