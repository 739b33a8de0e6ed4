/-
  DERIVED. GIVEN WITH THE SEED: THE CARDS: each row of YtccnenpkephmhaaDoorRows.lean that lists a variable, with what it lists TIED to the program's text (the seventh form; the later family's looks); each row that meets fmt, with fmt's text TOLD by the authors' own Lean function (tested against real Go, not proved from fmt's source: count such statements apart). THE CARD IS WHAT COUNTS. Prove the row's statement (the work); the ties are given (YtccnenpkephmhaaDoorTie.lean); close each card by the builder's one call (the guide's Derived/Test/ToyasCard.lean, 'card_holds'). Laid BY PROGRAM, IN A SANDBOX (cutbox-door.mjs). By AI agents, Wed Nov 11 2026. No macro, syntax, notation, axiom, sorry.
-/
import Derived.Test.YtccnenpkephmhaaDoorRows
import GoSem.ClaimSeven
namespace Go.Proofs.YtccnenpkephmhaaDoor
namespace Rows

/-- THE TIED CARD OF 'signalboxkeep.BlockMoore'. -/
def blockMooreCard : Claim7 := { stood := { row := blockMooreRow, standIns := [], harness := (true, "ab4395b72cf4a3c27e60bdb0873c8fd66686bf64061f6761d93e0214d195a4d4"), looks := true }, kinds := [], alts := [], laidByText := true, laidKinds := [.handle], laidTests := true, laidLooks := .later }
def BlockMooreCardSaid : Prop := Claim7.holds Tryd.pinned (.plain (OpenSpec.ofChange blockMooreSpec)) blockMooreCard

/-- THE SECOND FORM's CARD OF 'signalboxkeep.BlockMoore'. -/
def blockMooreUptoCard : Claim7 := { stood := { row := blockMooreUptoRow, standIns := [], harness := (true, "ab4395b72cf4a3c27e60bdb0873c8fd66686bf64061f6761d93e0214d195a4d4"), looks := true }, kinds := [], alts := [], laidByText := true, laidKinds := [.handle], laidTests := true, laidLooks := .later }
def BlockMooreUptoCardSaid : Prop := Claim7.holds Tryd.pinned (.plain (OpenSpec.upto blockMooreSpec)) blockMooreUptoCard
end Rows
end Go.Proofs.YtccnenpkephmhaaDoor
