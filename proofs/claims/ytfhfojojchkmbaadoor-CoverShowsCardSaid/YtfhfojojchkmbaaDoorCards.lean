/-
  DERIVED. GIVEN WITH THE SEED: THE CARDS: each row of YtfhfojojchkmbaaDoorRows.lean that lists a variable, with what it lists TIED to the program's text (the seventh form; the later family's looks); each row that meets fmt, with fmt's text TOLD by the authors' own Lean function (tested against real Go, not proved from fmt's source: count such statements apart). THE CARD IS WHAT COUNTS. Prove the row's statement (the work); the ties are given (YtfhfojojchkmbaaDoorTie.lean); close each card by the builder's one call (the guide's Derived/Test/ToyasCard.lean, 'card_holds'). Laid BY PROGRAM, IN A SANDBOX (cutbox-door.mjs). By AI agents, Wed Nov 11 2026. No macro, syntax, notation, axiom, sorry.
-/
import Derived.Test.YtfhfojojchkmbaaDoorRows
import GoSem.ClaimSeven
namespace Go.Proofs.YtfhfojojchkmbaaDoor
namespace Rows

/-- THE TIED CARD OF 'signalboxkeep.CoverShows'. -/
def coverShowsCard : Claim7 := { stood := { row := coverShowsRow, standIns := [], harness := (true, "dc032722ec4b54831f1fe038be128e99457c59e0a62a74a7be5d20dcbb6e8f74"), looks := true }, kinds := [], alts := [], laidByText := true, laidKinds := [.data, .pinned], laidTests := true, laidLooks := .later }
def CoverShowsCardSaid : Prop := Claim7.holds Tryd.pinned (.plain (OpenSpec.ofChange coverShowsSpec)) coverShowsCard

/-- THE SECOND FORM's CARD OF 'signalboxkeep.CoverShows'. -/
def coverShowsUptoCard : Claim7 := { stood := { row := coverShowsUptoRow, standIns := [], harness := (true, "dc032722ec4b54831f1fe038be128e99457c59e0a62a74a7be5d20dcbb6e8f74"), looks := true }, kinds := [], alts := [], laidByText := true, laidKinds := [.data, .pinned], laidTests := true, laidLooks := .later }
def CoverShowsUptoCardSaid : Prop := Claim7.holds Tryd.pinned (.plain (OpenSpec.upto coverShowsSpec)) coverShowsUptoCard
end Rows
end Go.Proofs.YtfhfojojchkmbaaDoor
