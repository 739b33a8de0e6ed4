/-
  DERIVED. GIVEN WITH THE SEED: THE CARDS: each row of YtmeppifnagiamaaDoorRows.lean that lists a variable, with what it lists TIED to the program's text (the seventh form; the later family's looks); each row that meets fmt, with fmt's text TOLD by the authors' own Lean function (tested against real Go, not proved from fmt's source: count such statements apart). THE CARD IS WHAT COUNTS. Prove the row's statement (the work); the ties are given (YtmeppifnagiamaaDoorTie.lean); close each card by the builder's one call (the guide's Derived/Test/ToyasCard.lean, 'card_holds'). Laid BY PROGRAM, IN A SANDBOX (cutbox-door.mjs). By AI agents, Wed Nov 11 2026. No macro, syntax, notation, axiom, sorry.
-/
import Derived.Test.YtmeppifnagiamaaDoorRows
import GoSem.ClaimSeven
namespace Go.Proofs.YtmeppifnagiamaaDoor
namespace Rows

/-- THE TIED CARD OF 'signalboxlaw.ExprTidies'. -/
def exprTidiesCard : Claim7 := { stood := { row := exprTidiesRow, standIns := [], harness := (true, "18069ed8cbf5b43eedc7e0db78651212254a3dc9832be5c14fa02f689949f180"), looks := true }, kinds := [], alts := [], laidByText := true, laidKinds := [.data, .data, .pinned], laidTests := true, laidLooks := .later }
def ExprTidiesCardSaid : Prop := Claim7.holds Tryd.pinned (.plain (OpenSpec.ofChange exprTidiesSpec)) exprTidiesCard

/-- THE SECOND FORM's CARD OF 'signalboxlaw.ExprTidies'. -/
def exprTidiesUptoCard : Claim7 := { stood := { row := exprTidiesUptoRow, standIns := [], harness := (true, "18069ed8cbf5b43eedc7e0db78651212254a3dc9832be5c14fa02f689949f180"), looks := true }, kinds := [], alts := [], laidByText := true, laidKinds := [.data, .data, .pinned], laidTests := true, laidLooks := .later }
def ExprTidiesUptoCardSaid : Prop := Claim7.holds Tryd.pinned (.plain (OpenSpec.upto exprTidiesSpec)) exprTidiesUptoCard
end Rows
end Go.Proofs.YtmeppifnagiamaaDoor
