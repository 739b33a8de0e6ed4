/-
  DERIVED. GIVEN WITH THE SEED: THE CARDS: each row of YtjdfaaccmdajdaaDoorRows.lean that lists a variable, with what it lists TIED to the program's text (the seventh form; the later family's looks); each row that meets fmt, with fmt's text TOLD by the authors' own Lean function (tested against real Go, not proved from fmt's source: count such statements apart). THE CARD IS WHAT COUNTS. Prove the row's statement (the work); the ties are given (YtjdfaaccmdajdaaDoorTie.lean); close each card by the builder's one call (the guide's Derived/Test/ToyasCard.lean, 'card_holds'). Laid BY PROGRAM, IN A SANDBOX (cutbox-door.mjs). By AI agents, Wed Nov 11 2026. No macro, syntax, notation, axiom, sorry.
-/
import Derived.Test.YtjdfaaccmdajdaaDoorRows
import GoSem.ClaimSeven
namespace Go.Proofs.YtjdfaaccmdajdaaDoor
namespace Rows

/-- THE TIED CARD OF 'signalboxkeep.ExprHangs'. -/
def exprHangsCard : Claim7 := { stood := { row := exprHangsRow, standIns := [], harness := (true, "e79057dc7c7913b113ecaeca2440990cfea0854e803f438c911ce398c1fb5c5d"), looks := true }, kinds := [], alts := [], laidByText := true, laidKinds := [.data, .pinned], laidTests := true, laidLooks := .later }
def ExprHangsCardSaid : Prop := Claim7.holds Tryd.pinned (.plain (OpenSpec.ofChange exprHangsSpec)) exprHangsCard

/-- THE SECOND FORM's CARD OF 'signalboxkeep.ExprHangs'. -/
def exprHangsUptoCard : Claim7 := { stood := { row := exprHangsUptoRow, standIns := [], harness := (true, "e79057dc7c7913b113ecaeca2440990cfea0854e803f438c911ce398c1fb5c5d"), looks := true }, kinds := [], alts := [], laidByText := true, laidKinds := [.data, .pinned], laidTests := true, laidLooks := .later }
def ExprHangsUptoCardSaid : Prop := Claim7.holds Tryd.pinned (.plain (OpenSpec.upto exprHangsSpec)) exprHangsUptoCard
end Rows
end Go.Proofs.YtjdfaaccmdajdaaDoor
