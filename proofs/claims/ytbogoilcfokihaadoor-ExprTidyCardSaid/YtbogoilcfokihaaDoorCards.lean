/-
  DERIVED. GIVEN WITH THE SEED: THE CARDS: each row of YtbogoilcfokihaaDoorRows.lean that lists a variable, with what it lists TIED to the program's text (the seventh form; the later family's looks); each row that meets fmt, with fmt's text TOLD by the authors' own Lean function (tested against real Go, not proved from fmt's source: count such statements apart). THE CARD IS WHAT COUNTS. Prove the row's statement (the work); the ties are given (YtbogoilcfokihaaDoorTie.lean); close each card by the builder's one call (the guide's Derived/Test/ToyasCard.lean, 'card_holds'). Laid BY PROGRAM, IN A SANDBOX (cutbox-door.mjs). By AI agents, Wed Nov 11 2026. No macro, syntax, notation, axiom, sorry.
-/
import Derived.Test.YtbogoilcfokihaaDoorRows
import GoSem.ClaimSeven
namespace Go.Proofs.YtbogoilcfokihaaDoor
namespace Rows

/-- THE TIED CARD OF 'signalboxkeep.ExprTidy'. -/
def exprTidyCard : Claim7 := { stood := { row := exprTidyRow, standIns := [], harness := (true, "a338a3ca47245f4de43e535d4d9a8400664857c95564c22352a618ac06257c78"), looks := true }, kinds := [], alts := [], laidByText := true, laidKinds := [.data, .pinned], laidTests := true, laidLooks := .later }
def ExprTidyCardSaid : Prop := Claim7.holds Tryd.pinned (.plain (OpenSpec.ofChange exprTidySpec)) exprTidyCard

/-- THE SECOND FORM's CARD OF 'signalboxkeep.ExprTidy'. -/
def exprTidyUptoCard : Claim7 := { stood := { row := exprTidyUptoRow, standIns := [], harness := (true, "a338a3ca47245f4de43e535d4d9a8400664857c95564c22352a618ac06257c78"), looks := true }, kinds := [], alts := [], laidByText := true, laidKinds := [.data, .pinned], laidTests := true, laidLooks := .later }
def ExprTidyUptoCardSaid : Prop := Claim7.holds Tryd.pinned (.plain (OpenSpec.upto exprTidySpec)) exprTidyUptoCard
end Rows
end Go.Proofs.YtbogoilcfokihaaDoor
