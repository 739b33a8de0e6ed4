/-
  DERIVED. GIVEN WITH THE SEED: THE CARDS: each row of YtgcgfojbnlgibaaDoorRows.lean that lists a variable, with what it lists TIED to the program's text (the seventh form; the later family's looks); each row that meets fmt, with fmt's text TOLD by the authors' own Lean function (tested against real Go, not proved from fmt's source: count such statements apart). THE CARD IS WHAT COUNTS. Prove the row's statement (the work); the ties are given (YtgcgfojbnlgibaaDoorTie.lean); close each card by the builder's one call (the guide's Derived/Test/ToyasCard.lean, 'card_holds'). Laid BY PROGRAM, IN A SANDBOX (cutbox-door.mjs). By AI agents, Wed Nov 11 2026. No macro, syntax, notation, axiom, sorry.
-/
import Derived.Test.YtgcgfojbnlgibaaDoorRows
import GoSem.ClaimSeven
namespace Go.Proofs.YtgcgfojbnlgibaaDoor
namespace Rows

/-- THE TIED CARD OF 'signalboxlaw.LassoRights'. -/
def lassoRightsCard : Claim7 := { stood := { row := lassoRightsRow, standIns := [], harness := (true, "f1805435458ddecc269c0bfad3741de73c4eaf2f6a77301b5ad3f39b048e13c3"), looks := true }, kinds := [], alts := [], laidByText := true, laidKinds := [.data, .handle, .data, .pinned], laidTests := true, laidLooks := .later }
def LassoRightsCardSaid : Prop := Claim7.holds Tryd.pinned (.plain (OpenSpec.ofChange lassoRightsSpec)) lassoRightsCard

/-- THE SECOND FORM's CARD OF 'signalboxlaw.LassoRights'. -/
def lassoRightsUptoCard : Claim7 := { stood := { row := lassoRightsUptoRow, standIns := [], harness := (true, "f1805435458ddecc269c0bfad3741de73c4eaf2f6a77301b5ad3f39b048e13c3"), looks := true }, kinds := [], alts := [], laidByText := true, laidKinds := [.data, .handle, .data, .pinned], laidTests := true, laidLooks := .later }
def LassoRightsUptoCardSaid : Prop := Claim7.holds Tryd.pinned (.plain (OpenSpec.upto lassoRightsSpec)) lassoRightsUptoCard
end Rows
end Go.Proofs.YtgcgfojbnlgibaaDoor
