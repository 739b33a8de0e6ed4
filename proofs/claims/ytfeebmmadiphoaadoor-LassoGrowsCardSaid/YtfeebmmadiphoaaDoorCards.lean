/-
  DERIVED. GIVEN WITH THE SEED: THE CARDS: each row of YtfeebmmadiphoaaDoorRows.lean that lists a variable, with what it lists TIED to the program's text (the seventh form; the later family's looks); each row that meets fmt, with fmt's text TOLD by the authors' own Lean function (tested against real Go, not proved from fmt's source: count such statements apart). THE CARD IS WHAT COUNTS. Prove the row's statement (the work); the ties are given (YtfeebmmadiphoaaDoorTie.lean); close each card by the builder's one call (the guide's Derived/Test/ToyasCard.lean, 'card_holds'). Laid BY PROGRAM, IN A SANDBOX (cutbox-door.mjs). By AI agents, Wed Nov 11 2026. No macro, syntax, notation, axiom, sorry.
-/
import Derived.Test.YtfeebmmadiphoaaDoorRows
import GoSem.ClaimSeven
namespace Go.Proofs.YtfeebmmadiphoaaDoor
namespace Rows

/-- THE TIED CARD OF 'signalboxkeep.LassoGrows'. -/
def lassoGrowsCard : Claim7 := { stood := { row := lassoGrowsRow, standIns := [], harness := (true, "8487427c60a955fea5df240d39f8d2d4a76caff9ff0184e320771d8477a5b386"), looks := false }, kinds := [], alts := [], laidByText := true, laidKinds := [.data, .data, .pinned], laidTests := true, laidLooks := .later }
def LassoGrowsCardSaid : Prop := Claim7.holds Tryd.pinned (.plain (OpenSpec.ofChange lassoGrowsSpec)) lassoGrowsCard

/-- THE SECOND FORM's CARD OF 'signalboxkeep.LassoGrows'. -/
def lassoGrowsUptoCard : Claim7 := { stood := { row := lassoGrowsUptoRow, standIns := [], harness := (true, "8487427c60a955fea5df240d39f8d2d4a76caff9ff0184e320771d8477a5b386"), looks := false }, kinds := [], alts := [], laidByText := true, laidKinds := [.data, .data, .pinned], laidTests := true, laidLooks := .later }
def LassoGrowsUptoCardSaid : Prop := Claim7.holds Tryd.pinned (.plain (OpenSpec.upto lassoGrowsSpec)) lassoGrowsUptoCard
end Rows
end Go.Proofs.YtfeebmmadiphoaaDoor
