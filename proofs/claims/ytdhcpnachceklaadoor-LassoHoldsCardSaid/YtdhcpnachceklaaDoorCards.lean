/-
  DERIVED. GIVEN WITH THE SEED: THE CARDS: each row of YtdhcpnachceklaaDoorRows.lean that lists a variable, with what it lists TIED to the program's text (the seventh form; the later family's looks); each row that meets fmt, with fmt's text TOLD by the authors' own Lean function (tested against real Go, not proved from fmt's source: count such statements apart). THE CARD IS WHAT COUNTS. Prove the row's statement (the work); the ties are given (YtdhcpnachceklaaDoorTie.lean); close each card by the builder's one call (the guide's Derived/Test/ToyasCard.lean, 'card_holds'). Laid BY PROGRAM, IN A SANDBOX (cutbox-door.mjs). By AI agents, Wed Nov 11 2026. No macro, syntax, notation, axiom, sorry.
-/
import Derived.Test.YtdhcpnachceklaaDoorRows
import GoSem.ClaimSeven
namespace Go.Proofs.YtdhcpnachceklaaDoor
namespace Rows

/-- THE TIED CARD OF 'signalboxlaw.LassoHolds'. -/
def lassoHoldsCard : Claim7 := { stood := { row := lassoHoldsRow, standIns := [], harness := (true, "973d4d9cba772f496f85d5f23b486fa774ce22005dab3119df7c205bce41f9e7"), looks := true }, kinds := [], alts := [], laidByText := true, laidKinds := [.data, .handle, .data, .pinned], laidTests := true, laidLooks := .later }
def LassoHoldsCardSaid : Prop := Claim7.holds Tryd.pinned (.plain (OpenSpec.ofChange lassoHoldsSpec)) lassoHoldsCard

/-- THE SECOND FORM's CARD OF 'signalboxlaw.LassoHolds'. -/
def lassoHoldsUptoCard : Claim7 := { stood := { row := lassoHoldsUptoRow, standIns := [], harness := (true, "973d4d9cba772f496f85d5f23b486fa774ce22005dab3119df7c205bce41f9e7"), looks := true }, kinds := [], alts := [], laidByText := true, laidKinds := [.data, .handle, .data, .pinned], laidTests := true, laidLooks := .later }
def LassoHoldsUptoCardSaid : Prop := Claim7.holds Tryd.pinned (.plain (OpenSpec.upto lassoHoldsSpec)) lassoHoldsUptoCard
end Rows
end Go.Proofs.YtdhcpnachceklaaDoor
