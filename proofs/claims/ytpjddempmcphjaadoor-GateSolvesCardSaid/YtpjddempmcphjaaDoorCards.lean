/-
  DERIVED. GIVEN WITH THE SEED: THE CARDS: each row of YtpjddempmcphjaaDoorRows.lean that lists a variable, with what it lists TIED to the program's text (the seventh form; the later family's looks); each row that meets fmt, with fmt's text TOLD by the authors' own Lean function (tested against real Go, not proved from fmt's source: count such statements apart). THE CARD IS WHAT COUNTS. Prove the row's statement (the work); the ties are given (YtpjddempmcphjaaDoorTie.lean); close each card by the builder's one call (the guide's Derived/Test/ToyasCard.lean, 'card_holds'). Laid BY PROGRAM, IN A SANDBOX (cutbox-door.mjs). By AI agents, Wed Nov 11 2026. No macro, syntax, notation, axiom, sorry.
-/
import Derived.Test.YtpjddempmcphjaaDoorRows
import GoSem.ClaimSeven
namespace Go.Proofs.YtpjddempmcphjaaDoor
namespace Rows

/-- THE TIED CARD OF 'signalboxlaw.GateSolves'. -/
def gateSolvesCard : Claim7 := { stood := { row := gateSolvesRow, standIns := [], harness := (true, "07c91cbf67823fcab2e47b021b3cdad10cb9d8f9ff1b575cdfefd3d5e6ce0644"), looks := true }, kinds := [], alts := [], laidByText := true, laidKinds := [.handle, .data], laidTests := true, laidLooks := .later }
def GateSolvesCardSaid : Prop := Claim7.holds Tryd.pinned (.plain (OpenSpec.ofChange gateSolvesSpec)) gateSolvesCard

/-- THE SECOND FORM's CARD OF 'signalboxlaw.GateSolves'. -/
def gateSolvesUptoCard : Claim7 := { stood := { row := gateSolvesUptoRow, standIns := [], harness := (true, "07c91cbf67823fcab2e47b021b3cdad10cb9d8f9ff1b575cdfefd3d5e6ce0644"), looks := true }, kinds := [], alts := [], laidByText := true, laidKinds := [.handle, .data], laidTests := true, laidLooks := .later }
def GateSolvesUptoCardSaid : Prop := Claim7.holds Tryd.pinned (.plain (OpenSpec.upto gateSolvesSpec)) gateSolvesUptoCard
end Rows
end Go.Proofs.YtpjddempmcphjaaDoor
