/-
  DECODING: tables, and lists of numbers.
-/
import Derived.Test.YtnchabkiellfdaaDoorScR2
import Derived.Test.YtnchabkiellfdaaDoorScR4
import Derived.Test.YtnchabkiellfdaaDoorScP7
namespace Go.Sc
open Go Go.RowKit
section
variable {H : Type} {enc : TypeId × Value → H} {P : Program} {W : World} {E : Env}
theorem Dec.ints {tI tL : TypeId} (hI : P.underlying tI = some (.int .i64)) (hL : P.underlying tL = some (.slice tI)) (hc : P.cellsOf tI = 1) (hb : 0 < P.bytesOf tI) : Dec enc P W E tL (fun l : List Int => [LI l]) (fun l => (∀ x ∈ l, inI x) ∧ l.length < 140737488355328) :=
  ((Dec.i64 hI).slice1 hL hc).map id fun _ h => ⟨⟨h.1, len_of_reach h.2 hb⟩, rfl⟩
theorem Dec.intss {tI tL tLL : TypeId} (hI : P.underlying tI = some (.int .i64)) (hL : P.underlying tL = some (.slice tI)) (hLL : P.underlying tLL = some (.slice tL)) (hc : P.cellsOf tI = 1 ∧ P.cellsOf tL = 1) (hb : 0 < P.bytesOf tI ∧ 0 < P.bytesOf tL) :
    Dec enc P W E tLL (fun l : List (List Int) => [LLI l]) (fun l => (∀ x ∈ l, x.length < 140737488355328) ∧ l.length < 140737488355328) :=
  ((Dec.ints hI hL hc.1 hb.1).slice1 hLL hc.2).map id fun _ h => ⟨⟨fun x hx => (h.1 x hx).2, len_of_reach h.2 hb.2⟩, rfl⟩
theorem Dec.table {tI tL tT : TypeId} {f0 f1 : Field} (hI : P.underlying tI = some (.int .i64)) (hL : P.underlying tL = some (.slice tI)) (h0 : P.underlying f0.type = some (.slice tL)) (h1 : P.underlying f1.type = some (.slice tL)) (hT : P.underlying tT = some (.struct #[f0, f1]))
    (ho : f0.offset = 0 ∧ f1.offset = P.cellsOf f0.type ∧ P.cellsOf tT = P.cellsOf f0.type + P.cellsOf f1.type) (hc : P.cellsOf tI = 1 ∧ P.cellsOf tL = 1) (hb : 0 < P.bytesOf tI ∧ 0 < P.bytesOf tL) :
    Dec enc P W E tT (fun t : Table => [LLI t.next, LLI t.tells]) Table.sized :=
  (Dec.struct2 (Dec.intss hI hL h0 hc hb) (Dec.intss hI hL h1 hc hb) hT ho).map (fun p => ⟨p.1, p.2⟩) fun p h => ⟨⟨h.1.2, h.2.2, fun l hl => by
    rcases List.mem_append.1 hl with hl | hl
    · exact h.1.1 l hl
    · exact h.2.1 l hl⟩, rfl⟩
end
end Go.Sc
