/-
  DECODING: words and steps, with the sizes of their names.
-/
import Derived.Test.YtdhcpnachceklaaDoorScR3
import Derived.Test.YtdhcpnachceklaaDoorScP17
namespace Go.Sc
open Go Go.RowKit
set_option linter.unusedVariables false
section
variable {H : Type} {enc : TypeId × Value → H} {P : Program} {W : World} {E : Env}
theorem str_of_reach {n : Nat} (h : n ≤ reachBytes) : n < 140737488355328 := by
  have h2 : reachBytes < 140737488355328 := by decide
  omega
theorem Dec.textsS {tS tL : TypeId} (hS : P.underlying tS = some .string) (hL : P.underlying tL = some (.slice tS)) (hc : P.cellsOf tS = 1) (hb : 0 < P.bytesOf tS) : Dec enc P W E tL (fun l : List Str => [LS l]) (fun l => l.length < 140737488355328 ∧ ∀ s ∈ l, s.length < 140737488355328) :=
  ((Dec.str hS).slice1 hL hc).map id fun l h => ⟨⟨len_of_reach h.2 hb, fun s hs => str_of_reach (h.1 s hs)⟩, rfl⟩
theorem Dec.textssS {tS tL tLL : TypeId} (hS : P.underlying tS = some .string) (hL : P.underlying tL = some (.slice tS)) (hLL : P.underlying tLL = some (.slice tL)) (hc : P.cellsOf tS = 1 ∧ P.cellsOf tL = 1) (hb : 0 < P.bytesOf tS ∧ 0 < P.bytesOf tL) :
    Dec enc P W E tLL (fun l : List (List Str) => [LL l]) (fun l => (∀ x ∈ l, x.length < 140737488355328 ∧ ∀ s ∈ x, s.length < 140737488355328) ∧ l.length < 140737488355328) :=
  ((Dec.textsS hS hL hc.1 hb.1).slice1 hLL hc.2).map id fun l h => ⟨⟨h.1, len_of_reach h.2 hb.2⟩, rfl⟩
theorem Dec.wordS {tS tL tW : TypeId} {f0 f1 : Field} (hS : P.underlying tS = some .string) (hL : P.underlying tL = some (.slice tS)) (h0 : P.underlying f0.type = some (.slice tL)) (h1 : P.underlying f1.type = some (.slice tL)) (hW : P.underlying tW = some (.struct #[f0, f1]))
    (ho : f0.offset = 0 ∧ f1.offset = P.cellsOf f0.type ∧ P.cellsOf tW = P.cellsOf f0.type + P.cellsOf f1.type) (hc : P.cellsOf tS = 1 ∧ P.cellsOf tL = 1) (hb : 0 < P.bytesOf tS ∧ 0 < P.bytesOf tL) :
    Dec enc P W E tW (fun w : Wd => [LL w.ahead, LL w.round]) Wd.sizedS :=
  (Dec.struct2 (Dec.textssS hS hL h0 hc hb) (Dec.textssS hS hL h1 hc hb) hW ho).map (fun p => ⟨p.1, p.2⟩) fun p h => ⟨⟨⟨h.1.2, h.2.2, fun l hl => by
    rcases List.mem_append.1 hl with hl | hl
    · exact (h.1.1 l hl).1
    · exact (h.2.1 l hl).1⟩, fun l hl => by
    rcases List.mem_append.1 hl with hl | hl
    · exact (h.1.1 l hl).2
    · exact (h.2.1 l hl).2⟩, rfl⟩
theorem Dec.stepsS {tX tL : TypeId} {f0 f1 f2 f3 : Field} (h0 : P.underlying f0.type = some (.int .i64)) (h1 : P.underlying f1.type = some (.int .i64)) (h2 : P.underlying f2.type = some (.int .i64)) (h3 : P.underlying f3.type = some .string) (hX : P.underlying tX = some (.struct #[f0, f1, f2, f3])) (hL : P.underlying tL = some (.slice tX))
    (ho : f0.offset = 0 ∧ f1.offset = P.cellsOf f0.type ∧ f2.offset = f1.offset + P.cellsOf f1.type ∧ f3.offset = f2.offset + P.cellsOf f2.type ∧ P.cellsOf tX = f3.offset + P.cellsOf f3.type) (hc : P.cellsOf tX = 4) (hb : 0 < P.bytesOf tX) :
    Dec enc P W E tL (fun l : List St => [ST l]) (fun l => (∀ x ∈ l, x.s.length < 140737488355328) ∧ l.length < 140737488355328) :=
  (((Dec.struct4 (Dec.i64 h0) (Dec.i64 h1) (Dec.i64 h2) (Dec.str h3) hX ho).map (g := St.cells) (Q' := fun x => x.s.length < 140737488355328) (fun p => ⟨p.1, p.2.1, p.2.2.1, p.2.2.2⟩) fun p h => ⟨str_of_reach h.2.2.2, rfl⟩).slice 4 (fun _ => rfl) (by omega) hL hc).map id fun l h => ⟨⟨h.1, len_of_reach h.2 hb⟩, rfl⟩
end
end Go.Sc
