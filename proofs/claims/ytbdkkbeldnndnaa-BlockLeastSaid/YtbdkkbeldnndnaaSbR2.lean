/-
  A TABLE THAT IS GIVEN, AS AN ABSTRACT VALUE.
-/
import Derived.Test.YtbdkkbeldnndnaaSbP2
import Derived.Test.YtbdkkbeldnndnaaSbR
namespace Go.Sb
open Go Go.RowKit
section
variable {H : Type} {enc : TypeId × Value → H} {P : Program} {W : World} {E : Env} {t : TypeId} {d : DataW H} {ps : List MemPlace} {v : Value}
theorem trod_Tab {fs : Array Field} {e1 e2 e3 : TypeId} {f0 f1 : Field} (ht : P.underlying t = some (.struct fs)) (hsz : P.cellsOf t = 2) (h0 : fs[0]? = some f0 ∧ f0.type = e1 ∧ f0.offset = 0) (h1 : fs[1]? = some f1 ∧ f1.type = e1 ∧ f1.offset = 1)
    (hc1 : P.cellsOf e1 = 1) (hc2 : P.cellsOf e2 = 1) (hc3 : P.cellsOf e3 = 1) (he1 : P.underlying e1 = some (.slice e2)) (he2 : P.underlying e2 = some (.slice e3)) (he3 : P.underlying e3 = some (.int .i64)) {r : Reach} {b0 : Nat}
    (hval : Value.okWide P W r b0 t v) (h : DataW.Trod enc P W 0 (fun _ => true) true t v d ps) : ∃ a b tb, VRel E (Cx.start W) (.agg [a, b]) v ∧ Tab (.agg [a, b]) tb := by
  obtain ⟨fuel, h⟩ := h
  simp only [Value.okWide, ht] at hval
  obtain ⟨cs, rfl, _, _⟩ := hval
  obtain ⟨xs, n, rfl, _, hl, hxl, hf⟩ := DataW.trod_struct ht h
  obtain ⟨h00, h01, h02⟩ := h0
  obtain ⟨h10, h11, h12⟩ := h1
  have hfs : 2 ≤ fs.size := by
    by_cases hh : 1 < fs.size
    · omega
    · rw [Array.getElem?_eq_none (by omega)] at h10; cases h10
  have q0 := hf 0 f0 h00
  have q1 := hf 1 f1 h10
  rw [h01, h02, hc1, List.getElem?_eq_getElem (by omega)] at q0
  rw [h11, h12, hc1, List.getElem?_eq_getElem (by omega)] at q1
  obtain ⟨u0, hu0, a, l, ha, hal⟩ := trod_Rows (E := E) he1 he2 he3 hc2 hc3 q0
  obtain ⟨u1, hu1, b, l', hb, hbl⟩ := trod_Rows (E := E) he1 he2 he3 hc2 hc3 q1
  refine ⟨a, b, ⟨l, l'⟩, ?_, a, b, rfl, hal, hbl⟩
  have hcl : (Value.agg cs).cells.toList = cs.toList := rfl
  rw [hcl] at hl hu0 hu1
  rw [hsz] at hl
  have hcs : cs.toList = [u0, u1] := by
    match hcl : cs.toList, hl with
    | [p, q], _ =>
      rw [hcl] at hu0 hu1
      simp at hu0 hu1
      rw [hu0, hu1]
  simp only [VRel]
  refine ⟨[u0, u1], ?_, ?_⟩
  · rw [← hcs]
  · simp only [LRel]
    exact ⟨u0, _, rfl, ha, u1, _, rfl, hb, rfl⟩
end
end Go.Sb
