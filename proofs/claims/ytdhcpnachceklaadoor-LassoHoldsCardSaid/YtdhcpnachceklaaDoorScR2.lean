/-
  DECODING: what arguments are, by their types, with their sizes; and variables that are known.
-/
import Derived.Test.YtdhcpnachceklaaDoorScR
import Derived.SizedLaws
import Derived.WideShapes
import Derived.OpenShut
import Derived.LaidSub
namespace Go.Sc
open Go Go.RowKit Go.WideShapes
set_option linter.unusedVariables false

def Sized {H : Type} (P : Program) (t : TypeId) (d : DataW H) : Prop := ∀ n ∈ d.weights P t, n ≤ reachBytes
theorem weights_all {H : Type} {P : Program} {e : TypeId} {d : DataW H} {n : Nat} (hn : n ∈ d.weights P e) : ∀ {l : List (DataW H)}, d ∈ l → n ∈ DataW.weightsAll P e l
  | y :: l, h => by
    simp only [DataW.weightsAll, List.mem_append]
    rcases List.mem_cons.1 h with rfl | h
    · exact .inl hn
    · exact .inr (weights_all hn h)
theorem Sized.of_each {H : Type} {P : Program} {ts : List TypeId} {ds : List (DataW H)} (h : (DataW.weightsEach P ts ds).all (· ≤ reachBytes) = true) {j : Nat} {t : TypeId} {d : DataW H} (ht : ts[j]? = some t) (hd : ds[j]? = some d) : Sized P t d := fun n hn => by
  have := List.all_eq_true.1 h n (DataW.weights_mem_each ht hd n hn)
  simpa using this

/-- a type's values, as 'f' tells them -/
structure Dec {H : Type} (enc : TypeId × Value → H) (P : Program) (W : World) (E : Env) (t : TypeId) {α : Type} (f : α → List AV) (Q : α → Prop) : Prop where
  ok : ∀ fuel cs x, DataW.trod enc P W 0 (fun _ => true) true fuel t cs = some x → Sized P t x.1 → ∃ a, Q a ∧ LRel E (Cx.start W) (f a) cs

section
variable {H : Type} {enc : TypeId × Value → H} {P : Program} {W : World} {E : Env} {t : TypeId}
theorem LRel.one {c : Cx} {x : AV} {v : Value} (h : VRel E c x v) : LRel E c [x] [v] := by simp only [LRel]; exact ⟨v, [], rfl, h, rfl⟩
theorem LRel.one' {c : Cx} {x : AV} {vs : List Value} (h : LRel E c [x] vs) : ∃ v, vs = [v] ∧ VRel E c x v := by
  simp only [LRel] at h
  obtain ⟨u, us, rfl, h1, rfl⟩ := h
  exact ⟨u, rfl, h1⟩
theorem Dec.map {α β : Type} {f : α → List AV} {Q : α → Prop} (h : Dec enc P W E t f Q) {g : β → List AV} {Q' : β → Prop} (φ : α → β) (hφ : ∀ a, Q a → Q' (φ a) ∧ g (φ a) = f a) : Dec enc P W E t g Q' where
  ok := fun fuel cs x hx hs => by
    obtain ⟨a, h1, h2⟩ := h.ok fuel cs x hx hs
    exact ⟨φ a, (hφ a h1).1, (hφ a h1).2 ▸ h2⟩
theorem Dec.i64 (ht : P.underlying t = some (.int .i64)) : Dec enc P W E t (fun z => [Z z]) inI where
  ok := fun fuel cs x hx _ => by
    obtain ⟨z, rfl, h⟩ := trod_i64r ht hx
    exact ⟨z, h, .one (by simp [VRel])⟩
theorem Dec.str (ht : P.underlying t = some .string) : Dec enc P W E t (fun s => [S s]) (fun s : Str => s.length ≤ reachBytes) where
  ok := fun fuel cs x hx hs => by
    obtain ⟨b, rfl, rfl, _⟩ := DataW.trod_string ht hx
    exact ⟨b.data.toList, hs _ (by simp [DataW.weights]), .one (rel_str b)⟩
theorem Dec.boo (ht : P.underlying t = some .bool) : Dec enc P W E t (fun b => [Bo b]) (fun _ => True) where
  ok := fun fuel cs x hx _ => by
    obtain ⟨b, rfl⟩ := trod_boo ht hx
    exact ⟨b, trivial, .one (by simp [VRel])⟩

theorem Dec.slice {α : Type} {e : TypeId} {f : α → List AV} {Q : α → Prop} (n : Nat) (d : Dec enc P W E e f Q) (hn : ∀ a, (f a).length = n) (h0 : 0 < n) (ht : P.underlying t = some (.slice e)) (hc : P.cellsOf e = n) :
    Dec enc P W E t (fun xs : List α => [.slN (xs.map f).flatten xs.length]) (fun xs => (∀ x ∈ xs, Q x) ∧ xs.length * P.bytesOf e ≤ reachBytes) where
  ok := fun fuel cs x h hs => by
    rcases DataW.trod_slice ht h with ⟨rfl, _⟩ | ⟨a, len, cap, elems, rest, m, _, rfl, rfl, _, hl, hmx, hel, he, hr, _⟩
    · exact ⟨[], ⟨by simp, by simp⟩, .one (by simp [VRel])⟩
    · simp only [Sized, DataW.weights, ht, List.mem_cons, List.mem_append, List.length_map] at hs
      have hlen : (elems.length + rest.length) * P.bytesOf e ≤ reachBytes := hs _ (.inl rfl)
      obtain ⟨hr1, hr2⟩ := hr rfl
      have hcell : ∀ i, i < len → ∃ vs y, W.cells? 0 (a.add (i * n)) n = some vs ∧ DataW.trod enc P W 0 (fun _ => true) true m e vs = some y ∧ Sized P e y.1 := by
        intro i hi
        have h1 := he i hi
        rw [hc, List.getElem?_eq_getElem (by omega)] at h1
        simp only [Option.bind_eq_some_iff] at h1
        obtain ⟨vs, h2, h3⟩ := h1
        exact ⟨vs, _, h2, h3, fun k hk => hs k (.inr (.inl (weights_all hk (List.mem_map.2 ⟨_, List.getElem_mem _, rfl⟩))))⟩
      have hzero : cap = 0 ∨ ∃ v, W.cell? a = some v := by
        by_cases hl0 : 0 < len
        · obtain ⟨vs, _, h1, _⟩ := hcell 0 hl0
          obtain ⟨g1, g2⟩ := cells_get h1
          have : vs[0]? = some vs[0] := List.getElem?_eq_getElem (by omega)
          exact .inr ⟨_, by simpa [Addr.add] using g2 0 _ this⟩
        · by_cases hcp : 0 < cap
          · have h1 := hr2 0 (by omega)
            rw [hc, List.getElem?_eq_getElem (by omega)] at h1
            simp only [Option.bind_eq_some_iff] at h1
            obtain ⟨vs, h2, _⟩ := h1
            obtain ⟨g1, g2⟩ := cells_get h2
            have : vs[0]? = some vs[0] := List.getElem?_eq_getElem (by omega)
            have hlen0 : len = 0 := by omega
            subst hlen0
            exact .inr ⟨_, by simpa [Addr.add] using g2 0 _ this⟩
          · exact .inl (by omega)
      obtain ⟨xs, hx1, hx2⟩ := list_of (Q := fun i (x : α) => Q x ∧ ∃ vs : List Value, LRel E (Cx.start W) (f x) vs ∧ ∀ j v, vs[j]? = some v → W.cell? ((a.add (i * n)).add j) = some v) len fun i hi => by
        obtain ⟨vs, y, h1, h2, h3⟩ := hcell i hi
        obtain ⟨g1, g2⟩ := cells_get h1
        obtain ⟨z, h3, h4⟩ := d.ok m vs y h2 h3
        exact ⟨z, h3, vs, h4, g2⟩
      refine ⟨xs, ⟨fun x hx => ?_, ?_⟩, .one ?_⟩
      · obtain ⟨i, hi, rfl⟩ := List.getElem_of_mem hx
        exact (hx2 i _ (List.getElem?_eq_getElem hi)).1
      · rw [hx1, ← hel]
        exact Nat.le_trans (Nat.mul_le_mul_right _ (by omega)) hlen
      · simp only [VRel]
        refine .inr ⟨a, cap, by rw [hx1], by omega, hzero.imp id ?_⟩
        rintro ⟨v, hv⟩
        have hs := cell_spot hv
        obtain ⟨blk, off, spot⟩ := a
        have hspot : spot = none := hs.1
        subst hspot
        refine ⟨blk, off, rfl, crel_flat hs.2 hn xs off fun i x hi => ?_⟩
        obtain ⟨_, vs, h1, h2⟩ := hx2 i x hi
        refine ⟨vs, h1, fun j v hj => ?_⟩
        have := h2 j v hj
        rwa [Addr.add_at, Addr.add_at] at this
/-- of elements of one cell -/
theorem Dec.slice1 {α : Type} {e : TypeId} {f : α → AV} {Q : α → Prop} (d : Dec enc P W E e (fun a => [f a]) Q) (ht : P.underlying t = some (.slice e)) (hc : P.cellsOf e = 1) :
    Dec enc P W E t (fun xs : List α => [Lm f xs]) (fun xs => (∀ x ∈ xs, Q x) ∧ xs.length * P.bytesOf e ≤ reachBytes) :=
  (d.slice 1 (fun _ => rfl) (by omega) ht hc).map id fun a h => ⟨h, by simp only [id, flat_single]⟩

theorem Dec.struct2 {α β : Type} {f0 f1 : Field} {g0 : α → List AV} {g1 : β → List AV} {Q0 : α → Prop} {Q1 : β → Prop} (d0 : Dec enc P W E f0.type g0 Q0) (d1 : Dec enc P W E f1.type g1 Q1) (ht : P.underlying t = some (.struct #[f0, f1]))
    (hc : f0.offset = 0 ∧ f1.offset = P.cellsOf f0.type ∧ P.cellsOf t = P.cellsOf f0.type + P.cellsOf f1.type) : Dec enc P W E t (fun p : α × β => g0 p.1 ++ g1 p.2) (fun p => Q0 p.1 ∧ Q1 p.2) where
  ok := fun fuel cs x h hs => by
    obtain ⟨xs, m, _, rfl, hl, hlen, hf⟩ := DataW.trod_struct ht h
    obtain ⟨c0, c1, c2⟩ := hc
    match xs, hlen with
    | [y0, y1], _ =>
      have h0 := hf 0 f0 rfl
      have h1 := hf 1 f1 rfl
      have sz : ∀ (j : Nat) f y, (#[f0, f1] : Array Field).toList[j]? = some f → [y0, y1][j]? = some y → Sized P f.type y.1 := fun j f y hf' hy n hn => by
        refine hs n ?_
        simp only [DataW.weights, ht]
        exact DataW.weights_mem_each (j := j) (by simp only [List.getElem?_map, hf']; rfl) (by simp only [List.getElem?_map, hy]; rfl) n hn
      obtain ⟨a, q0, r0⟩ := d0.ok _ _ _ h0 (sz 0 _ _ rfl rfl)
      obtain ⟨b, q1, r1⟩ := d1.ok _ _ _ h1 (sz 1 _ _ rfl rfl)
      refine ⟨(a, b), ⟨q0, q1⟩, ?_⟩
      have := r0.append r1
      rw [c0, c1, List.drop_zero, List.take_of_length_le (l := cs.drop _) (by simp; omega), List.take_append_drop] at this
      exact this
theorem Dec.struct4 {α β γ δ : Type} {f0 f1 f2 f3 : Field} {g0 : α → List AV} {g1 : β → List AV} {g2 : γ → List AV} {g3 : δ → List AV} {Q0 : α → Prop} {Q1 : β → Prop} {Q2 : γ → Prop} {Q3 : δ → Prop}
    (d0 : Dec enc P W E f0.type g0 Q0) (d1 : Dec enc P W E f1.type g1 Q1) (d2 : Dec enc P W E f2.type g2 Q2) (d3 : Dec enc P W E f3.type g3 Q3) (ht : P.underlying t = some (.struct #[f0, f1, f2, f3]))
    (hc : f0.offset = 0 ∧ f1.offset = P.cellsOf f0.type ∧ f2.offset = f1.offset + P.cellsOf f1.type ∧ f3.offset = f2.offset + P.cellsOf f2.type ∧ P.cellsOf t = f3.offset + P.cellsOf f3.type) :
    Dec enc P W E t (fun p : α × β × γ × δ => g0 p.1 ++ (g1 p.2.1 ++ (g2 p.2.2.1 ++ g3 p.2.2.2))) (fun p => Q0 p.1 ∧ Q1 p.2.1 ∧ Q2 p.2.2.1 ∧ Q3 p.2.2.2) where
  ok := fun fuel cs x h hs => by
    obtain ⟨xs, m, _, rfl, hl, hlen, hf⟩ := DataW.trod_struct ht h
    obtain ⟨c0, c1, c2, c3, c4⟩ := hc
    match xs, hlen with
    | [y0, y1, y2, y3], _ =>
      have h0 := hf 0 f0 rfl
      have h1 := hf 1 f1 rfl
      have h2 := hf 2 f2 rfl
      have h3 := hf 3 f3 rfl
      have sz : ∀ (j : Nat) f y, (#[f0, f1, f2, f3] : Array Field).toList[j]? = some f → [y0, y1, y2, y3][j]? = some y → Sized P f.type y.1 := fun j f y hf' hy n hn => by
        refine hs n ?_
        simp only [DataW.weights, ht]
        exact DataW.weights_mem_each (j := j) (by simp only [List.getElem?_map, hf']; rfl) (by simp only [List.getElem?_map, hy]; rfl) n hn
      obtain ⟨a, q0, r0⟩ := d0.ok _ _ _ h0 (sz 0 _ _ rfl rfl)
      obtain ⟨b, q1, r1⟩ := d1.ok _ _ _ h1 (sz 1 _ _ rfl rfl)
      obtain ⟨c, q2, r2⟩ := d2.ok _ _ _ h2 (sz 2 _ _ rfl rfl)
      obtain ⟨d, q3, r3⟩ := d3.ok _ _ _ h3 (sz 3 _ _ rfl rfl)
      refine ⟨(a, b, c, d), ⟨q0, q1, q2, q3⟩, ?_⟩
      have := r0.append (r1.append (r2.append r3))
      have e3 : (cs.drop f3.offset).take (P.cellsOf f3.type) = cs.drop f3.offset := List.take_of_length_le (by simp; omega)
      have e2 : (cs.drop f2.offset).take (P.cellsOf f2.type) ++ cs.drop f3.offset = cs.drop f2.offset := by
        rw [c3, ← List.drop_drop, List.take_append_drop]
      have e1 : (cs.drop f1.offset).take (P.cellsOf f1.type) ++ cs.drop f2.offset = cs.drop f1.offset := by
        rw [c2, ← List.drop_drop, List.take_append_drop]
      rw [e3, e2, e1, c0, c1, List.drop_zero, List.take_append_drop] at this
      exact this

/-! ### arguments -/
theorem Dec.arg_i64 {α : Type} {g : α → AV} {Q : α → Prop} {r : Reach} {b0 : Nat} {v : Value} {x : DataW H} {ps : List MemPlace} (d : Dec enc P W E t (fun a => [g a]) Q) (ht : P.underlying t = some (.int .i64)) (hv : Value.okWide P W r b0 t v)
    (h : DataW.Trod enc P W 0 (fun _ => true) true t v x ps) (hs : Sized P t x) : ∃ a, Q a ∧ VRel E (Cx.start W) (g a) v := by
  obtain ⟨n, rfl⟩ := okWide_int ht hv
  obtain ⟨fuel, hf⟩ := h
  obtain ⟨a, h1, h2⟩ := d.ok _ _ _ hf hs
  obtain ⟨u, e, h3⟩ := h2.one'
  simp [Value.cells] at e
  exact ⟨a, h1, e ▸ h3⟩
theorem Dec.arg_slice {α : Type} {e : TypeId} {g : α → AV} {Q : α → Prop} {r : Reach} {b0 : Nat} {v : Value} {x : DataW H} {ps : List MemPlace} (d : Dec enc P W E t (fun a => [g a]) Q) (ht : P.underlying t = some (.slice e)) (hv : Value.okWide P W r b0 t v)
    (h : DataW.Trod enc P W 0 (fun _ => true) true t v x ps) (hs : Sized P t x) : ∃ a, Q a ∧ VRel E (Cx.start W) (g a) v := by
  obtain ⟨p, len, cap, rfl⟩ := okWide_slice ht hv
  obtain ⟨fuel, hf⟩ := h
  obtain ⟨a, h1, h2⟩ := d.ok _ _ _ hf hs
  obtain ⟨u, e, h3⟩ := h2.one'
  simp [Value.cells] at e
  exact ⟨a, h1, e ▸ h3⟩
theorem Dec.arg_str {α : Type} {g : α → AV} {Q : α → Prop} {r : Reach} {b0 : Nat} {v : Value} {x : DataW H} {ps : List MemPlace} (d : Dec enc P W E t (fun a => [g a]) Q) (ht : P.underlying t = some .string) (hv : Value.okWide P W r b0 t v)
    (h : DataW.Trod enc P W 0 (fun _ => true) true t v x ps) (hs : Sized P t x) : ∃ a, Q a ∧ VRel E (Cx.start W) (g a) v := by
  obtain ⟨n, rfl⟩ := okWide_string ht hv
  obtain ⟨fuel, hf⟩ := h
  obtain ⟨a, h1, h2⟩ := d.ok _ _ _ hf hs
  obtain ⟨u, e, h3⟩ := h2.one'
  simp [Value.cells] at e
  exact ⟨a, h1, e ▸ h3⟩
theorem Dec.arg_bool {α : Type} {g : α → AV} {Q : α → Prop} {r : Reach} {b0 : Nat} {v : Value} {x : DataW H} {ps : List MemPlace} (d : Dec enc P W E t (fun a => [g a]) Q) (ht : P.underlying t = some .bool) (hv : Value.okWide P W r b0 t v)
    (h : DataW.Trod enc P W 0 (fun _ => true) true t v x ps) (hs : Sized P t x) : ∃ a, Q a ∧ VRel E (Cx.start W) (g a) v := by
  obtain ⟨n, rfl⟩ := okWide_bool ht hv
  obtain ⟨fuel, hf⟩ := h
  obtain ⟨a, h1, h2⟩ := d.ok _ _ _ hf hs
  obtain ⟨u, e, h3⟩ := h2.one'
  simp [Value.cells] at e
  exact ⟨a, h1, e ▸ h3⟩
theorem Dec.arg_struct {α : Type} {fs : Array Field} {f : α → List AV} {Q : α → Prop} {r : Reach} {b0 : Nat} {v : Value} {x : DataW H} {ps : List MemPlace} (d : Dec enc P W E t f Q) (ht : P.underlying t = some (.struct fs)) (hv : Value.okWide P W r b0 t v)
    (h : DataW.Trod enc P W 0 (fun _ => true) true t v x ps) (hs : Sized P t x) : ∃ a, Q a ∧ VRel E (Cx.start W) (.agg (f a)) v := by
  obtain ⟨cs, rfl, _⟩ := okWide_struct ht hv
  obtain ⟨fuel, hf⟩ := h
  obtain ⟨a, h1, h2⟩ := d.ok _ _ _ hf hs
  refine ⟨a, h1, ?_⟩
  simp only [VRel]
  exact ⟨cs.toList, by simp, by simpa [Value.cells] using h2⟩

/-! ### variables -/
theorem len_of_reach {n b : Nat} (h : n * b ≤ reachBytes) (hb : 0 < b) : n < 140737488355328 := by
  have h1 : n * 1 ≤ n * b := Nat.mul_le_mul_left n hb
  have h2 : reachBytes < 140737488355328 := by decide
  omega
theorem laid_at {l : List (String × DataW Unit)} {n : String} {d : DataW Unit} : ∀ {l : List (String × DataW Unit)} {ps : List MemPlace}, DataW.LaidVars P W l ps → (n, d) ∈ l → ∃ g t cs fuel p, P.globalNamed n = some g ∧ (P.globals[g]?).map (·.type) = some t ∧ W.var? P n = some cs ∧ DataW.trod (fun _ => ()) P W 0 (fun _ => true) false fuel t cs.toList = some (d, p)
  | [], _, _, hm => by simp at hm
  | (n', d') :: l, ps, h, hm => by
    obtain ⟨g, t, cs, fuel, p, q, h1, h2, h3, h4, h5, _⟩ := h
    rcases List.mem_cons.1 hm with e | hm
    · injection e with e1 e2
      subst e1; subst e2
      exact ⟨g, t, cs, fuel, p, h1, h2, h3, h4⟩
    · exact laid_at (l := l) h5 hm
/-- an array of numbers -/
theorem laid_ints {l : List (String × DataW Unit)} {n : String} {zs : List Int} {g : Nat} {ty e : TypeId} {m : Nat} (h : laidMetH P l W) (hm : (n, DataW.agg (zs.map fun z => .lit (.int .i64 z))) ∈ l) (hn : P.globalNamed n = some g) (ht : (P.globals[g]?).map (·.type) = some ty)
    (hu : P.underlying ty = some (.array m e)) (he : P.underlying e = some (.int .i64)) (hc : P.cellsOf e = 1) (hct : P.cellsOf ty = m) : CRel E (Cx.start W) (zs.map fun z => Z z) g 0 := by
  obtain ⟨h1, _⟩ := laidMetH_iff.1 h
  obtain ⟨ps, h2, _⟩ := h1
  obtain ⟨g', t', cs, fuel, p, k1, k2, k3, k4⟩ := laid_at (l := l) h2 (List.mem_filter.2 ⟨hm, by rfl⟩)
  rw [hn] at k1; injection k1 with k1; subst k1
  rw [ht] at k2; injection k2 with k2; subst k2
  obtain ⟨xs, m', _, hx, hl, hxl, hxs⟩ := DataW.trod_array hu k4
  simp only [World.var?, hn, Option.bind_some] at k3
  split at k3
  · rename_i cs' ty' fr hW
    injection k3 with k3; subst k3
    have hlt : g < W.heap.size := by
      by_cases h : g < W.heap.size
      · exact h
      · rw [Array.getElem?_eq_none (by omega)] at hW; cases hW
    injection hx with hx1 hx2
    injection hx1 with hx1
    refine crel_start hlt fun i y hi => ?_
    obtain ⟨z, hz, rfl⟩ : ∃ z, zs[i]? = some z ∧ y = Z z := by
      rw [List.getElem?_map] at hi
      obtain ⟨z, hz, rfl⟩ := Option.map_eq_some_iff.1 hi
      exact ⟨z, hz, rfl⟩
    have hxi : (xs.map (·.1))[i]? = some (.lit (.int .i64 z)) := by rw [← hx1, List.getElem?_map, hz]; rfl
    rw [List.getElem?_map] at hxi
    obtain ⟨⟨d, q⟩, hd, hd2⟩ := Option.map_eq_some_iff.1 hxi
    simp only at hd2
    subst hd2
    have him : i < m := by have := lt_of_get hd; omega
    have hb := hxs i him
    rw [hd, hc, Nat.mul_one] at hb
    obtain ⟨w, hw1, hw2, _⟩ := DataW.trod_int he hb
    injection hw2 with hw2
    injection hw2 with hw2
    injection hw2 with _ hw2
    subst hw2
    refine ⟨.int .i64 z, ?_, by simp [VRel]⟩
    simp only [World.cell?, hW]
    have hcs : cs'.toList[i]? = some (.int .i64 z) := by
      have hil : i < cs'.toList.length := by omega
      have := congrArg (·[0]?) hw1
      simp only [List.getElem?_take, List.getElem?_drop, List.getElem?_cons_zero] at this
      simpa using this
    simpa using hcs
  · cases k3
end
end Go.Sc
