/-
  ARGUMENTS AS ABSTRACT VALUES: what a call is given lies in memory that the call does not write: frozen.
-/
import Derived.Test.YtdhcpnachceklaaDoorScO2
import Derived.Below
import Derived.ChangeArms
namespace Go.Sc
open Go Go.RowKit
set_option linter.unusedVariables false

/-- the context as a call begins: all that is there is frozen -/
def Cx.start (W : World) : Cx := { w := W, al := fun _ => 0, base := fun _ => 0, gen := fun _ => none, sz := fun _ => 0, csz := fun _ => 0, fz := fun b => b < W.heap.size, fc := fun _ _ => False, ctr := 0 }
/-- what is known of variables is so -/
def Env.met (E : Env) (W : World) : Prop := ∀ g cs, E.gl g = some cs → AV.closedL cs ∧ CRel E (Cx.start W) cs (E.gn g) 0
theorem HRel.start {E : Env} {W : World} (hg : E.met W) : HRel E (Cx.start W) ⟨[], 0⟩ :=
  ⟨rfl, fun _ _ => rfl, by simp, fun _ h => absurd rfl h, by simp, fun _ _ h => absurd rfl h, fun _ h => absurd rfl h, fun _ h => h, fun _ _ h => h.elim, hg⟩
theorem Later.below {W : World} {c : Cx} (h : Later (Cx.start W) c) : Below W.heap.size W c.w :=
  ⟨h.os, h.tape, h.output, h.size, fun k hk => h.keep k hk fun b hb => absurd rfl hb⟩

/-- a law's call -/
theorem calls_law {E : Env} {P : Program} {f : FuncId} {fn : Func} {n : Ann} {args : List AV} {r : Value} {W : World} (hf : P.funcs[f]? = some fn) (h : bodyW E P fn n args ⟨[], 0⟩ (fun x _ => x = .val r)) {vs : List Value} (hv : LRel E (Cx.start W) args vs) (hg : E.met W) :
    Calls P f vs.toArray W fun e w' => e = .returned r ∧ Below W.heap.size W w' := by
  refine (calls_of_body hf h (HRel.start hg) hv).mono ?_
  rintro e w' ⟨x, v, c', H', rfl, rfl, rfl, _, hv, hl⟩
  simp only [VRel] at hv
  subst hv
  exact ⟨rfl, hl.below⟩

theorem rel_str {E : Env} {c : Cx} (b : ByteArray) : VRel E c (S b.data.toList) (.string b) := by simp only [VRel]
theorem HRel.start' {E : Env} {W : World} (hg : E.met W) (m : Nat) : HRel E (Cx.start W) ⟨List.replicate m .dead, 0⟩ :=
  ⟨rfl, fun _ _ => rfl, fun i x hx => by
    have : x = .dead := by
      have := List.mem_of_getElem? hx
      exact List.eq_of_mem_replicate this
    subst this
    rfl, fun _ h => absurd rfl h, fun i x hx hd => by
    have : x = .dead := List.eq_of_mem_replicate (List.mem_of_getElem? hx)
    exact absurd this hd, fun _ _ h => absurd rfl h, fun _ h => absurd rfl h, fun _ h => h, fun _ _ h => h.elim, hg⟩
/-- a law's call, with room for blocks -/
theorem calls_law' {E : Env} {P : Program} {f : FuncId} {fn : Func} {n : Ann} {args : List AV} {r : Value} {W : World} (m : Nat) (hf : P.funcs[f]? = some fn) (h : bodyW E P fn n args ⟨List.replicate m .dead, 0⟩ (fun x _ => x = .val r)) {vs : List Value} (hv : LRel E (Cx.start W) args vs) (hg : E.met W) :
    Calls P f vs.toArray W fun e w' => e = .returned r ∧ Below W.heap.size W w' := by
  refine (calls_of_body hf h (HRel.start' hg m) hv).mono ?_
  rintro e w' ⟨x, v, c', H', rfl, rfl, rfl, _, hv, hl⟩
  simp only [VRel] at hv
  subst hv
  exact ⟨rfl, hl.below⟩

theorem crel_start {E : Env} {W : World} {b : Nat} (hb : b < W.heap.size) {xs : List AV} {o : Nat} (h : ∀ (i : Nat) x, xs[i]? = some x → ∃ u, W.cell? ⟨b, o + i, none⟩ = some u ∧ VRel E (Cx.start W) x u) : CRel E (Cx.start W) xs b o :=
  CRel.of fun i x hi => ⟨.inl hb, h i x hi⟩
theorem list_of {α : Type} {Q : Nat → α → Prop} : ∀ n, (∀ i, i < n → ∃ x, Q i x) → ∃ xs : List α, xs.length = n ∧ ∀ (i : Nat) x, xs[i]? = some x → Q i x
  | 0, _ => ⟨[], rfl, by simp⟩
  | n + 1, h => by
    obtain ⟨xs, h1, h2⟩ := list_of n fun i hi => h i (by omega)
    obtain ⟨y, hy⟩ := h n (by omega)
    refine ⟨xs ++ [y], by simp [h1], fun i x hx => ?_⟩
    by_cases hi : i < xs.length
    · rw [List.getElem?_append_left hi] at hx; exact h2 i x hx
    · have hl := lt_of_get hx
      simp at hl
      have : i = xs.length := by omega
      subst this
      simp at hx
      rw [h1]; exact hx ▸ hy

section
variable {H : Type} {enc : TypeId × Value → H} {P : Program} {W : World} {E : Env} {fuel : Nat} {t : TypeId} {cs : List Value} {x : DataW H × List MemPlace}

theorem cells_one {a : Addr} {i : Nat} {vs : List Value} (h : W.cells? 0 (a.add (i * 1)) 1 = some vs) : ∃ v, vs = [v] ∧ W.cell? (a.add i) = some v := by
  simp only [World.cells?, Nat.zero_le, if_true, Nat.mul_one] at h
  simp only [List.range_succ, List.range_zero, List.nil_append, List.mapM_cons, List.mapM_nil, Option.pure_def, Option.bind_eq_bind, Option.bind_eq_some_iff, Option.some.injEq] at h
  obtain ⟨v, h1, vs', rfl, rfl⟩ := h
  refine ⟨v, rfl, ?_⟩
  have : (a.add i).add 0 = a.add i := by simp [Addr.add]
  rwa [this] at h1

theorem trod_i64 (ht : P.underlying t = some (.int .i64)) (h : DataW.trod enc P W 0 (fun _ => true) true fuel t cs = some x) : ∃ z, cs = [.int .i64 z] := by
  obtain ⟨n, h1, _⟩ := DataW.trod_int ht h
  exact ⟨n, h1⟩
theorem trod_i64r (ht : P.underlying t = some (.int .i64)) (h : DataW.trod enc P W 0 (fun _ => true) true fuel t cs = some x) : ∃ z, cs = [.int .i64 z] ∧ -9223372036854775808 ≤ z ∧ z ≤ 9223372036854775807 := by
  obtain ⟨n, h1, _, h2⟩ := DataW.trod_int ht h
  exact ⟨n, h1, by simpa [Lit.wf, IntKind.min, IntKind.max, IntKind.signed, IntKind.bits] using h2⟩
theorem trod_str (ht : P.underlying t = some .string) (h : DataW.trod enc P W 0 (fun _ => true) true fuel t cs = some x) : ∃ s : Str, cs = [.string ⟨s.toArray⟩] ∧ s.length ≤ maxLen := by
  obtain ⟨b, rfl, _, hb⟩ := DataW.trod_string ht h
  refine ⟨b.data.toList, ?_, ?_⟩
  · congr 2
  · have : b.data.toList.length = b.size := Array.length_toList
    omega
theorem trod_boo (ht : P.underlying t = some .bool) (h : DataW.trod enc P W 0 (fun _ => true) true fuel t cs = some x) : ∃ b, cs = [.bool b] := by
  obtain ⟨b, h1, _⟩ := DataW.trod_bool ht h
  exact ⟨b, h1⟩

theorem cells_get {a : Addr} {n : Nat} {vs : List Value} (h : W.cells? 0 a n = some vs) : vs.length = n ∧ ∀ j v, vs[j]? = some v → W.cell? (a.add j) = some v := by
  simp only [World.cells?, Nat.zero_le, if_true] at h
  have hl : vs.length = n := by simpa using mapM_some_length h
  refine ⟨hl, fun j v hj => ?_⟩
  have hjn := lt_of_get hj
  have := mapM_some_get h j j (by rw [List.getElem?_range (by omega)])
  rw [this, hj]
theorem cell_spot {a : Addr} {v : Value} (h : W.cell? a = some v) : a.spot = none ∧ a.block < W.heap.size := by
  simp only [World.cell?] at h
  split at h
  · rename_i hb
    refine ⟨?_, ?_⟩
    · cases hs : a.spot with
      | none => rfl
      | some s => simp [hs] at h
    · by_cases hb' : a.block < W.heap.size
      · exact hb'
      · rw [Array.getElem?_eq_none (by omega)] at hb; cases hb
  · cases h
theorem crel_flat {α : Type} {f : α → List AV} {n b : Nat} (hb : b < W.heap.size) (hn : ∀ a, (f a).length = n) : ∀ (xs : List α) (o : Nat), (∀ (i : Nat) x, xs[i]? = some x → ∃ vs : List Value, LRel E (Cx.start W) (f x) vs ∧ ∀ j v, vs[j]? = some v → W.cell? ⟨b, o + i * n + j, none⟩ = some v) → CRel E (Cx.start W) (xs.map f).flatten b o
  | [], _, _ => by simp [CRel]
  | x :: xs, o, h => by
    simp only [List.map_cons, List.flatten_cons]
    refine CRel.append (crel_start hb fun i y hi => ?_) ?_
    · obtain ⟨vs, h1, h2⟩ := h 0 x rfl
      obtain ⟨u, h3, h4⟩ := h1.get hi
      exact ⟨u, by simpa using h2 i u h3, h4⟩
    · rw [hn]
      refine crel_flat hb hn xs (o + n) fun i y hi => ?_
      obtain ⟨vs, h1, h2⟩ := h (i + 1) y (by simpa using hi)
      refine ⟨vs, h1, fun j v hj => ?_⟩
      rw [← h2 j v hj]
      congr 2
      rw [Nat.add_mul]; omega

/-- a slice of elements of 'n' cells each, each as 'f' tells it -/
theorem trod_list {α : Type} {e : TypeId} {n : Nat} {f : α → List AV} {Q : α → Prop} (hn : ∀ a, (f a).length = n) (h0 : 0 < n) (ht : P.underlying t = some (.slice e)) (hc : P.cellsOf e = n)
    (hQ : ∀ (m : Nat) (vs : List Value) (y : DataW H × List MemPlace), vs.length = n → DataW.trod enc P W 0 (fun _ => true) true m e vs = some y → ∃ a, Q a ∧ LRel E (Cx.start W) (f a) vs)
    (h : DataW.trod enc P W 0 (fun _ => true) true fuel t cs = some x) : ∃ v, cs = [v] ∧ ∃ xs : List α, (∀ x ∈ xs, Q x) ∧ xs.length ≤ maxLen ∧ VRel E (Cx.start W) (.slN (xs.map f).flatten xs.length) v := by
  rcases DataW.trod_slice ht h with ⟨rfl, _⟩ | ⟨a, len, cap, elems, rest, m, _, rfl, _, _, hl, hmx, hel, he, hr, _⟩
  · exact ⟨_, rfl, [], by simp, by simp, by simp [VRel]⟩
  · refine ⟨_, rfl, ?_⟩
    obtain ⟨hr1, hr2⟩ := hr rfl
    have hcell : ∀ i, i < len → ∃ vs y, W.cells? 0 (a.add (i * n)) n = some vs ∧ DataW.trod enc P W 0 (fun _ => true) true m e vs = some y := by
      intro i hi
      have h1 := he i hi
      rw [hc, List.getElem?_eq_getElem (by omega)] at h1
      simp only [Option.bind_eq_some_iff] at h1
      obtain ⟨vs, h2, h3⟩ := h1
      exact ⟨vs, _, h2, h3⟩
    have hzero : cap = 0 ∨ ∃ v, W.cell? a = some v := by
      by_cases hl0 : 0 < len
      · obtain ⟨vs, _, h1, _⟩ := hcell 0 hl0
        obtain ⟨g1, g2⟩ := cells_get h1
        have : vs[0]? = some vs[0] := List.getElem?_eq_getElem (by omega)
        exact .inr ⟨_, by simpa [Addr.add] using g2 0 _ this⟩
      · by_cases hcp : 0 < cap
        · have h1 := hr2 0 (by omega)
          rw [hc, List.getElem?_eq_getElem (by omega)] at h1
          simp only [Option.bind_eq_some_iff] at h1
          obtain ⟨vs, h2, _⟩ := h1
          obtain ⟨g1, g2⟩ := cells_get h2
          have : vs[0]? = some vs[0] := List.getElem?_eq_getElem (by omega)
          have hlen0 : len = 0 := by omega
          subst hlen0
          exact .inr ⟨_, by simpa [Addr.add] using g2 0 _ this⟩
        · exact .inl (by omega)
    obtain ⟨xs, hx1, hx2⟩ := list_of (Q := fun i (x : α) => Q x ∧ ∃ vs : List Value, LRel E (Cx.start W) (f x) vs ∧ ∀ j v, vs[j]? = some v → W.cell? ((a.add (i * n)).add j) = some v) len fun i hi => by
      obtain ⟨vs, y, h1, h2⟩ := hcell i hi
      obtain ⟨g1, g2⟩ := cells_get h1
      obtain ⟨z, h3, h4⟩ := hQ m vs y g1 h2
      exact ⟨z, h3, vs, h4, g2⟩
    refine ⟨xs, fun x hx => ?_, by omega, ?_⟩
    · obtain ⟨i, hi, rfl⟩ := List.getElem_of_mem hx
      exact (hx2 i _ (List.getElem?_eq_getElem hi)).1
    · simp only [VRel]
      refine .inr ⟨a, cap, by rw [hx1], by omega, hzero.imp id ?_⟩
      rintro ⟨v, hv⟩
      have hs := cell_spot hv
      obtain ⟨blk, off, spot⟩ := a
      have hspot : spot = none := hs.1
      subst hspot
      refine ⟨blk, off, rfl, crel_flat hs.2 hn xs off fun i x hi => ?_⟩
      obtain ⟨_, vs, h1, h2⟩ := hx2 i x hi
      refine ⟨vs, h1, fun j v hj => ?_⟩
      have := h2 j v hj
      rwa [Addr.add_at, Addr.add_at] at this
theorem flat_single {α : Type} {f : α → AV} (xs : List α) : (xs.map fun x => [f x]).flatten = xs.map f := by
  induction xs with
  | nil => rfl
  | cons x xs ih => simp [ih]
/-- of elements of one cell -/
theorem trod_list1 {α : Type} {e : TypeId} {f : α → AV} {Q : α → Prop} (ht : P.underlying t = some (.slice e)) (hc : P.cellsOf e = 1)
    (hQ : ∀ (m : Nat) (v : Value) (y : DataW H × List MemPlace), DataW.trod enc P W 0 (fun _ => true) true m e [v] = some y → ∃ a, Q a ∧ VRel E (Cx.start W) (f a) v)
    (h : DataW.trod enc P W 0 (fun _ => true) true fuel t cs = some x) : ∃ v, cs = [v] ∧ ∃ xs : List α, (∀ x ∈ xs, Q x) ∧ xs.length ≤ maxLen ∧ VRel E (Cx.start W) (Lm f xs) v := by
  obtain ⟨v, h1, xs, h2, h3, h4⟩ := trod_list (E := E) (n := 1) (f := fun a => [f a]) (Q := Q) (fun _ => rfl) (by omega) ht hc (fun m vs y hl hy => by
    obtain ⟨v, rfl⟩ := List.length_eq_one_iff.1 hl
    obtain ⟨a, h1, h2⟩ := hQ m v y hy
    exact ⟨a, h1, by simp only [LRel]; exact ⟨v, [], rfl, h2, rfl⟩⟩) h
  rw [flat_single] at h4
  exact ⟨v, h1, xs, h2, h3, h4⟩
def inI (z : Int) : Prop := -9223372036854775808 ≤ z ∧ z ≤ 9223372036854775807
theorem trod_ints {e : TypeId} (ht : P.underlying t = some (.slice e)) (he : P.underlying e = some (.int .i64)) (hc : P.cellsOf e = 1)
    (h : DataW.trod enc P W 0 (fun _ => true) true fuel t cs = some x) : ∃ v, cs = [v] ∧ ∃ xs : List Int, (∀ x ∈ xs, inI x) ∧ xs.length ≤ maxLen ∧ VRel E (Cx.start W) (Lm Z xs) v :=
  trod_list1 ht hc (fun m v y hy => by
    obtain ⟨z, hz, h2⟩ := trod_i64r he hy
    injection hz with hz
    exact ⟨z, h2, by simp [VRel, hz]⟩) h
theorem trod_strs {e : TypeId} (ht : P.underlying t = some (.slice e)) (he : P.underlying e = some .string) (hc : P.cellsOf e = 1)
    (h : DataW.trod enc P W 0 (fun _ => true) true fuel t cs = some x) : ∃ v, cs = [v] ∧ ∃ xs : List Str, (∀ x ∈ xs, x.length ≤ maxLen) ∧ xs.length ≤ maxLen ∧ VRel E (Cx.start W) (Lm S xs) v :=
  trod_list1 ht hc (fun m v y hy => by
    obtain ⟨z, hz, h2⟩ := trod_str he hy
    injection hz with hz
    exact ⟨z, h2, by simp [VRel, hz]⟩) h
theorem trod_bools {e : TypeId} (ht : P.underlying t = some (.slice e)) (he : P.underlying e = some .bool) (hc : P.cellsOf e = 1)
    (h : DataW.trod enc P W 0 (fun _ => true) true fuel t cs = some x) : ∃ v, cs = [v] ∧ ∃ xs : List Bool, (∀ x ∈ xs, True) ∧ xs.length ≤ maxLen ∧ VRel E (Cx.start W) (Lm Bo xs) v :=
  trod_list1 ht hc (fun m v y hy => by
    obtain ⟨z, hz⟩ := trod_boo he hy
    injection hz with hz
    exact ⟨z, trivial, by simp [VRel, hz]⟩) h
theorem trod_lists {α : Type} {f : α → AV} {Q : α → Prop} {e e' : TypeId} (ht : P.underlying t = some (.slice e)) (hc : P.cellsOf e = 1) (he : P.underlying e = some (.slice e')) (hc' : P.cellsOf e' = 1)
    (hQ : ∀ (m : Nat) (v : Value) (y : DataW H × List MemPlace), DataW.trod enc P W 0 (fun _ => true) true m e' [v] = some y → ∃ a, Q a ∧ VRel E (Cx.start W) (f a) v)
    (h : DataW.trod enc P W 0 (fun _ => true) true fuel t cs = some x) : ∃ v, cs = [v] ∧ ∃ xs : List (List α), (∀ l ∈ xs, (∀ x ∈ l, Q x) ∧ l.length ≤ maxLen) ∧ xs.length ≤ maxLen ∧ VRel E (Cx.start W) (Lm (Lm f) xs) v :=
  trod_list1 ht hc (fun m v y hy => by
    obtain ⟨u, hu, xs, h1, h2, h3⟩ := trod_list1 he hc' hQ hy
    injection hu with hu
    exact ⟨xs, ⟨h1, h2⟩, hu ▸ h3⟩) h
end
end Go.Sc
