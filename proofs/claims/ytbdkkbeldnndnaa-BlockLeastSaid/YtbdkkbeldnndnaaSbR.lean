/-
  ARGUMENTS AS ABSTRACT VALUES: what a call is given lies in memory that the call does not write: frozen.
-/
import Derived.Test.YtbdkkbeldnndnaaSbP1
import Derived.Below
import Derived.ChangeArms
namespace Go.Sb
open Go Go.RowKit
set_option linter.unusedVariables false

/-- the context as a call begins: all that is there is frozen -/
def Cx.start (W : World) : Cx := { w := W, al := fun _ => 0, base := fun _ => 0, gen := fun _ => none, sz := fun _ => 0, csz := fun _ => 0, fz := fun b => b < W.heap.size, ctr := 0 }
theorem HRel.start (E : Env) (W : World) : HRel E (Cx.start W) ⟨[], 0⟩ := ⟨rfl, fun _ _ => rfl, by simp, by simp, by simp, by simp, fun _ h => h⟩
theorem Later.below {W : World} {c : Cx} (h : Later (Cx.start W) c) : Below W.heap.size W c.w :=
  ⟨h.os, h.tape, h.output, h.size, fun k hk => h.keep k hk fun b hb => absurd rfl hb⟩

/-- a law's call -/
theorem calls_law {E : Env} {P : Program} {f : FuncId} {fn : Func} {n : Ann} {args : List AV} {r : Value} {W : World} (hf : P.funcs[f]? = some fn) (h : bodyW E P fn n args ⟨[], 0⟩ (fun x _ => x = .val r)) {vs : List Value} (hv : LRel E (Cx.start W) args vs) :
    Calls P f vs.toArray W fun e w' => e = .returned r ∧ Below W.heap.size W w' := by
  refine (calls_of_body hf h (HRel.start E W) hv).mono ?_
  rintro e w' ⟨x, v, c', H', rfl, rfl, rfl, _, hv, hl⟩
  simp only [VRel] at hv
  subst hv
  exact ⟨rfl, hl.below⟩

theorem crel_of {E : Env} {c : Cx} {b : Nat} : ∀ {xs : List AV} {o : Nat}, (∀ (i : Nat) x, xs[i]? = some x → ∃ u, c.w.cell? ⟨b, o + i, none⟩ = some u ∧ VRel E c x u) → CRel E c xs b o
  | [], _, _ => by simp [CRel]
  | x :: xs, o, h => by
    simp only [CRel]
    refine ⟨h 0 x rfl, crel_of fun i y hy => ?_⟩
    obtain ⟨u, h1, h2⟩ := h (i + 1) y (by simpa using hy)
    exact ⟨u, by rw [← h1]; congr 2; omega, h2⟩
theorem list_of {α : Type} {Q : Nat → α → Prop} : ∀ n, (∀ i, i < n → ∃ x, Q i x) → ∃ xs : List α, xs.length = n ∧ ∀ (i : Nat) x, xs[i]? = some x → Q i x
  | 0, _ => ⟨[], rfl, by simp⟩
  | n + 1, h => by
    obtain ⟨xs, h1, h2⟩ := list_of n fun i hi => h i (by omega)
    obtain ⟨y, hy⟩ := h n (by omega)
    refine ⟨xs ++ [y], by simp [h1], fun i x hx => ?_⟩
    by_cases hi : i < xs.length
    · rw [List.getElem?_append_left hi] at hx; exact h2 i x hx
    · have hl := lt_of_get hx
      simp at hl
      have : i = xs.length := by omega
      subst this
      simp at hx
      rw [h1]; exact hx ▸ hy

section
variable {H : Type} {enc : TypeId × Value → H} {P : Program} {W : World} {E : Env} {fuel : Nat} {t : TypeId} {cs : List Value} {x : DataW H × List MemPlace}

theorem cells_one {a : Addr} {i : Nat} {vs : List Value} (h : W.cells? 0 (a.add (i * 1)) 1 = some vs) : ∃ v, vs = [v] ∧ W.cell? (a.add i) = some v := by
  simp only [World.cells?, Nat.zero_le, if_true, Nat.mul_one] at h
  simp only [List.range_succ, List.range_zero, List.nil_append, List.mapM_cons, List.mapM_nil, Option.pure_def, Option.bind_eq_bind, Option.bind_eq_some_iff, Option.some.injEq] at h
  obtain ⟨v, h1, vs', rfl, rfl⟩ := h
  refine ⟨v, rfl, ?_⟩
  have : (a.add i).add 0 = a.add i := by simp [Addr.add]
  rwa [this] at h1

/-- an integer -/
theorem trod_int64 (ht : P.underlying t = some (.int .i64)) (h : DataW.trod enc P W 0 (fun _ => true) true fuel t cs = some x) : ∃ z, cs = [.int .i64 z] := by
  obtain ⟨n, h1, _⟩ := DataW.trod_int ht h
  exact ⟨n, h1⟩
/-- a slice of one-cell elements -/
theorem trod_Sl {e : TypeId} (ht : P.underlying t = some (.slice e)) (hc : P.cellsOf e = 1) {Q : AV → Prop} (hQ : ∀ (m : Nat) (v : Value) (y : DataW H × List MemPlace), DataW.trod enc P W 0 (fun _ => true) true m e [v] = some y → ∃ a, VRel E (Cx.start W) a v ∧ Q a)
    (h : DataW.trod enc P W 0 (fun _ => true) true fuel t cs = some x) : ∃ v, cs = [v] ∧ ∃ a xs, VRel E (Cx.start W) a v ∧ Sl a xs ∧ ∀ y ∈ xs, Q y := by
  rcases DataW.trod_slice ht h with ⟨rfl, _⟩ | ⟨a, len, cap, elems, rest, n, _, rfl, _, _, hl, _, hel, he, hr, _⟩
  · exact ⟨_, rfl, nilS, [], by simp [nilS, VRel], .inl ⟨rfl, rfl⟩, by simp⟩
  · refine ⟨_, rfl, ?_⟩
    obtain ⟨hr1, hr2⟩ := hr rfl
    have hcell : ∀ i, i < len → ∃ v y, W.cell? (a.add i) = some v ∧ DataW.trod enc P W 0 (fun _ => true) true n e [v] = some y := by
      intro i hi
      have h1 := he i hi
      rw [hc, List.getElem?_eq_getElem (by omega)] at h1
      simp only [Option.bind_eq_some_iff] at h1
      obtain ⟨vs, h2, h3⟩ := h1
      obtain ⟨v, rfl, h4⟩ := cells_one h2
      exact ⟨v, _, h4, h3⟩
    have hrest : ∀ j, j < cap - len → ∃ v, W.cell? (a.add (len + j)) = some v := by
      intro i hi
      have h1 := hr2 i hi
      rw [hc, List.getElem?_eq_getElem (by omega)] at h1
      simp only [Option.bind_eq_some_iff] at h1
      obtain ⟨vs, h2, h3⟩ := h1
      obtain ⟨v, rfl, h4⟩ := cells_one h2
      exact ⟨v, h4⟩
    have hzero : cap = 0 ∨ ∃ v, W.cell? a = some v := by
      by_cases h0 : 0 < len
      · obtain ⟨v, _, h1, _⟩ := hcell 0 h0
        exact .inr ⟨v, by simpa [Addr.add] using h1⟩
      · by_cases h1 : 0 < cap
        · obtain ⟨v, h2⟩ := hrest 0 (by omega)
          have : len = 0 := by omega
          subst this
          exact .inr ⟨v, by simpa [Addr.add] using h2⟩
        · exact .inl (by omega)
    obtain ⟨xs, hx1, hx2⟩ := list_of (Q := fun i x => ∃ v, W.cell? (a.add i) = some v ∧ VRel E (Cx.start W) x v ∧ Q x) len fun i hi => by
      obtain ⟨v, y, h1, h2⟩ := hcell i hi
      obtain ⟨z, h3, h4⟩ := hQ n v y h2
      exact ⟨z, v, h1, h3, h4⟩
    refine ⟨.slF xs 0 xs.length, xs, ?_, .inr rfl, fun y hy => ?_⟩
    · simp only [VRel]
      refine ⟨a, cap, by rw [hx1], by omega, hzero.imp id ?_⟩
      rintro ⟨v, hv⟩
      obtain ⟨blk, off, spot⟩ := a
      have hspot : spot = none := by
        simp only [World.cell?] at hv
        split at hv
        · cases spot with
          | none => rfl
          | some s => simp at hv
        · cases hv
      subst hspot
      refine ⟨blk, off, by simp, .inr ?_, crel_of fun i x hx => ?_⟩
      · show blk < W.heap.size
        simp only [World.cell?] at hv
        by_cases hb : blk < W.heap.size
        · exact hb
        · rw [Array.getElem?_eq_none (by omega)] at hv; cases hv
      · obtain ⟨v, h1, h2, _⟩ := hx2 i x hx
        refine ⟨v, ?_, h2⟩
        have : (⟨blk, off, none⟩ : Addr).add i = ⟨blk, off + i, none⟩ := by
          simp only [Addr.add]; split
          · rename_i h; subst h; rfl
          · rfl
        rw [this] at h1
        exact h1
    · obtain ⟨i, hi, rfl⟩ := List.getElem_of_mem hy
      obtain ⟨_, _, _, h⟩ := hx2 i _ (List.getElem?_eq_getElem hi)
      exact h

theorem ints_of : ∀ {xs : List AV}, (∀ y ∈ xs, ∃ z, y = .val (.int .i64 z)) → ∃ l, xs = ints l
  | [], _ => ⟨[], rfl⟩
  | x :: xs, h => by
    obtain ⟨z, rfl⟩ := h x List.mem_cons_self
    obtain ⟨l, rfl⟩ := ints_of fun y hy => h y (List.mem_cons_of_mem _ hy)
    exact ⟨z :: l, rfl⟩
theorem allInts_of : ∀ {xs : List AV}, (∀ y ∈ xs, ∃ l, Ints y l) → ∃ t, AllInts xs t
  | [], _ => ⟨[], AllInts.nil⟩
  | x :: xs, h => by
    obtain ⟨l, hl⟩ := h x List.mem_cons_self
    obtain ⟨t, h1, h2⟩ := allInts_of fun y hy => h y (List.mem_cons_of_mem _ hy)
    refine ⟨l :: t, by simp [h1], fun i y hy => ?_⟩
    cases i with
    | zero => simp at hy; subst hy; exact ⟨l, rfl, hl⟩
    | succ i => exact h2 i y (by simpa using hy)
/-- a slice of integers -/
theorem trod_Ints {e : TypeId} (ht : P.underlying t = some (.slice e)) (he : P.underlying e = some (.int .i64)) (hc : P.cellsOf e = 1) (h : DataW.trod enc P W 0 (fun _ => true) true fuel t cs = some x) : ∃ v, cs = [v] ∧ ∃ a l, VRel E (Cx.start W) a v ∧ Ints a l := by
  obtain ⟨v, rfl, a, xs, h1, h2, h3⟩ := trod_Sl (E := E) ht hc (Q := fun y => ∃ z, y = .val (.int .i64 z)) (fun m v y hy => by
    obtain ⟨z, hz⟩ := trod_int64 he hy
    injection hz with hz
    exact ⟨.val (.int .i64 z), by simp [VRel, hz], z, rfl⟩) h
  obtain ⟨l, rfl⟩ := ints_of h3
  exact ⟨v, rfl, a, l, h1, h2⟩
/-- a slice of slices of integers -/
theorem trod_Rows {e e' : TypeId} (ht : P.underlying t = some (.slice e)) (he : P.underlying e = some (.slice e')) (he' : P.underlying e' = some (.int .i64)) (hc : P.cellsOf e = 1) (hc' : P.cellsOf e' = 1) (h : DataW.trod enc P W 0 (fun _ => true) true fuel t cs = some x) :
    ∃ v, cs = [v] ∧ ∃ a l, VRel E (Cx.start W) a v ∧ Rows a l := by
  obtain ⟨v, rfl, a, xs, h1, h2, h3⟩ := trod_Sl (E := E) ht hc (Q := fun y => ∃ l, Ints y l) (fun m v y hy => by
    obtain ⟨u, hu, a, l, h1, h2⟩ := trod_Ints (E := E) he he' hc' hy
    injection hu with hu
    subst hu
    exact ⟨a, h1, l, h2⟩) h
  obtain ⟨t, ht⟩ := allInts_of h3
  exact ⟨v, rfl, a, t, h1, xs, h2, ht⟩
end
end Go.Sb
