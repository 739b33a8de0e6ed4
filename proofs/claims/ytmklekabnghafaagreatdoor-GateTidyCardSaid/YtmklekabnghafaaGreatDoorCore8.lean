/- CONTRACTS OUT OF THE KIT's SHELF: what writes a row of texts of the caller's: slices.Sort, slices.Compact. CONTRACTS: package expr: names and edges, sorted, each once. PLAIN LAW: a list that is sorted, each once, is told by what is in it; what is put in place by place is sorted, each once. EXPRESSIONS MADE TIDY: plain. WHAT IS TIDY STAYS AS IT IS: plain. CONTRACTS: package signalboxref: how expressions are written. CONTRACTS: package signalboxref: an expression is made tidy. CONTRACTS: package signalboxref: what an expression says, how great it is, its names and edges. CONTRACTS: package signalboxref: names and edges of an expression, put in place by place. CONTRACTS: what an expression says, of questions that are answered for some names alone. PLAIN LAW: TSEITIN: an expression as clauses: what they say, and that what is told of names determines all. THE LAW ExprBack, out of the contracts. THE LAW ExprHangs, out of the contracts. PLAIN LAWS OF TABLES, MORE: states of one block tell the same; the table of blocks tells what its states do; the inputs that are told part states at the last one alone. CONTRACTS: package block: Check, number, rounds, Blocks. CONTRACTS: package block: Blocks, Tell; and the keep's helpers. CONTRACTS: package block: Least. CONTRACTS: package block: Part. CONTRACTS: the reference's tables: TableCheck (under way). THE LAW ExprParses, out of the contracts. (of the seat YtmklekabnghafaaGreatDoor) -/
import Derived.Test.YtmklekabnghafaaGreatDoorCore7
import Derived.Sort.Row
import Derived.Sort.EncStr
import Derived.Sort.Grow
import Derived.Lib.SlicesCompact
import Derived.Lib.IndexMore
namespace Go.Sc
open Go Go.RowKit Go.Sort Go.Proofs
set_option linter.unusedSimpArgs false
set_option linter.unusedVariables false
section
variable {E : Env} {P : Program} {c : Cx} {H : AH}
theorem HRel.more (h : HRel E c H) (os : Array Obj) : HRel E { c with w := grow c.w os } H ∧ Later c { c with w := grow c.w os } := by
  have hsame : ∀ k, k < c.w.heap.size → (grow c.w os).heap[k]? = c.w.heap[k]? := fun k hk => by
    show (c.w.heap ++ os)[k]? = _
    rw [Array.getElem?_append_left hk]
  have hsz : c.w.heap.size ≤ (grow c.w os).heap.size := by show c.w.heap.size ≤ (c.w.heap ++ os).size; simp
  have hL : Later c { c with w := grow c.w os } := {
    le := ⟨Nat.le_refl _, fun b hb => ⟨hb, hsame b (h.fzlt b hb)⟩, fun k j hk => ⟨.inr hk, cell_of_heap (hsame k (h.fclt k j hk)) _ _⟩, fun b g _ e => ⟨e, rfl, rfl, rfl, rfl⟩, fun _ _ _ _ _ hj => hj⟩
    os := rfl
    tape := rfl
    output := rfl
    size := hsz
    keep := fun k hk _ => hsame k hk
    own := fun b hb => .inl ⟨b, hb, rfl⟩
    fz := fun k hk => .inl hk
    fc := fun k j hk => .inl hk }
  exact ⟨⟨h.ctr, h.out, fun b x e => (h.blk b x e).mono hL.le rfl rfl rfl rfl rfl (fun hd => hsame _ (h.lt b (h.live' e hd))), h.apart, h.solid, h.inj, fun b hb => Nat.lt_of_lt_of_le (h.lt b hb) hsz, fun b hb => Nat.lt_of_lt_of_le (h.fzlt b hb) hsz, fun b j hb => Nat.lt_of_lt_of_le (h.fclt b j hb) hsz, h.globLe hL.le⟩, hL⟩
theorem rel_texts : ∀ {l : List Str} {vs : List Value}, LRel E c (l.map fun s => S s) vs → vs = l.map encStr
  | [], vs, h => by simpa [LRel] using h
  | s :: l, vs, h => by
    simp only [List.map_cons, LRel] at h
    obtain ⟨u, us, rfl, hu, h⟩ := h
    simp only [VRel] at hu
    rw [rel_texts h, hu]
    rfl
theorem texts_rel : ∀ {l : List Str}, LRel E c (l.map fun s => S s) (l.map encStr)
  | [] => by simp [LRel]
  | s :: l => by simp only [List.map_cons, LRel]; exact ⟨_, _, rfl, by simp only [VRel], texts_rel⟩
/-- where a row of texts lies -/
theorem HRel.row (h : HRel E c H) {b g : Nat} {l : List Str} (hb : H.bs[b]? = some (.cells g 1 (l.map fun s => S s))) : ∃ p0 rest e, c.w.heap[c.al b]? = some (.cells (p0 ++ l.map encStr ++ rest).toArray e (0, 0)) ∧ p0.length = c.base b ∧ c.gen b = some g ∧ c.sz b = 1 ∧ c.csz b = (p0 ++ l.map encStr ++ rest).length := by
  have hB := h.blk b _ hb
  simp only [BRel] at hB
  obtain ⟨h1, h2, h3, arr, e, h4, h5, p0, pre, rest, rfl, h7, h8⟩ := hB
  have := rel_texts h8
  subst this
  exact ⟨p0, rest, e, h4, h7, h2, h3, h5⟩
theorem HRel.holds (h : HRel E c H) {b g : Nat} {l : List Str} (hb : H.bs[b]? = some (.cells g 1 (l.map fun s => S s))) : Holds encStr c.w (c.al b) (c.base b) l.toArray := by
  obtain ⟨p0, rest, e, h4, h7, -⟩ := h.row hb
  intro j hj
  simp at hj
  rw [← h7]
  refine ⟨?_, ?_⟩
  · simp only [World.cell?, h4]
    simp [List.getElem?_append_right, List.getElem?_append_left, hj]
  · simp [World.frozen?, h4]
theorem HRel.putTexts (h : HRel E c H) {b g : Nat} {l l' : List Str} (hl : l'.length = l.length) (hb : H.bs[b]? = some (.cells g 1 (l.map fun s => S s))) (q : Nat) (os : Array Obj) :
    HRel E { c with w := grow (putRow encStr (Sort.ahead c.w q) (c.al b) (c.base b) l'.toArray) os } ⟨H.bs.set b (.cells g 1 (l'.map fun s => S s)), H.ctr⟩ ∧ Later c { c with w := grow (putRow encStr (Sort.ahead c.w q) (c.al b) (c.base b) l'.toArray) os } := by
  obtain ⟨p0, rest, e, h4, h7, -⟩ := h.row hb
  have hlt := h.lt (b := b) (h.live' hb)
  have hheap : (putRow encStr (Sort.ahead c.w q) (c.al b) (c.base b) l'.toArray).heap = c.w.heap.setIfInBounds (c.al b) (.cells (p0 ++ l'.map encStr ++ rest).toArray e (0, 0)) := by
    have hput : putCells encStr (c.base b) l'.toArray (p0 ++ l.map encStr ++ rest).toArray = (p0 ++ l'.map encStr ++ rest).toArray := by
      apply Array.ext_getElem?
      intro k
      unfold putCells
      simp only [Array.getElem?_mapIdx, List.size_toArray, List.getElem?_toArray, ← h7]
      by_cases h1 : k < p0.length
      · rw [List.append_assoc, List.append_assoc, List.getElem?_append_left h1, List.getElem?_append_left h1]
        have : ¬ (p0.length ≤ k ∧ k < p0.length + l'.length) := by omega
        simp only [if_neg this]
        cases p0[k]? <;> rfl
      · by_cases h2 : k < p0.length + l'.length
        · have e1 : (p0 ++ l'.map encStr ++ rest)[k]? = some (encStr (l'[k - p0.length]'(by omega))) := by
            rw [List.getElem?_append_left (by simp; omega), List.getElem?_append_right (by omega), List.getElem?_map, List.getElem?_eq_getElem (by omega)]; rfl
          have e2 : ∃ v, (p0 ++ l.map encStr ++ rest)[k]? = some v := ⟨_, List.getElem?_eq_getElem (by simp; omega)⟩
          obtain ⟨v, e2⟩ := e2
          rw [e1, e2]
          have : (p0.length ≤ k ∧ k < p0.length + l'.length) := by omega
          simp only [Option.map_some, if_pos this]
          congr 2
          simp [getElem!_pos, show k - p0.length < l'.length by omega]
        · have : ¬ (p0.length ≤ k ∧ k < p0.length + l'.length) := by omega
          simp only [if_neg this]
          rw [List.getElem?_append_right (by simp; omega), List.getElem?_append_right (by simp; omega)]
          simp only [List.length_append, List.length_map, hl]
          cases rest[k - (p0.length + l.length)]? <;> rfl
    apply Array.ext_getElem?
    intro k
    unfold putRow mapBlock
    show (c.w.heap.modify (c.al b) _)[k]? = _
    rw [Array.getElem?_modify, Array.getElem?_setIfInBounds]
    by_cases hk : c.al b = k
    · subst hk
      rw [if_pos rfl, if_pos rfl, h4, if_pos hlt]
      simp only [Option.map_some, onCells, hput]
    · rw [if_neg hk, if_neg hk]
  obtain ⟨k1, k2⟩ := h.setRow (w' := putRow encStr (Sort.ahead c.w q) (c.al b) (c.base b) l'.toArray) hb h4 h7 (pre' := l'.map encStr) (by simp [hl]) texts_rel hheap rfl rfl rfl
  obtain ⟨k3, k4⟩ := k1.more os
  exact ⟨k3, k2.trans k4⟩
/-- a walk of the kit's, as a call of ours -/
theorem ACalls.ofWalk {k : Nat} {fn : Func} {args : List AV} {R : Kt} (hf : P.funcs[E.fn k]? = some fn) (hn : (fn.name == "runtime.NumGoroutine") = false) (hb : fn.body.isNone = false)
    (h : ∀ (c : Cx) (vs : List Value), HRel E c H → LRel E c args vs → Calls P (E.fn k) vs.toArray c.w fun e w' => ∃ v r c' H', e = .returned v ∧ c'.w = w' ∧ R r H' ∧ HRel E c' H' ∧ VRel E c' r v ∧ Later c c') : ACalls E P k args H R := by
  intro c vs hH hv o a next Q hnext
  have hrun : (callFunc (E.fn k) vs.toArray).run P c.w = .ok (.enter (E.fn k) vs.toArray) c.w := by
    have hn' : ¬ ((fn.name == "runtime.NumGoroutine") = true) := by rw [hn]; simp
    have hb' : ¬ (fn.body.isNone = true) := by rw [hb]; simp
    simp only [callFunc, Sem.run_bind, run_program, Result.andThen_ok, hf, if_neg hn', if_neg hb', Sem.run_pure]
  rw [hrun]
  simp only [Oper.upon]
  refine (h c vs hH hv).mono ?_
  rintro e w' ⟨v, r, c', H', rfl, h1, h2, h3, h4, h5⟩
  exact hnext v w' ⟨r, c', H', h1, h2, h3, h4, h5⟩
def sortS (l : List Str) : List Str := l.mergeSort fun x y => decide (x ≤ y)
theorem sortS_length (l : List Str) : (sortS l).length = l.length := by simp [sortS]
/-- slices.Sort of texts -/
theorem sort_calls {k : Nat} {fn : Func} (hf : P.funcs[E.fn k]? = some fn) (hn : (fn.name == "runtime.NumGoroutine") = false) (hbd : fn.body.isNone = false)
    (h0 : ∀ (p : Option Addr) (cap : Nat) (w : World), Calls P (E.fn k) #[.slice p 0 cap] w fun e w' => e = .returned (.tuple #[]) ∧ w' = w)
    (h1 : ∀ (blk off cap : Nat) (ss : List (List UInt8)) (w : World), Holds encStr w blk off ss.toArray → blk < w.heap.size → ss.length < 4611686018427387904 → Calls P (E.fn k) #[.slice (some ⟨blk, off, none⟩) ss.length cap] w fun e w' =>
      e = .returned (.tuple #[]) ∧ ∃ n os, w' = grow (putRow encStr (Sort.ahead w n) blk off (ss.mergeSort fun x y => decide (x ≤ y)).toArray) os)
    {b g : Nat} {l : List Str} (hl : l.length < 4611686018427387904) (hb : H.bs[b]? = some (.cells g 1 (l.map fun s => S s))) : ACalls E P k [.slL b 0 l.length g] H fun r H' => r = .tup [] ∧ H' = ⟨H.bs.set b (.cells g 1 ((sortS l).map fun s => S s)), H.ctr⟩ := by
  refine ACalls.ofWalk hf hn hbd fun c vs hH hv => ?_
  obtain ⟨v, rfl, hr⟩ := hv.one'
  simp only [VRel] at hr
  obtain ⟨_, p, cap, rfl, hcap, hp⟩ := hr
  obtain ⟨p0, rest, e, h4, h7, hg, _⟩ := hH.row hb
  rcases hp hg with hz | ⟨rfl, _⟩
  · subst hz
    have hl0 : l = [] := List.eq_nil_of_length_eq_zero (by omega)
    subst hl0
    refine (h0 (some p) 0 c.w).mono ?_
    rintro e w' ⟨rfl, rfl⟩
    obtain ⟨k1, k2⟩ := hH.more #[]
    refine ⟨_, .tup [], c, H, rfl, rfl, ⟨rfl, ?_⟩, hH, by simp [VRel, LRel], Later.refl c⟩
    have : sortS [] = [] := by simp [sortS]
    rw [this]
    have hlt := lt_of_get hb
    have : H.bs[b] = .cells g 1 (([] : List Str).map fun s => S s) := by rw [List.getElem?_eq_getElem hlt] at hb; injection hb
    rw [← this, List.set_getElem_self]
  · refine (h1 (c.al b) (c.base b) cap l c.w (hH.holds hb) (hH.lt b (hH.live' hb)) hl).mono ?_
    rintro e w' ⟨rfl, n, os, rfl⟩
    obtain ⟨k1, k2⟩ := hH.putTexts (l' := sortS l) (sortS_length l) hb n os
    exact ⟨_, .tup [], _, _, rfl, rfl, ⟨rfl, rfl⟩, k1, by simp [VRel, LRel], k2⟩
def packS (l : List Str) : List Str := Lib.compact l
theorem packS_length (l : List Str) : (packS l).length ≤ l.length := by
  have h := List.length_filter_le (Lib.keeps l.toArray) (List.range l.length)
  simp only [packS, Lib.compact, Lib.compactUpTo, List.length_map]
  simpa using h
theorem packS_mem {l : List Str} {x : Str} : x ∈ packS l ↔ x ∈ l := by
  simp only [packS, Lib.compact, Lib.compactUpTo, List.mem_map, List.mem_filter, List.mem_range]
  constructor
  · rintro ⟨j, ⟨hj, _⟩, rfl⟩
    have : (l.toArray)[j]! = l[j] := by simp [getElem!_pos, hj]
    rw [this]; exact List.getElem_mem hj
  · intro hx
    obtain ⟨j, hj, rfl⟩ := List.getElem_of_mem hx
    induction j with
    | zero => exact ⟨0, ⟨hj, by simp [Lib.keeps]⟩, by simp [getElem!_pos, hj]⟩
    | succ j ih =>
      by_cases hk : Lib.keeps l.toArray (j + 1) = true
      · exact ⟨j + 1, ⟨hj, hk⟩, by simp [getElem!_pos, hj]⟩
      · have heq : (l.toArray)[j + 1]! = (l.toArray)[j]! := by
          simp only [Lib.keeps] at hk
          simpa using hk
        have h1 : (l.toArray)[j + 1]! = l[j + 1] := by simp [getElem!_pos, hj]
        have h2 : (l.toArray)[j]! = l[j] := by simp [getElem!_pos, show j < l.length by omega]
        obtain ⟨i, hi, he⟩ := ih (by omega) (List.getElem_mem (by omega))
        exact ⟨i, hi, by rw [he, ← h2, ← heq, h1]⟩
theorem sortS_mem {l : List Str} {x : Str} : x ∈ sortS l ↔ x ∈ l := by simp [sortS]
/-- slices.Compact of texts -/
theorem compact_calls {k : Nat} {fn : Func} (hf : P.funcs[E.fn k]? = some fn) (hn : (fn.name == "runtime.NumGoroutine") = false) (hbd : fn.body.isNone = false)
    (h0 : ∀ (a : Option Addr) (cap : Nat) (w : World), Calls P (E.fn k) #[.slice a 0 cap] w fun e w' => e = .returned (.slice a 0 cap) ∧ w' = w)
    (h1 : ∀ (blk off cap : Nat) (zs : List (List UInt8)) (w : World), Holds encStr w blk off zs.toArray → zs.length ≤ 9223372036854775807 → zs.length ≤ cap → Calls P (E.fn k) #[.slice (some ⟨blk, off, none⟩) zs.length cap] w fun e w' =>
      e = .returned (.slice (some ⟨blk, off, none⟩) (Lib.compact zs).length cap) ∧ ∃ q, w' = putRow encStr (Sort.ahead w q) blk off (Lib.compact zs ++ List.replicate (zs.length - (Lib.compact zs).length) []).toArray)
    {b g : Nat} {l : List Str} (hl : l.length < 4611686018427387904) (hb : H.bs[b]? = some (.cells g 1 (l.map fun s => S s))) : ACalls E P k [.slL b 0 l.length g] H fun r H' => r = .slL b 0 (packS l).length g ∧ H' = ⟨H.bs.set b (.cells g 1 ((packS l ++ List.replicate (l.length - (packS l).length) []).map fun s => S s)), H.ctr⟩ := by
  refine ACalls.ofWalk hf hn hbd fun c vs hH hv => ?_
  obtain ⟨v, rfl, hr⟩ := hv.one'
  simp only [VRel] at hr
  obtain ⟨hgl, p, cap, rfl, hcap, hp⟩ := hr
  obtain ⟨p0, rest, e, h4, h7, hg, _⟩ := hH.row hb
  have hpl := packS_length l
  rcases hp hg with hz | ⟨rfl, hroom⟩
  · subst hz
    have hl0 : l = [] := List.eq_nil_of_length_eq_zero (by omega)
    subst hl0
    have hp0 : packS [] = [] := List.eq_nil_of_length_eq_zero (by simpa using hpl)
    refine (h0 (some p) 0 c.w).mono ?_
    rintro e w' ⟨rfl, rfl⟩
    refine ⟨_, .slL b 0 (packS []).length g, c, H, rfl, rfl, ⟨rfl, ?_⟩, hH, ?_, Later.refl c⟩
    · rw [hp0]
      have hlt := lt_of_get hb
      have : H.bs[b] = .cells g 1 (([] : List Str).map fun s => S s) := by rw [List.getElem?_eq_getElem hlt] at hb; injection hb
      simp only [List.length_nil, Nat.sub_self, List.replicate_zero, List.append_nil]
      rw [← this, List.set_getElem_self]
    · simp only [VRel]
      exact ⟨hgl, p, 0, by rw [hp0]; rfl, by rw [hp0]; exact Nat.le_refl _, fun _ => .inl rfl⟩
  · refine (h1 (c.al b) (c.base b) cap l c.w (hH.holds hb) (by omega) hcap).mono ?_
    rintro e w' ⟨rfl, q, rfl⟩
    obtain ⟨k1, k2⟩ := hH.putTexts (l' := packS l ++ List.replicate (l.length - (packS l).length) []) (by simp; omega) hb q #[]
    rw [grow_empty] at k1 k2
    refine ⟨_, .slL b 0 (packS l).length g, _, _, rfl, rfl, ⟨rfl, rfl⟩, k1, ?_, k2⟩
    simp only [VRel]
    exact ⟨hgl, _, cap, rfl, Nat.le_trans hpl hcap, fun _ => .inr ⟨rfl, hroom⟩⟩
theorem FX.sortNil {k : Nat} {fn : Func} (hf : P.funcs[E.fn k]? = some fn) (hn : (fn.name == "runtime.NumGoroutine") = false) (hbd : fn.body.isNone = false)
    (h0 : ∀ (p : Option Addr) (cap : Nat) (w : World), Calls P (E.fn k) #[.slice p 0 cap] w fun e w' => e = .returned (.tuple #[]) ∧ w' = w) : FX E P k [nilS] (.tup []) := by
  refine FX.ofCalls hf hn hbd ⟨trivial, trivial⟩ trivial trivial fun c vs _ _ hv => ?_
  obtain ⟨v, rfl, hr⟩ := hv.one'
  simp only [VRel] at hr
  subst hr
  refine (h0 none 0 c.w).mono ?_
  rintro e w' ⟨rfl, rfl⟩
  exact ⟨_, rfl, Below.refl _ _, by simp [VRel, LRel]⟩
theorem FX.compactNil {k : Nat} {fn : Func} (hf : P.funcs[E.fn k]? = some fn) (hn : (fn.name == "runtime.NumGoroutine") = false) (hbd : fn.body.isNone = false)
    (h0 : ∀ (a : Option Addr) (cap : Nat) (w : World), Calls P (E.fn k) #[.slice a 0 cap] w fun e w' => e = .returned (.slice a 0 cap) ∧ w' = w) : FX E P k [nilS] nilS := by
  refine FX.ofCalls hf hn hbd ⟨trivial, trivial⟩ trivial trivial fun c vs _ _ hv => ?_
  obtain ⟨v, rfl, hr⟩ := hv.one'
  simp only [VRel] at hr
  subst hr
  refine (h0 none 0 c.w).mono ?_
  rintro e w' ⟨rfl, rfl⟩
  exact ⟨_, rfl, Below.refl _ _, by simp [VRel]⟩
end
end Go.Sc
namespace Go.Sc.F
open Go Go.Sc
set_option linter.unusedVariables false
/-- signalbox/expr.Names -/
def expr_Names (E : Env) (P : Program) (a0 : AV) (H : AH) (R : Kt) : Prop :=
  wCall E P 190 [a0, (.fn 189 [] [])] H fun t4 H =>
  R t4 H

/-- signalbox/expr.Edges -/
def expr_Edges (E : Env) (P : Program) (a0 : AV) (H : AH) (R : Kt) : Prop :=
  wCall E P 190 [a0, (.fn 192 [] [])] H fun t4 H =>
  R t4 H

/-- signalbox/expr.sorted -/
def expr_sorted (E : Env) (P : Program) (a0 a1 : AV) (H : AH) (R : Kt) : Prop :=
  wNew 1 (AV.cells? a1) H fun t3 H =>
  wNew 1 (some [(.val (.slice none 0 0))]) H fun t5 H =>
  wCall E P 161 [a0, (.fn 193 [] [t3, t5])] H fun t8 H =>
  wGet (load1 t5 H) H fun t9 H =>
  wCall E P 194 [t9] H fun t10 H =>
  wGet (load1 t5 H) H fun t11 H =>
  wCall E P 195 [t11] H fun t12 H =>
  R t12 H

/-- signalbox/expr.Names$1 -/
def expr_Names_c1 (E : Env) (P : Program) (a0 : AV) (H : AH) (R : Kt) : Prop :=
  wGet (assertA 14 (.val (.string ⟨#[]⟩)) a0) H fun t7 H =>
  wGet (extractA t7 1) H fun t8 H =>
  wGet (extractA t7 0) H fun t9 H =>
  wIf t8 (
    R t9 H) (
    wGet (assertA 12 (.val (.string ⟨#[]⟩)) a0) H fun t11 H =>
    wGet (extractA t11 1) H fun t12 H =>
    wGet (extractA t11 0) H fun t13 H =>
    wIf t12 (
      R t13 H) (
      wGet (assertA 13 (.val (.string ⟨#[]⟩)) a0) H fun t15 H =>
      wGet (extractA t15 1) H fun t16 H =>
      wGet (extractA t15 0) H fun t17 H =>
      wIf t16 (
        R t17 H) (
        R (.val (.string ⟨#[]⟩)) H)))

/-- signalbox/expr.Edges$1 -/
def expr_Edges_c1 (E : Env) (P : Program) (a0 : AV) (H : AH) (R : Kt) : Prop :=
  wGet (assertA 12 (.val (.string ⟨#[]⟩)) a0) H fun t6 H =>
  wGet (extractA t6 1) H fun t7 H =>
  wGet (extractA t6 0) H fun t8 H =>
  wIf t7 (
    R t8 H) (
    wGet (assertA 13 (.val (.string ⟨#[]⟩)) a0) H fun t10 H =>
    wGet (extractA t10 1) H fun t11 H =>
    wGet (extractA t10 0) H fun t12 H =>
    wIf t11 (
      R t12 H) (
      R (.val (.string ⟨#[]⟩)) H))

/-- signalbox/expr.sorted$1 -/
def expr_sorted_c1 (E : Env) (P : Program) (a0 a1 a2 : AV) (H : AH) (R : Kt) : Prop :=
  wGet (load1 a1 H) H fun t5 H =>
  wCallV E P t5 [a0] H fun t7 H =>
  wGet (binA .neq t7 (.val (.string ⟨#[]⟩))) H fun t9 H =>
  wIf t9 (
    wGet (load1 a2 H) H fun t10 H =>
    wNewS 1 1 (fillA (List.replicate 1 [(.val (.string ⟨#[]⟩))]).flatten [(0, 1, t7)]) H fun t12 H =>
    wApp 1 16 t10 t12 H fun t13 H =>
    wPut (store1 a2 t13 H) fun _u H =>
    R (.tup []) H) (
    R (.tup []) H)

end Go.Sc.F
namespace Go.Sc
open Go
set_option linter.unusedSimpArgs false
set_option linter.unusedVariables false
set_option linter.unnecessarySimpa false
def nmL (nf : Ex → Str) (x : Ex) : List Str := if nf x = [] then [] else [nf x]
mutual
/-- what is found in it, one after the other -/
def Ex.raw (nf : Ex → Str) : Ex → List Str
  | .not y => nmL nf (.not y) ++ y.raw nf
  | .and l => nmL nf (.and l) ++ Ex.rawL nf l
  | .or l => nmL nf (.or l) ++ Ex.rawL nf l
  | x => nmL nf x
def Ex.rawL (nf : Ex → Str) : List Ex → List Str
  | [] => []
  | x :: l => x.raw nf ++ Ex.rawL nf l
end
theorem Ex.rawL_append (nf : Ex → Str) : ∀ l m : List Ex, Ex.rawL nf (l ++ m) = Ex.rawL nf l ++ Ex.rawL nf m
  | [], m => by simp [Ex.rawL]
  | x :: l, m => by simp only [List.cons_append, Ex.rawL, Ex.rawL_append nf l m, List.append_assoc]
theorem nmL_len (nf : Ex → Str) (x : Ex) : (nmL nf x).length ≤ 1 := by unfold nmL; split <;> simp
mutual
theorem Ex.raw_len (nf : Ex → Str) : ∀ x : Ex, (x.raw nf).length ≤ x.size
  | .k _ => nmL_len nf _
  | .bit _ => nmL_len nf _
  | .rise _ => nmL_len nf _
  | .fall _ => nmL_len nf _
  | .not y => by have h1 := nmL_len nf (.not y); have h2 := Ex.raw_len nf y; simp only [Ex.raw, Ex.size, List.length_append]; omega
  | .and l => by have h1 := nmL_len nf (.and l); have h2 := Ex.rawL_len nf l; simp only [Ex.raw, Ex.size, List.length_append]; omega
  | .or l => by have h1 := nmL_len nf (.or l); have h2 := Ex.rawL_len nf l; simp only [Ex.raw, Ex.size, List.length_append]; omega
theorem Ex.rawL_len (nf : Ex → Str) : ∀ l : List Ex, (Ex.rawL nf l).length ≤ Ex.sizeL l
  | [] => by simp [Ex.rawL]
  | x :: l => by have h1 := Ex.raw_len nf x; have h2 := Ex.rawL_len nf l; simp only [Ex.rawL, Ex.sizeL, List.length_append]; omega
end
/-- what has been found so far -/
def SO (g0 : Nat) (l : List Str) (H : AH) : Prop := ∃ x tb c, H = ⟨.cells g0 1 [x] :: tb, c⟩ ∧ ((x = nilS ∧ l = [] ∧ tb = []) ∨ ∃ g1, x = .slL 1 0 l.length g1 ∧ tb = [.cells g1 1 (l.map fun s => S s)])
theorem ghost_drop {bs : List Blk} {n : Nat} {xs : List AV} (e : Blk) : Ghost xs ⟨bs ++ [e], n⟩ xs ⟨bs, n⟩ := by
  refine ghost_kill (H := ⟨bs ++ [e], n⟩) (H' := ⟨bs, n⟩) (S := fun i => decide (bs.length ≤ i)) rfl ?_ (FkL.same xs)
  have : ∀ (l : List Blk) (i : Nat), i + l.length = bs.length → KBL ⟨bs ++ [e], n⟩ (fun i => decide (bs.length ≤ i)) i (l ++ [e]) l := by
    intro l
    induction l with
    | nil =>
      intro i hi
      refine .cut fun j x hx => ?_
      cases j with
      | zero => exact .inl (by simp at hi ⊢; omega)
      | succ j => simp at hx
    | cons x l ih =>
      intro i hi
      simp only [List.length_cons] at hi
      exact .keep (by simp; omega) (KB.same x) (ih _ (by omega))
  exact this bs 0 (by omega)
structure SortedBodies (E : Env) (P : Program) : Prop where
  walk : Body2 E P 161 F.expr_walk
  sorted : Body2 E P 190 F.expr_sorted
  sorted1 : Body3 E P 193 F.expr_sorted_c1
  names : Body1 E P 181 F.expr_Names
  names1 : Body1 E P 189 F.expr_Names_c1
  edges : Body1 E P 184 F.expr_Edges
  edges1 : Body1 E P 192 F.expr_Edges_c1
  sortN : FX E P 194 [nilS] (.tup [])
  sortC : ∀ {H : AH} {b g : Nat} {l : List Str}, l.length < 4611686018427387904 → H.bs[b]? = some (.cells g 1 (l.map fun s => S s)) → ACalls E P 194 [.slL b 0 l.length g] H fun r H' => r = .tup [] ∧ H' = ⟨H.bs.set b (.cells g 1 ((sortS l).map fun s => S s)), H.ctr⟩
  compN : FX E P 195 [nilS] nilS
  compC : ∀ {H : AH} {b g : Nat} {l : List Str}, l.length < 4611686018427387904 → H.bs[b]? = some (.cells g 1 (l.map fun s => S s)) → ACalls E P 195 [.slL b 0 l.length g] H fun r H' => r = .slL b 0 (packS l).length g ∧ H' = ⟨H.bs.set b (.cells g 1 ((packS l ++ List.replicate (l.length - (packS l).length) []).map fun s => S s)), H.ctr⟩
section
variable {E : Env} {P : Program}
theorem look_spec (B : SortedBodies E P) {kn : Nat} {nf : Ex → Str} (hnf : ∀ y, FX E P kn [y.enc] (S (nf y))) {g0 : Nat} {l : List Str} (hl : l.length < 10000000) (y : Ex) {H : AH} (hH : SO g0 l H) :
    ACalls E P 193 [y.enc, .ptrF [.fn kn [] []] 0, .ptrL 0 0 g0] H fun r H' => r = .tup [] ∧ SO g0 (l ++ nmL nf y) H' := by
  obtain ⟨x, tb, c, rfl, ht⟩ := hH
  refine B.sorted1 _ _ _ _ _ ?_
  unfold F.expr_sorted_c1
  simp only [nd0, Y1n, Y1o, Y1p, Y1q, Y1w, Y1x, Y1y, Y1z, Y20, Y21, Y28, Y2a, AV.cells?, Nat.reduceAdd, Nat.reduceMul]
  refine wCallV.fx (fs := []) (cs := []) (hnf y) fun n1 => ?_
  simp only [nd0, Y1n, Y1o, Y1p, Y1q, Y1w, Y1x, Y1y, Y1z, Y20, Y21, Y28, Y2a, AV.cells?, Nat.reduceAdd, Nat.reduceMul, show (AV.val (.string ⟨#[]⟩)) = S [] from rfl]
  by_cases hn : nf y = []
  · simp only [nd0, Y1n, Y1o, Y1p, Y1q, Y1w, Y1x, Y1y, Y1z, Y20, Y21, Y28, Y2a, AV.cells?, Nat.reduceAdd, Nat.reduceMul, decide_eq_true hn]
    unfold nmL
    rw [if_pos hn, List.append_nil]
    exact ⟨trivial, x, tb, n1, rfl, ht⟩
  · simp only [nd0, Y1n, Y1o, Y1p, Y1q, Y1w, Y1x, Y1y, Y1z, Y20, Y21, Y28, Y2a, AV.cells?, Nat.reduceAdd, Nat.reduceMul, decide_eq_false hn]
    unfold nmL
    rw [if_neg hn]
    refine wNewS.F' (l := [S (nf y)]) rfl rfl ?_
    rcases ht with ⟨rfl, rfl, rfl⟩ | ⟨g1, rfl, rfl⟩
    · refine ⟨_, _, .old (r := .slL 1 0 1 n1) (H' := ⟨[.cells g0 1 [nilS], .cells n1 1 [S (nf y)]], n1 + 1⟩) rfl, ?_⟩
      rw [store1_L rfl]
      simp only [nd0, Y1n, Y1o, Y1p, Y1q, Y1w, Y1x, Y1y, Y1z, Y20, Y21, Y28, Y2a, AV.cells?, Nat.reduceAdd, Nat.reduceMul, Nat.reduceLT]
      exact ⟨trivial, .slL 1 0 1 n1, _, _, rfl, .inr ⟨n1, rfl, rfl⟩⟩
    · have happ : appendA 1 16 (.slL 1 0 l.length g1) (.slN [S (nf y)] 1) ⟨[.cells g0 1 [.slL 1 0 l.length g1], .cells g1 1 (l.map fun s => S s)], n1⟩
          = some (.slL 1 0 (l.length + 1) n1, ⟨[.cells g0 1 [.slL 1 0 l.length g1], .cells n1 1 ((l ++ [nf y]).map fun s => S s)], n1 + 1⟩) := by
        have hb : (l.length + 1) * 16 ≤ mostBytes ∧ l.length + 1 ≤ mostBytes := by simp [mostBytes]; omega
        simp [appendA, cellsOfA, subL, AH.cells, AH.esz, hb, AV.scalar]
      refine ⟨_, _, .old happ, ?_⟩
      rw [store1_L rfl]
      simp only [nd0, Y1n, Y1o, Y1p, Y1q, Y1w, Y1x, Y1y, Y1z, Y20, Y21, Y28, Y2a, AV.cells?, Nat.reduceAdd, Nat.reduceMul, Nat.reduceLT]
      exact ⟨trivial, .slL 1 0 (l.length + 1) n1, _, _, rfl, .inr ⟨n1, by simp, rfl⟩⟩
def WalkOk (E : Env) (P : Program) (kn g0 : Nat) (nf : Ex → Str) (x : Ex) : Prop := ∀ (l : List Str) (H : AH), l.length + x.size < 10000000 → SO g0 l H → ACalls E P 161 [x.enc, .fn 193 [] [.ptrF [.fn kn [] []] 0, .ptrL 0 0 g0]] H fun r H' => r = .tup [] ∧ SO g0 (l ++ x.raw nf) H'
theorem sizeL_app : ∀ a b : List Ex, Ex.sizeL (a ++ b) = Ex.sizeL a + Ex.sizeL b
  | [], b => by simp [Ex.sizeL]
  | x :: a, b => by simp only [List.cons_append, Ex.sizeL, sizeL_app a b]; omega
theorem walkSL_spec {kn g0 : Nat} {nf : Ex → Str} (xs : List Ex) (hx : ∀ x ∈ xs, WalkOk E P kn g0 nf x) (hlen : xs.length < 10000000) (l : List Str) (hn : l.length + Ex.sizeL xs < 10000000) {H0 : AH} (hH0 : SO g0 l H0) {R : Kt} (hR : ∀ H, SO g0 (l ++ Ex.rawL nf xs) H → R (.tup []) H) :
    wLoop 1 (fun I1 => I1 (Z 0) H0) fun I1 t27 H =>
      wGet (binA .lss t27 (Z xs.length)) H fun t28 H =>
      wIf t28 (
        wGet (iaddr 1 (.slN (Ex.encL xs) xs.length) t27) H fun t29 H =>
        wGet (load1 t29 H) H fun t30 H =>
        wCall E P 161 [t30, .fn 193 [] [.ptrF [.fn kn [] []] 0, .ptrL 0 0 g0]] H fun t33 H =>
        wGet (binA .add t27 (.val (.int .i64 1))) H fun t34 H =>
        I1 t34 H) (
        R (.tup []) H) := by
  refine wLoop.one (fun m i H => ∃ pre r, xs = pre ++ r ∧ i = Z pre.length ∧ m = r.length ∧ SO g0 (l ++ Ex.rawL nf pre) H) xs.length (gh1.mk ⟨[], xs, rfl, rfl, rfl, by simpa [Ex.rawL] using hH0⟩) ?_
  rintro m i H ⟨pre, r, rfl, rfl, rfl, hH⟩
  cases r with
  | nil =>
    rw [List.append_nil] at hR ⊢
    simp only [nd0, Y1n, Y1o, Y1p, Y1q, Y1w, Y1x, Y1y, Y1z, Y20, Y21, Y28, Y2a, AV.cells?, Nat.reduceAdd, Nat.reduceMul, Int.lt_irrefl]
    exact hR _ hH
  | cons x r =>
    rw [sizeL_app] at hn
    simp only [Ex.sizeL] at hn
    simp only [nd0, Y1n, Y1o, Y1p, Y1q, Y1w, Y1x, Y1y, Y1z, Y20, Y21, Y28, Y2a, AV.cells?, Nat.reduceAdd, Nat.reduceMul, decide_eq_true (show (pre.length : Int) < ((pre ++ x :: r).length : Int) by simp; omega)]
    rw [iaddr_Nn lt_mid]
    simp only [nd0, Y1n, Y1o, Y1p, Y1q, Y1w, Y1x, Y1y, Y1z, Y20, Y21, Y28, Y2a, AV.cells?, Nat.reduceAdd, Nat.reduceMul, show (Ex.encL (pre ++ x :: r))[pre.length]? = some x.enc by rw [Ex.encL_map]; simp]
    have hrl := Ex.rawL_len nf pre
    refine ⟨_, hx x (by simp) _ _ (by rw [List.length_append]; omega) hH, ?_⟩
    rintro rr H' ⟨rfl, hH'⟩
    rw [binA_succ (by simp at hlen; omega)]
    simp only [nd0, Y1n, Y1o, Y1p, Y1q, Y1w, Y1x, Y1y, Y1z, Y20, Y21, Y28, Y2a, AV.cells?, Nat.reduceAdd, Nat.reduceMul]
    refine back1.mk r.length (by simp) ⟨pre ++ [x], r, by simp, by simp, rfl, ?_⟩
    rw [Ex.rawL_append]
    simpa [Ex.rawL, List.append_assoc] using hH'
theorem walkS_spec (B : SortedBodies E P) {kn : Nat} {nf : Ex → Str} (hnf : ∀ y, FX E P kn [y.enc] (S (nf y))) {g0 : Nat} : ∀ (k : Nat) (x : Ex), x.wt < k → x.wt ≤ 1000000 → x.fine → WalkOk E P kn g0 nf x := by
  intro k
  induction k with
  | zero => intro x h; omega
  | succ k ih =>
    intro x hx hw hf l H hn hH
    refine B.walk _ _ _ _ ?_
    unfold F.expr_walk
    have h1 : 1 ≤ x.size := by cases x <;> simp [Ex.size]
    refine ⟨⟨193, [], _, rfl, _, look_spec B hnf (by omega) x hH, ?_⟩⟩
    rintro r H1 ⟨rfl, hH1⟩
    have hl1 : (l ++ nmL nf x).length ≤ l.length + 1 := by rw [List.length_append]; have := nmL_len nf x; omega
    have fin : x.raw nf = nmL nf x → SO g0 (l ++ x.raw nf) H1 := fun e => by rw [e]; exact hH1
    cases x with
    | k b => simp only [Ex.enc]; simp only [nd0, Y1n, Y1o, Y1p, Y1q, Y1w, Y1x, Y1y, Y1z, Y20, Y21, Y28, Y2a, AV.cells?, Nat.reduceAdd, Nat.reduceMul, asA, show (11 : Nat) = 10 ↔ False by decide, show (11 : Nat) = 9 ↔ False by decide, show (11 : Nat) = 8 ↔ False by decide]; exact ⟨trivial, fin rfl⟩
    | bit b => simp only [Ex.enc]; simp only [nd0, Y1n, Y1o, Y1p, Y1q, Y1w, Y1x, Y1y, Y1z, Y20, Y21, Y28, Y2a, AV.cells?, Nat.reduceAdd, Nat.reduceMul, asA, show (14 : Nat) = 10 ↔ False by decide, show (14 : Nat) = 9 ↔ False by decide, show (14 : Nat) = 8 ↔ False by decide]; exact ⟨trivial, fin rfl⟩
    | rise b => simp only [Ex.enc]; simp only [nd0, Y1n, Y1o, Y1p, Y1q, Y1w, Y1x, Y1y, Y1z, Y20, Y21, Y28, Y2a, AV.cells?, Nat.reduceAdd, Nat.reduceMul, asA, show (12 : Nat) = 10 ↔ False by decide, show (12 : Nat) = 9 ↔ False by decide, show (12 : Nat) = 8 ↔ False by decide]; exact ⟨trivial, fin rfl⟩
    | fall b => simp only [Ex.enc]; simp only [nd0, Y1n, Y1o, Y1p, Y1q, Y1w, Y1x, Y1y, Y1z, Y20, Y21, Y28, Y2a, AV.cells?, Nat.reduceAdd, Nat.reduceMul, asA, show (13 : Nat) = 10 ↔ False by decide, show (13 : Nat) = 9 ↔ False by decide, show (13 : Nat) = 8 ↔ False by decide]; exact ⟨trivial, fin rfl⟩
    | not y =>
      simp only [Ex.enc]
      simp only [Ex.wt] at hw hx
      simp only [Ex.size] at hn
      simp only [nd0, Y1n, Y1o, Y1p, Y1q, Y1w, Y1x, Y1y, Y1z, Y20, Y21, Y28, Y2a, AV.cells?, Nat.reduceAdd, Nat.reduceMul, asA, show (10 : Nat) = 10 ↔ True by decide]
      obtain ⟨x, tb, c, rfl, ht⟩ := hH1
      refine wNew.L (l := [nilE]) rfl ?_
      have hlast : ((Blk.cells g0 1 [x] :: tb) ++ [Blk.cells c 1 [nilE]])[(Blk.cells g0 1 [x] :: tb).length]? = some (.cells c 1 [nilE]) := by simp
      have hst : storeN 1 (.ptrL (Blk.cells g0 1 [x] :: tb).length 0 c) (.agg [y.enc]) ⟨(Blk.cells g0 1 [x] :: tb) ++ [Blk.cells c 1 [nilE]], c + 1⟩ = some ⟨(Blk.cells g0 1 [x] :: tb) ++ [Blk.cells c 1 [y.enc]], c + 1⟩ := by
        rw [storeN_L (n := 1) (xs := [y.enc]) rfl (by simp [Ex.enc_scalar]), hlast, blkDo_self]
        simp [putL]
      refine ⟨⟨_, hst, ?_⟩⟩
      refine wGet_some.2 ?_
      refine ⟨⟨y.enc, by simp [load1, AH.cells], ?_⟩⟩
      refine ⟨_, ACalls.args (ghost_drop _) (ih y (by omega) (by omega) hf _ ⟨Blk.cells g0 1 [x] :: tb, c + 1⟩ (by omega) ⟨x, tb, c + 1, rfl, ht⟩), ?_⟩
      rintro r H2 ⟨rfl, hH2⟩
      refine ⟨trivial, ?_⟩
      simp only [Ex.raw]
      rw [← List.append_assoc]; exact hH2
    | and xs =>
      simp only [Ex.enc]
      simp only [Ex.wt] at hw hx
      simp only [Ex.size] at hn
      have hll := Ex.len_wtL hf.2
      simp only [nd0, Y1n, Y1o, Y1p, Y1q, Y1w, Y1x, Y1y, Y1z, Y20, Y21, Y28, Y2a, AV.cells?, Nat.reduceAdd, Nat.reduceMul, asA, show (9 : Nat) = 10 ↔ False by decide, show (9 : Nat) = 9 ↔ True by decide]
      refine walkSL_spec (R := fun r H' => True ∧ SO g0 (l ++ (Ex.and xs).raw nf) H') xs (fun y hy => ih y (by have := Ex.wt_mem hy; omega) (by have := Ex.wt_mem hy; omega) (Ex.fine_mem hf.2 hy)) (by omega) _ (by omega) hH1 fun H2 hH2 => ⟨trivial, ?_⟩
      simp only [Ex.raw]
      rw [← List.append_assoc]; exact hH2
    | or xs =>
      simp only [Ex.enc]
      simp only [Ex.wt] at hw hx
      simp only [Ex.size] at hn
      have hll := Ex.len_wtL hf.2
      simp only [nd0, Y1n, Y1o, Y1p, Y1q, Y1w, Y1x, Y1y, Y1z, Y20, Y21, Y28, Y2a, AV.cells?, Nat.reduceAdd, Nat.reduceMul, asA, show (8 : Nat) = 10 ↔ False by decide, show (8 : Nat) = 9 ↔ False by decide, show (8 : Nat) = 8 ↔ True by decide]
      refine walkSL_spec (R := fun r H' => True ∧ SO g0 (l ++ (Ex.or xs).raw nf) H') xs (fun y hy => ih y (by have := Ex.wt_mem hy; omega) (by have := Ex.wt_mem hy; omega) (Ex.fine_mem hf.2 hy)) (by omega) _ (by omega) hH1 fun H2 hH2 => ⟨trivial, ?_⟩
      simp only [Ex.raw]
      rw [← List.append_assoc]; exact hH2
/-- sorted, each once -/
def onceS (l : List Str) : List Str := packS (sortS l)
theorem onceS_mem {l : List Str} {x : Str} : x ∈ onceS l ↔ x ∈ l := packS_mem.trans sortS_mem
theorem onceS_length (l : List Str) : (onceS l).length ≤ l.length := by
  have := packS_length (sortS l)
  rw [sortS_length] at this
  exact this
theorem sorted_spec (B : SortedBodies E P) {kn : Nat} {nf : Ex → Str} (hnf : ∀ y, FX E P kn [y.enc] (S (nf y))) (x : Ex) (hw : x.wt ≤ 1000000) (hf : x.fine) : FX E P 190 [x.enc, .fn kn [] []] (Lm S (onceS (x.raw nf))) := by
  refine FX.of ⟨Ex.enc_closed x, ⟨trivial, trivial⟩, trivial⟩ (closed_S _) fun n R hR => B.sorted _ _ _ _ ?_
  unfold F.expr_sorted
  rw [cells?_scalar (show (AV.fn kn [] []).scalar = true from rfl)]
  refine wNew.F' rfl ?_
  refine wNew.L (l := [nilS]) rfl ?_
  have hsz := Ex.size_wt x hf
  have hrl := Ex.raw_len nf x
  refine ⟨_, walkS_spec B hnf (x.wt + 1) x (by omega) hw hf [] _ (by simp; omega) ⟨nilS, [], _, rfl, .inl ⟨rfl, rfl, rfl⟩⟩, ?_⟩
  rintro r H1 ⟨rfl, y, tb, c, rfl, ht⟩
  rw [List.nil_append] at ht
  simp only [nd0, Y1n, Y1o, Y1p, Y1q, Y1w, Y1x, Y1y, Y1z, Y20, Y21, Y28, Y2a, AV.cells?, Nat.reduceAdd, Nat.reduceMul]
  rcases ht with ⟨rfl, hz, rfl⟩ | ⟨g1, rfl, rfl⟩
  · refine wCall.fx B.sortN fun n2 => ?_
    simp only [nd0, Y1n, Y1o, Y1p, Y1q, Y1w, Y1x, Y1y, Y1z, Y20, Y21, Y28, Y2a, AV.cells?, Nat.reduceAdd, Nat.reduceMul]
    refine wCall.fx B.compN fun n3 => ?_
    refine hR _ _ ?_
    rw [hz]
    have h0 : onceS [] = [] := List.eq_nil_of_length_eq_zero (by have := onceS_length []; simpa using this)
    rw [h0]
    exact .sub .nil
  · refine ⟨_, B.sortC (H := ⟨[.cells n 1 [.slL 1 0 (x.raw nf).length g1], .cells g1 1 ((x.raw nf).map fun s => S s)], c⟩) (b := 1) (by omega) rfl, ?_⟩
    rintro r H2 ⟨rfl, rfl⟩
    simp only [nd0, Y1n, Y1o, Y1p, Y1q, Y1w, Y1x, Y1y, Y1z, Y20, Y21, Y28, Y2a, AV.cells?, Nat.reduceAdd, Nat.reduceMul]
    have hlen := sortS_length (x.raw nf)
    rw [← hlen]
    refine ⟨_, B.compC (H := ⟨[.cells n 1 [.slL 1 0 (sortS (x.raw nf)).length g1], .cells g1 1 ((sortS (x.raw nf)).map fun s => S s)], c⟩) (b := 1) (by omega) rfl, ?_⟩
    rintro r H3 ⟨rfl, rfl⟩
    simp only [nd0, Y1n, Y1o, Y1p, Y1q, Y1w, Y1x, Y1y, Y1z, Y20, Y21, Y28, Y2a, AV.cells?, Nat.reduceAdd, Nat.reduceMul]
    refine hR _ _ ?_
    refine Fk.then (Fk.slF (H := ⟨[.cells n 1 [.slL 1 0 (sortS (x.raw nf)).length g1], .cells g1 1 ((packS (sortS (x.raw nf)) ++ List.replicate ((sortS (x.raw nf)).length - (packS (sortS (x.raw nf))).length) []).map fun s => S s)], c⟩) (b := 1) (ys := (onceS (x.raw nf)).map fun s => S s) (onceS (x.raw nf)).length rfl rfl ?_) .F'
    rw [List.drop_zero, List.map_append, List.take_append_of_le_length (by simp [onceS]), List.take_of_length_le (by simp [onceS])]
    exact FkL.same _
/-- its name, if it has one -/
def nf1 : Ex → Str
  | .bit s => s
  | .rise s => s
  | .fall s => s
  | _ => []
def nf2 : Ex → Str
  | .rise s => s
  | .fall s => s
  | _ => []
theorem names1_spec (B : SortedBodies E P) (y : Ex) : FX E P 189 [y.enc] (S (nf1 y)) := by
  refine FX.of' ⟨Ex.enc_closed y, trivial⟩ trivial fun n R hR => B.names1 _ _ _ ?_
  unfold F.expr_Names_c1
  cases y with
  | k b => simp only [Ex.enc]; simp only [nd0, Y1n, Y1o, Y1p, Y1q, Y1w, Y1x, Y1y, Y1z, Y20, Y21, Y28, Y2a, AV.cells?, Nat.reduceAdd, Nat.reduceMul, asA, show (11 : Nat) = 14 ↔ False by decide, show (11 : Nat) = 12 ↔ False by decide, show (11 : Nat) = 13 ↔ False by decide]; exact hR _ _ rfl
  | bit b => simp only [Ex.enc]; simp only [nd0, Y1n, Y1o, Y1p, Y1q, Y1w, Y1x, Y1y, Y1z, Y20, Y21, Y28, Y2a, AV.cells?, Nat.reduceAdd, Nat.reduceMul, asA, show (14 : Nat) = 14 ↔ True by decide]; exact hR _ _ rfl
  | rise b => simp only [Ex.enc]; simp only [nd0, Y1n, Y1o, Y1p, Y1q, Y1w, Y1x, Y1y, Y1z, Y20, Y21, Y28, Y2a, AV.cells?, Nat.reduceAdd, Nat.reduceMul, asA, show (12 : Nat) = 14 ↔ False by decide, show (12 : Nat) = 12 ↔ True by decide]; exact hR _ _ rfl
  | fall b => simp only [Ex.enc]; simp only [nd0, Y1n, Y1o, Y1p, Y1q, Y1w, Y1x, Y1y, Y1z, Y20, Y21, Y28, Y2a, AV.cells?, Nat.reduceAdd, Nat.reduceMul, asA, show (13 : Nat) = 14 ↔ False by decide, show (13 : Nat) = 12 ↔ False by decide, show (13 : Nat) = 13 ↔ True by decide]; exact hR _ _ rfl
  | not b => simp only [Ex.enc]; simp only [nd0, Y1n, Y1o, Y1p, Y1q, Y1w, Y1x, Y1y, Y1z, Y20, Y21, Y28, Y2a, AV.cells?, Nat.reduceAdd, Nat.reduceMul, asA, show (10 : Nat) = 14 ↔ False by decide, show (10 : Nat) = 12 ↔ False by decide, show (10 : Nat) = 13 ↔ False by decide]; exact hR _ _ rfl
  | and b => simp only [Ex.enc]; simp only [nd0, Y1n, Y1o, Y1p, Y1q, Y1w, Y1x, Y1y, Y1z, Y20, Y21, Y28, Y2a, AV.cells?, Nat.reduceAdd, Nat.reduceMul, asA, show (9 : Nat) = 14 ↔ False by decide, show (9 : Nat) = 12 ↔ False by decide, show (9 : Nat) = 13 ↔ False by decide]; exact hR _ _ rfl
  | or b => simp only [Ex.enc]; simp only [nd0, Y1n, Y1o, Y1p, Y1q, Y1w, Y1x, Y1y, Y1z, Y20, Y21, Y28, Y2a, AV.cells?, Nat.reduceAdd, Nat.reduceMul, asA, show (8 : Nat) = 14 ↔ False by decide, show (8 : Nat) = 12 ↔ False by decide, show (8 : Nat) = 13 ↔ False by decide]; exact hR _ _ rfl
theorem edges1_spec (B : SortedBodies E P) (y : Ex) : FX E P 192 [y.enc] (S (nf2 y)) := by
  refine FX.of' ⟨Ex.enc_closed y, trivial⟩ trivial fun n R hR => B.edges1 _ _ _ ?_
  unfold F.expr_Edges_c1
  cases y with
  | k b => simp only [Ex.enc]; simp only [nd0, Y1n, Y1o, Y1p, Y1q, Y1w, Y1x, Y1y, Y1z, Y20, Y21, Y28, Y2a, AV.cells?, Nat.reduceAdd, Nat.reduceMul, asA, show (11 : Nat) = 12 ↔ False by decide, show (11 : Nat) = 13 ↔ False by decide]; exact hR _ _ rfl
  | bit b => simp only [Ex.enc]; simp only [nd0, Y1n, Y1o, Y1p, Y1q, Y1w, Y1x, Y1y, Y1z, Y20, Y21, Y28, Y2a, AV.cells?, Nat.reduceAdd, Nat.reduceMul, asA, show (14 : Nat) = 12 ↔ False by decide, show (14 : Nat) = 13 ↔ False by decide]; exact hR _ _ rfl
  | rise b => simp only [Ex.enc]; simp only [nd0, Y1n, Y1o, Y1p, Y1q, Y1w, Y1x, Y1y, Y1z, Y20, Y21, Y28, Y2a, AV.cells?, Nat.reduceAdd, Nat.reduceMul, asA, show (12 : Nat) = 12 ↔ True by decide]; exact hR _ _ rfl
  | fall b => simp only [Ex.enc]; simp only [nd0, Y1n, Y1o, Y1p, Y1q, Y1w, Y1x, Y1y, Y1z, Y20, Y21, Y28, Y2a, AV.cells?, Nat.reduceAdd, Nat.reduceMul, asA, show (13 : Nat) = 12 ↔ False by decide, show (13 : Nat) = 13 ↔ True by decide]; exact hR _ _ rfl
  | not b => simp only [Ex.enc]; simp only [nd0, Y1n, Y1o, Y1p, Y1q, Y1w, Y1x, Y1y, Y1z, Y20, Y21, Y28, Y2a, AV.cells?, Nat.reduceAdd, Nat.reduceMul, asA, show (10 : Nat) = 12 ↔ False by decide, show (10 : Nat) = 13 ↔ False by decide]; exact hR _ _ rfl
  | and b => simp only [Ex.enc]; simp only [nd0, Y1n, Y1o, Y1p, Y1q, Y1w, Y1x, Y1y, Y1z, Y20, Y21, Y28, Y2a, AV.cells?, Nat.reduceAdd, Nat.reduceMul, asA, show (9 : Nat) = 12 ↔ False by decide, show (9 : Nat) = 13 ↔ False by decide]; exact hR _ _ rfl
  | or b => simp only [Ex.enc]; simp only [nd0, Y1n, Y1o, Y1p, Y1q, Y1w, Y1x, Y1y, Y1z, Y20, Y21, Y28, Y2a, AV.cells?, Nat.reduceAdd, Nat.reduceMul, asA, show (8 : Nat) = 12 ↔ False by decide, show (8 : Nat) = 13 ↔ False by decide]; exact hR _ _ rfl
def Ex.names (x : Ex) : List Str := onceS (x.raw nf1)
def Ex.edges (x : Ex) : List Str := onceS (x.raw nf2)
theorem Names_spec (B : SortedBodies E P) (x : Ex) (hw : x.wt ≤ 1000000) (hf : x.fine) : FX E P 181 [x.enc] (Lm S x.names) := by
  refine FX.of' ⟨Ex.enc_closed x, trivial⟩ (closed_S _) fun n R hR => B.names _ _ _ ?_
  unfold F.expr_Names
  exact wCall.fx (sorted_spec B (names1_spec B) x hw hf) fun n => hR _ _ rfl
theorem Edges_spec (B : SortedBodies E P) (x : Ex) (hw : x.wt ≤ 1000000) (hf : x.fine) : FX E P 184 [x.enc] (Lm S x.edges) := by
  refine FX.of' ⟨Ex.enc_closed x, trivial⟩ (closed_S _) fun n R hR => B.edges _ _ _ ?_
  unfold F.expr_Edges
  exact wCall.fx (sorted_spec B (edges1_spec B) x hw hf) fun n => hR _ _ rfl
end
end Go.Sc
namespace Go.Sc
open Go
set_option linter.unusedSimpArgs false
set_option linter.unusedVariables false
theorem str_lt_le {a b : Str} (h : a < b) : a ≤ b := fun h2 => List.lt_irrefl a (List.lt_trans h h2)
theorem str_ne_lt {a b : Str} (h : a ≤ b) (hn : a ≠ b) : a < b := by
  cases Classical.em (a < b) with
  | inl h1 => exact h1
  | inr h1 => exact absurd (List.le_antisymm h h1) hn
theorem str_lt_of_le_lt {a b c : Str} (h : a ≤ b) (h2 : b < c) : a < c := by
  by_cases e : a = b
  · exact e ▸ h2
  · exact List.lt_trans (str_ne_lt h e) h2
theorem compact_strict {d : Array Str} (hs : ∀ i j, i < j → j < d.size → d[i]! ≤ d[j]!) : ∀ m, m ≤ d.size → (Lib.compactUpTo d m).Pairwise (· < ·) ∧ (0 < m → ∀ x ∈ Lib.compactUpTo d m, x ≤ d[m - 1]!)
  | 0, _ => by simp [Lib.compactUpTo]
  | m + 1, hm => by
    obtain ⟨h1, h2⟩ := compact_strict hs m (by omega)
    rw [Lib.compactUpTo_succ]
    have hle : 0 < m → d[m - 1]! ≤ d[m]! := fun h => hs _ _ (by omega) (by omega)
    by_cases hk : Lib.keeps d m = true
    · rw [if_pos hk]
      have hlt : ∀ x ∈ Lib.compactUpTo d m, x < d[m]! := fun x hx => by
        by_cases h0 : m = 0
        · subst h0; simp [Lib.compactUpTo] at hx
        · have hne : d[m]! ≠ d[m - 1]! := by simpa [Lib.keeps, h0] using hk
          exact str_lt_of_le_lt (h2 (by omega) x hx) (str_ne_lt (hle (by omega)) (Ne.symm hne))
      refine ⟨List.pairwise_append.2 ⟨h1, by simp, fun a ha b hb => ?_⟩, fun _ x hx => ?_⟩
      · simp at hb; subst hb; exact hlt a ha
      · rcases List.mem_append.1 hx with hx | hx
        · exact str_lt_le (hlt x hx)
        · simp at hx; subst hx; exact List.le_refl _
    · rw [if_neg hk, List.append_nil]
      refine ⟨h1, fun _ x hx => ?_⟩
      have h0 : 0 < m := by
        rcases Nat.eq_zero_or_pos m with h | h
        · subst h; simp [Lib.keeps] at hk
        · exact h
      exact List.le_trans (h2 h0 x hx) (hle h0)
theorem sortS_sorted (l : List Str) : (sortS l).Pairwise (· ≤ ·) := by
  have := List.pairwise_mergeSort (le := fun x y : Str => decide (x ≤ y)) (fun a b c h1 h2 => by simp only [decide_eq_true_eq] at *; exact List.le_trans h1 h2) (fun a b => by simp only [Bool.or_eq_true, decide_eq_true_eq]; exact List.le_total a b) l
  simpa [sortS] using this
theorem onceS_strict (l : List Str) : (onceS l).Pairwise (· < ·) := by
  unfold onceS packS Lib.compact
  have := sortS_sorted l
  generalize sortS l = m at this
  refine (compact_strict (d := m.toArray) (fun i j hij hj => ?_) m.length (by simp)).1
  have hj' : j < m.length := by simpa using hj
  have := List.pairwise_iff_getElem.1 this i j (by omega) hj' hij
  simpa [getElem!_pos, hj', show i < m.length by omega] using this
end Go.Sc
namespace Go.Sc
open Go
set_option linter.unusedSimpArgs false
set_option linter.unusedVariables false
def Ex.other : Ex → Ex
  | .not x => x
  | x => .not x
def hasT (l : List Ex) (t : Str) : Bool := l.any fun z => decide (z.wr 0 = t)
def addP (l : List Ex) (y : Ex) : Option (List Ex) := if hasT l (y.wr 0) = true then some l else if hasT l (y.other.wr 0) = true then none else some (l ++ [y])
def addAll : List Ex → List Ex → Option (List Ex)
  | l, [] => some l
  | l, y :: ys => match addP l y with
    | none => none
    | some l' => addAll l' ys
def pieces (mode : Bool) : Ex → Option (List Ex)
  | .k b => if b = mode then some [] else none
  | .and l => some (if mode then l else [.and l])
  | .or l => some (if mode then [.or l] else l)
  | x => some [x]
def packT (mode : Bool) : Option (List Ex) → Ex
  | none => .k (!mode)
  | some [] => .k mode
  | some [x] => x
  | some l => if mode then .and l else .or l
def notT : Ex → Ex
  | .k b => .k !b
  | .not y => y
  | y => .not y
mutual
def Ex.tidy : Ex → Ex
  | .not x => notT x.tidy
  | .and l => packT true (Ex.tidyL true l [])
  | .or l => packT false (Ex.tidyL false l [])
  | x => x
def Ex.tidyL (mode : Bool) : List Ex → List Ex → Option (List Ex)
  | [], acc => some acc
  | x :: l, acc => match pieces mode x.tidy with
    | none => none
    | some ps => match addAll acc ps with
      | none => none
      | some acc' => Ex.tidyL mode l acc'
end
def mkT (mode : Bool) (l : List Ex) : Ex := if mode then .and l else .or l
/-! ### what is kept -/
theorem addP_sub {l l' : List Ex} {y : Ex} (h : addP l y = some l') : l' = l ∨ l' = l ++ [y] := by
  unfold addP at h
  split at h
  · injection h with h; exact .inl h.symm
  split at h
  · cases h
  · injection h with h; exact .inr h.symm
theorem addAll_mem {Q : Ex → Prop} : ∀ {ps l l' : List Ex}, addAll l ps = some l' → (∀ x ∈ l, Q x) → (∀ x ∈ ps, Q x) → ∀ x ∈ l', Q x
  | [], l, l', h, hl, _ => by injection h with h; subst h; exact hl
  | y :: ys, l, l', h, hl, hp => by
    unfold addAll at h
    split at h
    · cases h
    · rename_i m hm
      refine addAll_mem h (fun x hx => ?_) (fun x hx => hp x (List.mem_cons_of_mem _ hx))
      rcases addP_sub hm with rfl | rfl
      · exact hl x hx
      · rcases List.mem_append.1 hx with hx | hx
        · exact hl x hx
        · simp at hx; subst hx; exact hp x (by simp)
theorem tidyL_mem {Q : Ex → Prop} {mode : Bool} : ∀ {l acc acc' : List Ex}, Ex.tidyL mode l acc = some acc' → (∀ x ∈ acc, Q x) → (∀ x ∈ l, ∀ ps, pieces mode x.tidy = some ps → ∀ y ∈ ps, Q y) → ∀ x ∈ acc', Q x
  | [], acc, acc', h, ha, _ => by simp only [Ex.tidyL] at h; injection h with h; subst h; exact ha
  | x :: l, acc, acc', h, ha, hp => by
    simp only [Ex.tidyL] at h
    split at h
    · cases h
    · rename_i ps hps
      split at h
      · cases h
      · rename_i m hm
        exact tidyL_mem h (addAll_mem hm ha (hp x (by simp) ps hps)) (fun y hy => hp y (List.mem_cons_of_mem _ hy))
/-- sums of weights -/
def WtS (f : Ex → Nat) : List Ex → Nat
  | [] => 0
  | x :: l => f x + WtS f l
theorem WtS_append (f : Ex → Nat) : ∀ l m : List Ex, WtS f (l ++ m) = WtS f l + WtS f m
  | [], m => by simp [WtS]
  | x :: l, m => by simp only [List.cons_append, WtS, WtS_append f l m]; omega
theorem addAll_wt (f : Ex → Nat) : ∀ {ps l l' : List Ex}, addAll l ps = some l' → WtS f l' ≤ WtS f l + WtS f ps
  | [], l, l', h => by injection h with h; subst h; omega
  | y :: ys, l, l', h => by
    unfold addAll at h
    split at h
    · cases h
    · rename_i m hm
      have := addAll_wt f h
      rcases addP_sub hm with rfl | rfl
      · simp only [WtS]; omega
      · rw [WtS_append] at this; simp only [WtS] at this ⊢; omega
theorem tidyL_wt (f : Ex → Nat) {mode : Bool} : ∀ {l acc acc' : List Ex}, Ex.tidyL mode l acc = some acc' → (∀ x ∈ l, ∀ ps, pieces mode x.tidy = some ps → WtS f ps ≤ f x) → WtS f acc' ≤ WtS f acc + WtS f l
  | [], acc, acc', h, _ => by simp only [Ex.tidyL] at h; injection h with h; subst h; omega
  | x :: l, acc, acc', h, hp => by
    simp only [Ex.tidyL] at h
    split at h
    · cases h
    · rename_i ps hps
      split at h
      · cases h
      · rename_i m hm
        have h1 := addAll_wt f hm
        have h2 := hp x (by simp) ps hps
        have h3 := tidyL_wt f h (fun y hy => hp y (List.mem_cons_of_mem _ hy))
        simp only [WtS]; omega
theorem wtL_S : ∀ l : List Ex, WtS (fun x => x.wt + 3) l = Ex.wtL l + 3 * l.length
  | [] => rfl
  | x :: l => by simp only [WtS, Ex.wtL, wtL_S l, List.length_cons]; omega
theorem sizeL_S : ∀ l : List Ex, WtS Ex.size l = Ex.sizeL l
  | [] => rfl
  | x :: l => by simp only [WtS, Ex.sizeL, sizeL_S l]
theorem mkT_wt (mode : Bool) (l : List Ex) : (mkT mode l).wt = Ex.wtL l + 3 * l.length + 2 := by cases mode <;> rfl
theorem mkT_size (mode : Bool) (l : List Ex) : (mkT mode l).size = Ex.sizeL l + 1 := by cases mode <;> rfl
theorem pieces_wt {mode : Bool} {t : Ex} {ps : List Ex} (h : pieces mode t = some ps) : WtS (fun x => x.wt + 3) ps ≤ t.wt + 3 := by
  cases t with
  | k b => simp only [pieces] at h; split at h; · injection h with h; subst h; simp [WtS]
           · cases h
  | and l => simp only [pieces] at h; injection h with h; subst h; cases mode
             · simp [WtS]
             · rw [if_pos rfl, wtL_S]; simp only [Ex.wt]; omega
  | or l => simp only [pieces] at h; injection h with h; subst h; cases mode
            · simp only [Bool.false_eq_true, if_false]; rw [wtL_S]; simp only [Ex.wt]; omega
            · simp [WtS]
  | _ => simp only [pieces] at h; injection h with h; subst h; simp [WtS]
theorem pieces_size {mode : Bool} {t : Ex} {ps : List Ex} (h : pieces mode t = some ps) : WtS Ex.size ps ≤ t.size := by
  cases t with
  | k b => simp only [pieces] at h; split at h; · injection h with h; subst h; simp [WtS]
           · cases h
  | and l => simp only [pieces] at h; injection h with h; subst h; cases mode
             · simp [WtS]
             · rw [if_pos rfl, sizeL_S]; simp only [Ex.size]; omega
  | or l => simp only [pieces] at h; injection h with h; subst h; cases mode
            · simp only [Bool.false_eq_true, if_false]; rw [sizeL_S]; simp only [Ex.size]; omega
            · simp [WtS]
  | _ => simp only [pieces] at h; injection h with h; subst h; simp [WtS]
theorem packT_le (f : Ex → Nat) (g : Nat) {mode : Bool} {o : Option (List Ex)} (h1 : ∀ b, f (.k b) ≤ g) (h2 : ∀ l, o = some l → (∀ x, l = [x] → f x ≤ g) ∧ f (mkT mode l) ≤ g) : f (packT mode o) ≤ g := by
  match o, h2 with
  | none, _ => exact h1 _
  | some [], _ => exact h1 _
  | some [x], h2 => exact (h2 [x] rfl).1 x rfl
  | some (x :: y :: r), h2 => exact (h2 _ rfl).2
theorem Ex.tidy_wt : ∀ (n : Nat) (x : Ex), x.wt < n → x.tidy.wt ≤ x.wt
  | 0, x, h => by omega
  | n + 1, x, h => by
    have row : ∀ mode l, Ex.wtL l < n → Ex.wtL l + 3 * l.length + 2 = x.wt → (packT mode (Ex.tidyL mode l [])).wt ≤ x.wt := fun mode l hl he => by
      refine packT_le Ex.wt _ (fun b => by simp only [Ex.wt]; omega) fun l' hl' => ?_
      have h1 := tidyL_wt (fun x => x.wt + 3) hl' fun y hy ps hps => by
        have h2 := Ex.tidy_wt n y (by have := Ex.wt_mem hy; omega)
        have h3 := pieces_wt hps
        show WtS (fun x => x.wt + 3) ps ≤ y.wt + 3
        omega
      rw [wtL_S l', wtL_S l] at h1
      simp only [WtS] at h1
      refine ⟨fun y hy => ?_, by rw [mkT_wt]; omega⟩
      subst hy
      simp only [Ex.wtL, List.length_cons, List.length_nil] at h1
      omega
    cases x with
    | not x =>
      simp only [Ex.wt] at h
      have := Ex.tidy_wt n x (by omega)
      simp only [Ex.tidy, Ex.wt]
      cases hx : x.tidy with
      | k b => simp only [notT, Ex.wt]; omega
      | not y => rw [hx] at this; simp only [notT, Ex.wt] at this ⊢; omega
      | _ => rw [hx] at this; simp only [notT, Ex.wt] at this ⊢; omega
    | and l => simp only [Ex.tidy]; exact row true l (by simp only [Ex.wt] at h; omega) (by simp only [Ex.wt])
    | or l => simp only [Ex.tidy]; exact row false l (by simp only [Ex.wt] at h; omega) (by simp only [Ex.wt])
    | _ => simp only [Ex.tidy]; exact Nat.le_refl _
theorem Ex.tidy_le (x : Ex) : x.tidy.wt ≤ x.wt := Ex.tidy_wt (x.wt + 1) x (by omega)
theorem Ex.tidy_size' : ∀ (n : Nat) (x : Ex), x.wt < n → x.tidy.size ≤ x.size
  | 0, x, h => by omega
  | n + 1, x, h => by
    have row : ∀ mode l, Ex.wtL l < n → Ex.sizeL l + 1 = x.size → (packT mode (Ex.tidyL mode l [])).size ≤ x.size := fun mode l hl he => by
      refine packT_le Ex.size _ (fun b => by simp only [Ex.size]; omega) fun l' hl' => ?_
      have h1 := tidyL_wt Ex.size hl' fun y hy ps hps => by
        have h2 := Ex.tidy_size' n y (by have := Ex.wt_mem hy; omega)
        have h3 := pieces_size hps
        omega
      rw [sizeL_S l', sizeL_S l] at h1
      simp only [WtS] at h1
      refine ⟨fun y hy => ?_, by rw [mkT_size]; omega⟩
      subst hy
      simp only [Ex.sizeL] at h1
      omega
    cases x with
    | not x =>
      simp only [Ex.wt] at h
      have := Ex.tidy_size' n x (by omega)
      simp only [Ex.tidy, Ex.size]
      cases hx : x.tidy with
      | k b => simp only [notT, Ex.size]; omega
      | not y => rw [hx] at this; simp only [notT, Ex.size] at this ⊢; omega
      | _ => rw [hx] at this; simp only [notT, Ex.size] at this ⊢; omega
    | and l => simp only [Ex.tidy]; exact row true l (by simp only [Ex.wt] at h; omega) (by simp only [Ex.size])
    | or l => simp only [Ex.tidy]; exact row false l (by simp only [Ex.wt] at h; omega) (by simp only [Ex.size])
    | _ => simp only [Ex.tidy]; exact Nat.le_refl _
theorem Ex.tidy_size (x : Ex) : x.tidy.size ≤ x.size := Ex.tidy_size' (x.wt + 1) x (by omega)
theorem Ex.fineL_iff : ∀ {l : List Ex}, Ex.fineL l ↔ ∀ x ∈ l, x.fine
  | [] => by simp [Ex.fineL]
  | x :: l => by simp [Ex.fineL, Ex.fineL_iff (l := l)]
theorem mkT_fine {mode : Bool} {l : List Ex} (h : 2 ≤ l.length) (hf : ∀ x ∈ l, x.fine) : (mkT mode l).fine := by cases mode <;> exact ⟨h, Ex.fineL_iff.2 hf⟩
theorem pieces_fine {mode : Bool} {t : Ex} {ps : List Ex} (h : pieces mode t = some ps) (hf : t.fine) : ∀ y ∈ ps, y.fine := by
  cases t with
  | k b => simp only [pieces] at h; split at h; · injection h with h; subst h; simp
           · cases h
  | and l => simp only [pieces] at h; injection h with h; subst h; cases mode
             · simpa using hf
             · exact Ex.fineL_iff.1 hf.2
  | or l => simp only [pieces] at h; injection h with h; subst h; cases mode
            · exact Ex.fineL_iff.1 hf.2
            · simpa using hf
  | _ => simp only [pieces] at h; injection h with h; subst h; simpa using hf
theorem packT_ind {Q : Ex → Prop} {mode : Bool} {o : Option (List Ex)} (h1 : ∀ b, Q (.k b)) (h2 : ∀ l, o = some l → (∀ x ∈ l, Q x) ∧ (2 ≤ l.length → Q (mkT mode l))) : Q (packT mode o) := by
  match o, h2 with
  | none, _ => exact h1 _
  | some [], _ => exact h1 _
  | some [x], h2 => exact (h2 [x] rfl).1 x (by simp)
  | some (x :: y :: r), h2 => exact (h2 _ rfl).2 (by simp)
theorem notT_fine {t : Ex} (h : t.fine) : (notT t).fine := by cases t <;> exact h
theorem Ex.tidy_fine' : ∀ (n : Nat) (x : Ex), x.wt < n → x.fine → x.tidy.fine
  | 0, x, h, _ => by omega
  | n + 1, x, h, hf => by
    have row : ∀ mode l, Ex.wtL l < n → Ex.fineL l → (packT mode (Ex.tidyL mode l [])).fine := fun mode l hl hfl => by
      refine packT_ind (fun _ => trivial) fun l' hl' => ?_
      have h1 := tidyL_mem (Q := Ex.fine) hl' (by simp) fun y hy ps hps => pieces_fine hps (Ex.tidy_fine' n y (by have := Ex.wt_mem hy; omega) (Ex.fine_mem hfl hy))
      exact ⟨h1, fun h2 => mkT_fine h2 h1⟩
    cases x with
    | not x => simp only [Ex.tidy]; exact notT_fine (Ex.tidy_fine' n x (by simp only [Ex.wt] at h; omega) hf)
    | and l => simp only [Ex.tidy]; exact row true l (by simp only [Ex.wt] at h; omega) hf.2
    | or l => simp only [Ex.tidy]; exact row false l (by simp only [Ex.wt] at h; omega) hf.2
    | _ => simp only [Ex.tidy]; exact hf
theorem Ex.tidy_fine {x : Ex} (h : x.fine) : x.tidy.fine := Ex.tidy_fine' (x.wt + 1) x (by omega) h

/-! ### it says the same -/
theorem other_says (p q : Str → Bool) (y : Ex) : y.other.says p q = !y.says p q := by cases y <;> simp [Ex.other, Ex.says]
theorem other_fine {y : Ex} (h : y.fine) : y.other.fine := by cases y <;> exact h
theorem hasT_mem {l : List Ex} {y : Ex} (hl : ∀ x ∈ l, x.fine) (hy : y.fine) (h : hasT l (y.wr 0) = true) : y ∈ l := by
  unfold hasT at h
  rw [List.any_eq_true] at h
  obtain ⟨z, hz, he⟩ := h
  have := wr_inj (hl z hz) hy (by simpa using he)
  subst this; exact hz
/-- all, or one: as 'mode' says -/
def sayL (mode : Bool) (f : Ex → Bool) (l : List Ex) : Bool := if mode then l.all f else l.any f
theorem sayL_append (mode : Bool) (f : Ex → Bool) (l m : List Ex) : sayL mode f (l ++ m) = if mode then sayL mode f l && sayL mode f m else sayL mode f l || sayL mode f m := by cases mode <;> simp [sayL]
theorem sayL_has {mode : Bool} {f : Ex → Bool} {l : List Ex} {y : Ex} (h : y ∈ l) : sayL mode f (l ++ [y]) = sayL mode f l := by
  cases mode with
  | true =>
    simp only [sayL, if_true, List.all_append, List.all_cons, List.all_nil, Bool.and_true]
    cases ha : l.all f with
    | false => rfl
    | true => rw [List.all_eq_true.1 ha y h]; rfl
  | false =>
    simp only [sayL, Bool.false_eq_true, if_false, List.any_append, List.any_cons, List.any_nil, Bool.or_false]
    cases hy : f y with
    | false => simp
    | true => rw [List.any_eq_true.2 ⟨y, h, hy⟩]; rfl
theorem sayL_both {mode : Bool} {f : Ex → Bool} {l : List Ex} {y z : Ex} (h1 : y ∈ l) (h2 : z ∈ l) (hz : f z = !f y) : sayL mode f l = !mode := by
  cases mode with
  | true =>
    simp only [sayL, if_true, Bool.not_true]
    rw [List.all_eq_false]
    cases hy : f y with
    | false => exact ⟨y, h1, by simp [hy]⟩
    | true => exact ⟨z, h2, by rw [hz, hy]; simp⟩
  | false =>
    simp only [sayL, Bool.false_eq_true, if_false, Bool.not_false]
    rw [List.any_eq_true]
    cases hy : f y with
    | true => exact ⟨y, h1, hy⟩
    | false => exact ⟨z, h2, by rw [hz, hy]; rfl⟩
theorem sayL_mono {mode : Bool} {f : Ex → Bool} {l m : List Ex} (h : sayL mode f l = !mode) : sayL mode f (l ++ m) = !mode := by
  rw [sayL_append, h]; cases mode <;> simp
section
variable {p q : Str → Bool}
theorem addAll_says {mode : Bool} : ∀ {ps l : List Ex}, (∀ x ∈ l, x.fine) → (∀ x ∈ ps, x.fine) → sayL mode (Ex.says p q) (l ++ ps) = match addAll l ps with
    | none => !mode
    | some l' => sayL mode (Ex.says p q) l'
  | [], l, _, _ => by simp [addAll]
  | y :: ys, l, hl, hp => by
    have hy := hp y (by simp)
    have hys : ∀ x ∈ ys, x.fine := fun x hx => hp x (List.mem_cons_of_mem _ hx)
    have e : l ++ y :: ys = l ++ [y] ++ ys := by simp
    unfold addAll addP
    by_cases h1 : hasT l (y.wr 0) = true
    · rw [if_pos h1]
      simp only
      rw [← addAll_says hl hys, e, sayL_append, sayL_has (hasT_mem hl hy h1), ← sayL_append]
    · rw [if_neg h1]
      by_cases h2 : hasT l (y.other.wr 0) = true
      · rw [if_pos h2]
        simp only
        have hm := hasT_mem hl (other_fine hy) h2
        rw [e]
        refine sayL_mono (sayL_both (y := y) (z := y.other) (by simp) (by simp [hm]) (other_says p q y))
      · rw [if_neg h2]
        simp only
        rw [e]
        refine addAll_says (fun x hx => ?_) hys
        rcases List.mem_append.1 hx with hx | hx
        · exact hl x hx
        · simp at hx; subst hx; exact hy
theorem mkT_says (mode : Bool) (l : List Ex) : (mkT mode l).says p q = sayL mode (Ex.says p q) l := by
  cases mode
  · show Ex.anyL p q l = l.any (Ex.says p q); exact Ex.anyL_eq p q l
  · show Ex.allL p q l = l.all (Ex.says p q); exact Ex.allL_eq p q l
theorem pieces_says {mode : Bool} {t : Ex} : t.says p q = match pieces mode t with
    | none => !mode
    | some ps => sayL mode (Ex.says p q) ps := by
  have one : ∀ x : Ex, x.says p q = sayL mode (Ex.says p q) [x] := fun x => by cases mode <;> simp [sayL]
  cases t with
  | k b => simp only [pieces]; cases b <;> cases mode <;> simp [sayL, Ex.says]
  | and l =>
    simp only [pieces]
    cases mode with
    | true => exact mkT_says true l
    | false => exact one _
  | or l =>
    simp only [pieces]
    cases mode with
    | true => exact one _
    | false => exact mkT_says false l
  | _ => exact one _
theorem tidyL_says {mode : Bool} : ∀ {l acc : List Ex}, (∀ x ∈ acc, x.fine) → (∀ x ∈ l, x.fine) → (∀ x ∈ l, x.tidy.says p q = x.says p q) → sayL mode (Ex.says p q) (acc ++ l) = match Ex.tidyL mode l acc with
    | none => !mode
    | some l' => sayL mode (Ex.says p q) l'
  | [], acc, _, _, _ => by simp [Ex.tidyL]
  | x :: l, acc, ha, hl, hs => by
    have hx := hs x (by simp)
    have hfx := Ex.tidy_fine (hl x (by simp))
    have e : acc ++ x :: l = acc ++ [x] ++ l := by simp
    have e1 : sayL mode (Ex.says p q) [x] = x.says p q := by cases mode <;> simp [sayL]
    simp only [Ex.tidyL]
    have hp := pieces_says (p := p) (q := q) (mode := mode) (t := x.tidy)
    cases hps : pieces mode x.tidy with
    | none =>
      rw [hps] at hp
      simp only at hp ⊢
      rw [e]
      refine sayL_mono ?_
      rw [sayL_append, e1, ← hx, hp]
      cases mode <;> simp
    | some ps =>
      rw [hps] at hp
      simp only at hp ⊢
      have hpf := pieces_fine hps hfx
      have h1 := addAll_says (p := p) (q := q) (mode := mode) ha hpf
      have e2 : sayL mode (Ex.says p q) (acc ++ [x]) = sayL mode (Ex.says p q) (acc ++ ps) := by rw [sayL_append, sayL_append, e1, ← hx, hp]
      cases hm : addAll acc ps with
      | none =>
        rw [hm] at h1
        simp only at h1 ⊢
        rw [e]
        exact sayL_mono (by rw [e2, h1])
      | some acc' =>
        rw [hm] at h1
        simp only at h1 ⊢
        have haf := addAll_mem (Q := Ex.fine) hm ha hpf
        rw [← tidyL_says haf (fun y hy => hl y (List.mem_cons_of_mem _ hy)) (fun y hy => hs y (List.mem_cons_of_mem _ hy)), e, sayL_append, e2, h1, ← sayL_append]
theorem packT_says {mode : Bool} {o : Option (List Ex)} : (packT mode o).says p q = match o with
    | none => !mode
    | some l => sayL mode (Ex.says p q) l := by
  match o with
  | none => rfl
  | some [] => cases mode <;> rfl
  | some [x] => cases mode <;> simp [packT, sayL]
  | some (x :: y :: r) => exact mkT_says mode _
theorem notT_says {t : Ex} : (notT t).says p q = !t.says p q := by cases t <;> simp [notT, Ex.says]
theorem Ex.tidy_says' : ∀ (n : Nat) (x : Ex), x.wt < n → x.fine → x.tidy.says p q = x.says p q
  | 0, x, h, _ => by omega
  | n + 1, x, h, hf => by
    have row : ∀ mode l, Ex.wtL l < n → Ex.fineL l → (packT mode (Ex.tidyL mode l [])).says p q = (mkT mode l).says p q := fun mode l hl hfl => by
      rw [packT_says, mkT_says]
      have := tidyL_says (p := p) (q := q) (mode := mode) (acc := []) (by simp) (Ex.fineL_iff.1 hfl) (fun y hy => Ex.tidy_says' n y (by have := Ex.wt_mem hy; omega) (Ex.fine_mem hfl hy))
      rw [List.nil_append] at this
      exact this.symm
    cases x with
    | not x => simp only [Ex.tidy, Ex.says]; rw [notT_says, Ex.tidy_says' n x (by simp only [Ex.wt] at h; omega) hf]
    | and l => simp only [Ex.tidy]; exact row true l (by simp only [Ex.wt] at h; omega) hf.2
    | or l => simp only [Ex.tidy]; exact row false l (by simp only [Ex.wt] at h; omega) hf.2
    | _ => simp only [Ex.tidy]
theorem Ex.tidy_says {x : Ex} (h : x.fine) : x.tidy.says p q = x.says p q := Ex.tidy_says' (x.wt + 1) x (by omega) h
end
end Go.Sc
namespace Go.Sc
open Go
set_option linter.unusedSimpArgs false
set_option linter.unusedVariables false
set_option linter.unnecessarySimpa false
section
variable {E : Env} {P : Program}
theorem lit (a : Array UInt8) : (AV.val (.string ⟨a⟩)) = S a.toList := by simp
end
end Go.Sc
namespace Go.Sc.F
open Go Go.Sc
set_option linter.unusedVariables false
/-- signalbox/expr.Tidy -/
def expr_Tidy (E : Env) (P : Program) (a0 : AV) (H : AH) (R : Kt) : Prop :=
  wGet (assertA 10 (.agg [(.val (.nilIface))]) a0) H fun t14 H =>
  wGet (extractA t14 1) H fun t15 H =>
  wGet (extractA t14 0) H fun t16 H =>
  wIf t15 (
    wNew 1 (some [(.val (.nilIface))]) H fun t3 H =>
    wPut (storeN 1 t3 t16 H) fun _u H =>
    wGet (faddr 0 t3) H fun t17 H =>
    wGet (load1 t17 H) H fun t18 H =>
    wCall E P 170 [t18] H fun t19 H =>
    wGet (assertA 11 (.val (.bool false)) t19) H fun t23 H =>
    wGet (extractA t23 1) H fun t24 H =>
    wGet (extractA t23 0) H fun t25 H =>
    wIf t24 (
      wGet (unA .not t25) H fun t27 H =>
      R (.ifc 11 t27) H) (
      wGet (assertA 10 (.agg [(.val (.nilIface))]) t19) H fun t29 H =>
      wGet (extractA t29 1) H fun t30 H =>
      wGet (extractA t29 0) H fun t31 H =>
      wIf t30 (
        wNew 1 (some [(.val (.nilIface))]) H fun t5 H =>
        wPut (storeN 1 t5 t31 H) fun _u H =>
        wGet (faddr 0 t5) H fun t32 H =>
        wGet (load1 t32 H) H fun t33 H =>
        R t33 H) (
        wAgg (fillA [(.val (.nilIface))] [(0, 1, t19)]) H fun t21 H =>
        R (.ifc 10 t21) H))) (
    wGet (assertA 9 (.val (.slice none 0 0)) a0) H fun t34 H =>
    wGet (extractA t34 1) H fun t35 H =>
    wGet (extractA t34 0) H fun t36 H =>
    wIf t35 (
      wCall E P 173 [t36, (.val (.bool true))] H fun t39 H =>
      wGet (extractA t39 0) H fun t40 H =>
      wGet (extractA t39 1) H fun t41 H =>
      wIf t41 (
        R (.ifc 11 (.val (.bool false))) H) (
        wGet (lenA t40) H fun t47 H =>
        wGet (binA .eql t47 (.val (.int .i64 0))) H fun t48 H =>
        wIf t48 (
          R (.ifc 11 (.val (.bool true))) H) (
          wGet (lenA t40) H fun t52 H =>
          wGet (binA .eql t52 (.val (.int .i64 1))) H fun t53 H =>
          wIf t53 (
            wGet (iaddr 1 t40 (.val (.int .i64 0))) H fun t55 H =>
            wGet (load1 t55 H) H fun t56 H =>
            R t56 H) (
            R (.ifc 9 t40) H)))) (
      wGet (assertA 8 (.val (.slice none 0 0)) a0) H fun t59 H =>
      wGet (extractA t59 1) H fun t60 H =>
      wGet (extractA t59 0) H fun t61 H =>
      wIf t60 (
        wCall E P 173 [t61, (.val (.bool false))] H fun t64 H =>
        wGet (extractA t64 0) H fun t65 H =>
        wGet (extractA t64 1) H fun t66 H =>
        wIf t66 (
          R (.ifc 11 (.val (.bool true))) H) (
          wGet (lenA t65) H fun t72 H =>
          wGet (binA .eql t72 (.val (.int .i64 0))) H fun t73 H =>
          wIf t73 (
            R (.ifc 11 (.val (.bool false))) H) (
            wGet (lenA t65) H fun t77 H =>
            wGet (binA .eql t77 (.val (.int .i64 1))) H fun t78 H =>
            wIf t78 (
              wGet (iaddr 1 t65 (.val (.int .i64 0))) H fun t80 H =>
              wGet (load1 t80 H) H fun t81 H =>
              R t81 H) (
              R (.ifc 8 t65) H)))) (
        R a0 H)))

/-- signalbox/expr.parts -/
def expr_parts (E : Env) (P : Program) (a0 a1 : AV) (H : AH) (R : Kt) : Prop :=
  wNew 1 (some [(.val (.slice none 0 0))]) H fun t6 H =>
  wNew 1 (some [(.val (.slice none 0 0))]) H fun t7 H =>
  wGet (lenA a0) H fun t18 H =>
  wLoop 1 (fun I1 => I1 (.val (.int .i64 0)) H) fun I1 t19 H =>
    wGet (binA .lss t19 t18) H fun t20 H =>
    wIf t20 (
      wGet (iaddr 1 a0 t19) H fun t21 H =>
      wGet (load1 t21 H) H fun t22 H =>
      wJoin 1 (fun J2 =>
        wCall E P 170 [t22] H fun t24 H =>
        wGet (assertA 11 (.val (.bool false)) t24) H fun t27 H =>
        wGet (extractA t27 1) H fun t28 H =>
        wGet (extractA t27 0) H fun t29 H =>
        wIf t28 (
          wBool (eqA .bool t29 a1) H true fun t32 H =>
          wIf t32 (
            R (.tup [(.val (.slice none 0 0)), (.val (.bool true))]) H) (
            J2 (.val (.slice none 0 0)) H)) (
          wGet (assertA 9 (.val (.slice none 0 0)) t24) H fun t33 H =>
          wGet (extractA t33 1) H fun t34 H =>
          wGet (extractA t33 0) H fun t35 H =>
          wIf t34 (
            wNewS 1 1 (fillA (List.replicate 1 [(.val (.nilIface))]).flatten [(0, 1, (.ifc 9 t35))]) H fun t38 H =>
            wIf a1 (
              J2 t35 H) (
              J2 t38 H)) (
            wGet (assertA 8 (.val (.slice none 0 0)) t24) H fun t41 H =>
            wGet (extractA t41 1) H fun t42 H =>
            wGet (extractA t41 0) H fun t43 H =>
            wIf t42 (
              wNewS 1 1 (fillA (List.replicate 1 [(.val (.nilIface))]).flatten [(0, 1, (.ifc 8 t43))]) H fun t46 H =>
              wGet (unA .not a1) H fun t48 H =>
              wIf t48 (
                J2 t43 H) (
                J2 t46 H)) (
              wNewS 1 1 (fillA (List.replicate 1 [(.val (.nilIface))]).flatten [(0, 1, t24)]) H fun t26 H =>
              J2 t26 H)))) fun t11 H =>
        wCall E P 176 [t11, (.fn 175 [] [t7, t6])] H fun t52 H =>
        wIf t52 (
          R (.tup [(.val (.slice none 0 0)), (.val (.bool true))]) H) (
          wGet (binA .add t19 (.val (.int .i64 1))) H fun t53 H =>
          I1 t53 H)) (
      wGet (load1 t6 H) H fun t54 H =>
      R (.tup [t54, (.val (.bool false))]) H)

/-- signalbox/expr.parts$1 -/
def expr_parts_c1 (E : Env) (P : Program) (a0 a1 a2 : AV) (H : AH) (R : Kt) : Prop :=
  wCall E P 127 [a0] H fun t10 H =>
  wGet (load1 a1 H) H fun t11 H =>
  wCall E P 5 [t11, t10] H fun t13 H =>
  wIf t13 (
    R (.val (.bool false)) H) (
    wAgg (fillA [(.val (.nilIface))] [(0, 1, a0)]) H fun t15 H =>
    wCall E P 127 [(.ifc 10 t15)] H fun t17 H =>
    wJoin 1 (fun J1 =>
      wGet (assertA 10 (.agg [(.val (.nilIface))]) a0) H fun t20 H =>
      wGet (extractA t20 0) H fun t21 H =>
      wGet (extractA t20 1) H fun t22 H =>
      wNew 1 (some [(.val (.nilIface))]) H fun t7 H =>
      wPut (storeN 1 t7 t21 H) fun _u H =>
      wIf t22 (
        wGet (faddr 0 t7) H fun t24 H =>
        wGet (load1 t24 H) H fun t25 H =>
        wCall E P 127 [t25] H fun t26 H =>
        J1 t26 H) (
        J1 t17 H)) fun t6 H =>
      wGet (load1 a1 H) H fun t27 H =>
      wCall E P 5 [t27, t6] H fun t29 H =>
      wIf t29 (
        R (.val (.bool true)) H) (
        wJoin 0 (fun J2 =>
          wGet (load1 a2 H) H fun t30 H =>
          wGet (load1 a1 H) H fun t34 H =>
          (
            wNewS 1 1 (fillA (List.replicate 1 [(.val (.nilIface))]).flatten [(0, 1, a0)]) H fun t32 H =>
            (wGet (load1 a2 H) H (fun y H2 => y = t30 ∧ H2 = H)) ∧
            (wGet (load1 a1 H) H (fun y H2 => y = t34 ∧ H2 = H)) ∧
            (
              wApp 1 16 t30 t32 H fun t33 H =>
              (wGet (load1 a1 H) H (fun y H2 => y = t34 ∧ H2 = H)) ∧
              wNewS 1 1 (fillA (List.replicate 1 [(.val (.string ⟨#[]⟩))]).flatten [(0, 1, t10)]) H fun t36 H =>
              (wGet (load1 a2 H) H (fun y H2 => y = t30 ∧ H2 = H)) ∧
              (wGet (load1 a1 H) H (fun y H2 => y = t34 ∧ H2 = H)) ∧
              wApp 1 16 t34 t36 H fun t37 H =>
              wPut (store1 a2 t33 H) fun _u H =>
              wPut (store1 a1 t37 H) fun _u H =>
              J2 H) ∧
            (
              wNewS 1 1 (fillA (List.replicate 1 [(.val (.string ⟨#[]⟩))]).flatten [(0, 1, t10)]) H fun t36_1 H =>
              (wGet (load1 a2 H) H (fun y H2 => y = t30 ∧ H2 = H)) ∧
              (wGet (load1 a1 H) H (fun y H2 => y = t34 ∧ H2 = H)) ∧
              wApp 1 16 t30 t32 H fun t33_1 H =>
              (wGet (load1 a1 H) H (fun y H2 => y = t34 ∧ H2 = H)) ∧
              wApp 1 16 t34 t36_1 H fun t37_1 H =>
              wPut (store1 a2 t33_1 H) fun _u H =>
              wPut (store1 a1 t37_1 H) fun _u H =>
              J2 H)) ∧
          (
            wNewS 1 1 (fillA (List.replicate 1 [(.val (.string ⟨#[]⟩))]).flatten [(0, 1, t10)]) H fun t36_2 H =>
            (wGet (load1 a2 H) H (fun y H2 => y = t30 ∧ H2 = H)) ∧
            (wGet (load1 a1 H) H (fun y H2 => y = t34 ∧ H2 = H)) ∧
            wNewS 1 1 (fillA (List.replicate 1 [(.val (.nilIface))]).flatten [(0, 1, a0)]) H fun t32_1 H =>
            (wGet (load1 a2 H) H (fun y H2 => y = t30 ∧ H2 = H)) ∧
            (wGet (load1 a1 H) H (fun y H2 => y = t34 ∧ H2 = H)) ∧
            wApp 1 16 t30 t32_1 H fun t33_2 H =>
            (wGet (load1 a1 H) H (fun y H2 => y = t34 ∧ H2 = H)) ∧
            wApp 1 16 t34 t36_2 H fun t37_2 H =>
            wPut (store1 a2 t33_2 H) fun _u H =>
            wPut (store1 a1 t37_2 H) fun _u H =>
            J2 H)) fun H =>
          R (.val (.bool false)) H))

/-- slices.ContainsFunc[[]signalbox/expr.Expr,signalbox/expr.Expr] -/
def slices_ContainsFunc_Lexpr_Expr_expr_Expr (E : Env) (P : Program) (a0 a1 : AV) (H : AH) (R : Kt) : Prop :=
  wCall E P 177 [a0, a1] H fun t7 H =>
  wGet (binA .geq t7 (.val (.int .i64 0))) H fun t8 H =>
  R t8 H

/-- slices.IndexFunc[[]signalbox/expr.Expr,signalbox/expr.Expr] -/
def slices_IndexFunc_Lexpr_Expr_expr_Expr (E : Env) (P : Program) (a0 a1 : AV) (H : AH) (R : Kt) : Prop :=
  wGet (lenA a0) H fun t7 H =>
  wLoop 1 (fun I1 => I1 (.val (.int .i64 0)) H) fun I1 t8 H =>
    wGet (binA .lss t8 t7) H fun t9 H =>
    wIf t9 (
      wGet (iaddr 1 a0 t8) H fun t14 H =>
      wGet (load1 t14 H) H fun t15 H =>
      wCallV E P a1 [t15] H fun t16 H =>
      wIf t16 (
        R t8 H) (
        wGet (binA .add t8 (.val (.int .i64 1))) H fun t18 H =>
        I1 t18 H)) (
      R (.val (.int .i64 (-1))) H)

end Go.Sc.F
namespace Go.Sc
open Go
set_option linter.unusedSimpArgs false
set_option linter.unusedVariables false
set_option linter.unnecessarySimpa false
section
variable {E : Env} {P : Program}
theorem sizeL_len : ∀ m : List Ex, m.length ≤ Ex.sizeL m
  | [] => by simp [Ex.sizeL]
  | a :: m => by
    have h1 : 1 ≤ a.size := by cases a <;> simp [Ex.size]
    have h2 := sizeL_len m
    simp only [List.length_cons, Ex.sizeL]; omega
theorem nameOk_ne {s : Str} (h : nameOk s = true) : s ≠ [] := by rintro rfl; simp [nameOk] at h
end
end Go.Sc
namespace Go.Sc
open Go
set_option linter.unusedSimpArgs false
set_option linter.unusedVariables false
set_option linter.unnecessarySimpa false
mutual
/-- of its names: those that it asks what they are, those that it asks what they were -/
def Ex.on (Q Q' : Str → Prop) : Ex → Prop
  | .k _ => True
  | .bit s => Q s
  | .rise s => Q s ∧ Q' s
  | .fall s => Q s ∧ Q' s
  | .not x => x.on Q Q'
  | .and l => Ex.onL Q Q' l
  | .or l => Ex.onL Q Q' l
def Ex.onL (Q Q' : Str → Prop) : List Ex → Prop
  | [] => True
  | x :: l => x.on Q Q' ∧ Ex.onL Q Q' l
end
theorem Ex.on_mem {Q Q' : Str → Prop} {x : Ex} : ∀ {l : List Ex}, Ex.onL Q Q' l → x ∈ l → x.on Q Q'
  | y :: l, h, hx => by
    rcases List.mem_cons.1 hx with rfl | hx
    · exact h.1
    · exact Ex.on_mem h.2 hx
mutual
theorem Ex.on_of {Q Q' : Str → Prop} : ∀ x : Ex, x.fine → (∀ s ∈ x.raw nf1, Q s) → (∀ s ∈ x.raw nf2, Q' s) → x.on Q Q'
  | .k _, _, _, _ => trivial
  | .bit s, hf, h1, _ => h1 s (by simp [Ex.raw, nmL, nf1, nameOk_ne hf])
  | .rise s, hf, h1, h2 => ⟨h1 s (by simp [Ex.raw, nmL, nf1, nameOk_ne hf]), h2 s (by simp [Ex.raw, nmL, nf2, nameOk_ne hf])⟩
  | .fall s, hf, h1, h2 => ⟨h1 s (by simp [Ex.raw, nmL, nf1, nameOk_ne hf]), h2 s (by simp [Ex.raw, nmL, nf2, nameOk_ne hf])⟩
  | .not x, hf, h1, h2 => Ex.on_of x hf (fun s hs => h1 s (by simp [Ex.raw, hs])) (fun s hs => h2 s (by simp [Ex.raw, hs]))
  | .and l, hf, h1, h2 => Ex.onL_of l hf.2 (fun s hs => h1 s (by simp [Ex.raw, hs])) (fun s hs => h2 s (by simp [Ex.raw, hs]))
  | .or l, hf, h1, h2 => Ex.onL_of l hf.2 (fun s hs => h1 s (by simp [Ex.raw, hs])) (fun s hs => h2 s (by simp [Ex.raw, hs]))
theorem Ex.onL_of {Q Q' : Str → Prop} : ∀ l : List Ex, Ex.fineL l → (∀ s ∈ Ex.rawL nf1 l, Q s) → (∀ s ∈ Ex.rawL nf2 l, Q' s) → Ex.onL Q Q' l
  | [], _, _, _ => trivial
  | x :: l, hf, h1, h2 => ⟨Ex.on_of x hf.1 (fun s hs => h1 s (by simp [Ex.rawL, hs])) (fun s hs => h2 s (by simp [Ex.rawL, hs])), Ex.onL_of l hf.2 (fun s hs => h1 s (by simp [Ex.rawL, hs])) (fun s hs => h2 s (by simp [Ex.rawL, hs]))⟩
end
/-- a question of names, answered for some -/
structure AsksOn (E : Env) (P : Program) (f : AV) (p : Str → Bool) (Q : Str → Prop) : Prop where
  ok : ∃ k cc, f = .fn k [] cc ∧ AV.closedL cc ∧ ∀ s, Q s → FX E P k ([S s] ++ cc) (Bo (p s))
theorem AsksOn.closed {E : Env} {P : Program} {f : AV} {p : Str → Bool} {Q : Str → Prop} (h : AsksOn E P f p Q) : f.closed := by
  obtain ⟨k, cc, rfl, h, _⟩ := h.ok
  exact ⟨trivial, h⟩
theorem AsksOn.scalar {E : Env} {P : Program} {f : AV} {p : Str → Bool} {Q : Str → Prop} (h : AsksOn E P f p Q) : f.scalar = true := by
  obtain ⟨k, cc, rfl, h, _⟩ := h.ok
  rfl
theorem AsksOn.call {E : Env} {P : Program} {f : AV} {p : Str → Bool} {Q : Str → Prop} (h : AsksOn E P f p Q) (s : Str) (hs : Q s) {H : AH} {K : Kt} (hK : ∀ n, K (Bo (p s)) ⟨H.bs, n⟩) : wCallV E P f [S s] H K := by
  obtain ⟨k, cc, rfl, _, h⟩ := h.ok
  exact wCallV.fx (fs := []) (h s hs) hK
section
variable {E : Env} {P : Program}
end
end Go.Sc
namespace Go.Sc
open Go
set_option linter.unusedSimpArgs false
set_option linter.unusedVariables false
/-- variables so far, and clauses -/
structure Bd where
  vars : Nat
  cl : List (List Int)
theorem two_mem {P : Int → Prop} {a b : Int} (h1 : P a) (h2 : P b) : ∀ y ∈ [a, b], P y := fun y hy => by
  simp at hy
  rcases hy with rfl | rfl
  · exact h1
  · exact h2
def negL (l : List Int) : List Int := l.map fun x => -x
def andP (l : List Int) (b : Bd) : Int × Bd :=
  (((b.vars + 1 : Nat) : Int), ⟨b.vars + 1, b.cl ++ (l.map fun x => [-((b.vars + 1 : Nat) : Int), x]) ++ [((b.vars + 1 : Nat) : Int) :: negL l]⟩)
def constP (c : Bool) (b : Bd) : Int × Bd := (((b.vars + 1 : Nat) : Int), ⟨b.vars + 1, b.cl ++ [[if c then ((b.vars + 1 : Nat) : Int) else -((b.vars + 1 : Nat) : Int)]]⟩)
mutual
def litP (nm : Str → Int) : Ex → Bd → Int × Bd
  | .bit s, b => (nm s, b)
  | .rise s, b => andP [nm s, -nm (94 :: s)] b
  | .fall s, b => andP [-nm s, nm (94 :: s)] b
  | .not x, b => (-(litP nm x b).1, (litP nm x b).2)
  | .and l, b => andP (litsP nm l b).1 (litsP nm l b).2
  | .or l, b => (-(andP (negL (litsP nm l b).1) (litsP nm l b).2).1, (andP (negL (litsP nm l b).1) (litsP nm l b).2).2)
  | .k c, b => constP c b
def litsP (nm : Str → Int) : List Ex → Bd → List Int × Bd
  | [], b => ([], b)
  | x :: l, b => ((litP nm x b).1 :: (litsP nm l (litP nm x b).2).1, (litsP nm l (litP nm x b).2).2)
end
theorem negL_len (l : List Int) : (negL l).length = l.length := by simp [negL]
theorem litsP_app (nm : Str → Int) : ∀ (l m : List Ex) (b : Bd), litsP nm (l ++ m) b = ((litsP nm l b).1 ++ (litsP nm m (litsP nm l b).2).1, (litsP nm m (litsP nm l b).2).2)
  | [], m, b => by simp [litsP]
  | x :: l, m, b => by simp only [List.cons_append, litsP, litsP_app nm l m, List.cons_append]
theorem litsP_len (nm : Str → Int) : ∀ (l : List Ex) (b : Bd), (litsP nm l b).1.length = l.length
  | [], b => rfl
  | x :: l, b => by simp only [litsP, List.length_cons, litsP_len nm l]
/-! ### how many -/
theorem andP_vars (l : List Int) (b : Bd) : (andP l b).2.vars = b.vars + 1 := rfl
theorem andP_cl (l : List Int) (b : Bd) : (andP l b).2.cl.length = b.cl.length + l.length + 1 := by simp [andP, negL]; omega
mutual
theorem litP_vars (nm : Str → Int) : ∀ (x : Ex) (b : Bd), b.vars ≤ (litP nm x b).2.vars ∧ (litP nm x b).2.vars ≤ b.vars + x.size
  | .bit s, b => by simp [litP, Ex.size]
  | .rise s, b => by simp [litP, andP, Ex.size]
  | .fall s, b => by simp [litP, andP, Ex.size]
  | .k c, b => by simp [litP, constP, Ex.size]
  | .not x, b => by have := litP_vars nm x b; simp only [litP, Ex.size]; omega
  | .and l, b => by have := litsP_vars nm l b; simp only [litP, Ex.size, andP_vars]; omega
  | .or l, b => by have := litsP_vars nm l b; simp only [litP, Ex.size, andP_vars]; omega
theorem litsP_vars (nm : Str → Int) : ∀ (l : List Ex) (b : Bd), b.vars ≤ (litsP nm l b).2.vars ∧ (litsP nm l b).2.vars ≤ b.vars + Ex.sizeL l
  | [], b => by simp [litsP, Ex.sizeL]
  | x :: l, b => by have h1 := litP_vars nm x b; have h2 := litsP_vars nm l (litP nm x b).2; simp only [litsP, Ex.sizeL]; omega
end
mutual
theorem litP_cl (nm : Str → Int) : ∀ (x : Ex) (b : Bd), b.cl.length ≤ (litP nm x b).2.cl.length ∧ (litP nm x b).2.cl.length + 1 ≤ b.cl.length + 4 * x.size
  | .bit s, b => by simp [litP, Ex.size]
  | .rise s, b => by simp [litP, andP, Ex.size]
  | .fall s, b => by simp [litP, andP, Ex.size]
  | .k c, b => by simp [litP, constP, Ex.size]
  | .not x, b => by have := litP_cl nm x b; simp only [litP, Ex.size]; omega
  | .and l, b => by have := litsP_cl nm l b; have h2 := litsP_len nm l b; simp only [litP, Ex.size, andP_cl]; omega
  | .or l, b => by have := litsP_cl nm l b; have h2 := litsP_len nm l b; simp only [litP, Ex.size, andP_cl, negL_len]; omega
theorem litsP_cl (nm : Str → Int) : ∀ (l : List Ex) (b : Bd), b.cl.length ≤ (litsP nm l b).2.cl.length ∧ (litsP nm l b).2.cl.length + l.length ≤ b.cl.length + 4 * Ex.sizeL l
  | [], b => by simp [litsP]
  | x :: l, b => by
    have h1 := litP_cl nm x b
    have h2 := litsP_cl nm l (litP nm x b).2
    simp only [litsP, Ex.sizeL, List.length_cons]
    omega
end
/-! ### literals are of variables that are there -/
def okB (V : Nat) (c : List Int) : Prop := ∀ x ∈ c, okLit V x
theorem okLit_mono {V W : Nat} {x : Int} (h : okLit V x) (hv : V ≤ W) : okLit W x := by unfold okLit at *; omega
theorem okB_mono {V W : Nat} {c : List Int} (h : okB V c) (hv : V ≤ W) : okB W c := fun x hx => okLit_mono (h x hx) hv
theorem okLit_neg {V : Nat} {x : Int} (h : okLit V x) : okLit V (-x) := by unfold okLit at *; omega
theorem okB_neg {V : Nat} {c : List Int} (h : okB V c) : okB V (negL c) := fun x hx => by
  obtain ⟨y, hy, rfl⟩ := List.mem_map.1 hx
  exact okLit_neg (h y hy)
theorem okLit_new (V : Nat) : okLit (V + 1) ((V + 1 : Nat) : Int) := by unfold okLit; omega
theorem andP_ok {l : List Int} {b : Bd} (hl : okB b.vars l) (hb : ∀ c ∈ b.cl, okB b.vars c) : okLit (andP l b).2.vars (andP l b).1 ∧ ∀ c ∈ (andP l b).2.cl, okB (andP l b).2.vars c := by
  refine ⟨okLit_new _, fun c hc => ?_⟩
  simp only [andP, List.mem_append, List.mem_map, List.mem_singleton] at hc ⊢
  rcases hc with (hc | ⟨x, hx, rfl⟩) | rfl
  · exact okB_mono (hb c hc) (by omega)
  · intro y hy
    simp at hy
    rcases hy with rfl | rfl
    · exact okLit_neg (okLit_new _)
    · exact okLit_mono (hl _ hx) (by omega)
  · intro y hy
    rcases List.mem_cons.1 hy with rfl | hy
    · exact okLit_new _
    · exact okLit_mono (okB_neg hl y hy) (by omega)
theorem constP_ok {k : Bool} {b : Bd} (hb : ∀ c ∈ b.cl, okB b.vars c) : okLit (constP k b).2.vars (constP k b).1 ∧ ∀ c ∈ (constP k b).2.cl, okB (constP k b).2.vars c := by
  refine ⟨okLit_new _, fun c hc => ?_⟩
  simp only [constP, List.mem_append, List.mem_singleton] at hc ⊢
  rcases hc with hc | rfl
  · exact okB_mono (hb c hc) (by omega)
  · intro y hy
    simp at hy; subst hy
    cases k
    · exact okLit_neg (okLit_new _)
    · exact okLit_new _
def nmOk (nm : Str → Int) (V : Nat) (x : Ex) : Prop := x.on (fun s => okLit V (nm s)) (fun s => okLit V (nm (94 :: s)))
def nmOkL (nm : Str → Int) (V : Nat) (l : List Ex) : Prop := Ex.onL (fun s => okLit V (nm s)) (fun s => okLit V (nm (94 :: s))) l
mutual
theorem Ex.on_imp {Q Q' R R' : Str → Prop} (h : ∀ s, Q s → R s) (h' : ∀ s, Q' s → R' s) : ∀ x : Ex, x.on Q Q' → x.on R R'
  | .k _, _ => trivial
  | .bit s, w => h s w
  | .rise s, w => ⟨h s w.1, h' s w.2⟩
  | .fall s, w => ⟨h s w.1, h' s w.2⟩
  | .not x, w => Ex.on_imp h h' x w
  | .and l, w => Ex.onL_imp h h' l w
  | .or l, w => Ex.onL_imp h h' l w
theorem Ex.onL_imp {Q Q' R R' : Str → Prop} (h : ∀ s, Q s → R s) (h' : ∀ s, Q' s → R' s) : ∀ l : List Ex, Ex.onL Q Q' l → Ex.onL R R' l
  | [], _ => trivial
  | x :: l, w => ⟨Ex.on_imp h h' x w.1, Ex.onL_imp h h' l w.2⟩
end
theorem nmOk_mono {nm : Str → Int} {V W : Nat} {x : Ex} (h : nmOk nm V x) (hv : V ≤ W) : nmOk nm W x := Ex.on_imp (fun _ k => okLit_mono k hv) (fun _ k => okLit_mono k hv) x h
theorem nmOkL_mono {nm : Str → Int} {V W : Nat} {l : List Ex} (h : nmOkL nm V l) (hv : V ≤ W) : nmOkL nm W l := Ex.onL_imp (fun _ k => okLit_mono k hv) (fun _ k => okLit_mono k hv) l h
mutual
theorem litP_ok (nm : Str → Int) : ∀ (x : Ex) (b : Bd), nmOk nm b.vars x → (∀ c ∈ b.cl, okB b.vars c) → okLit (litP nm x b).2.vars (litP nm x b).1 ∧ ∀ c ∈ (litP nm x b).2.cl, okB (litP nm x b).2.vars c
  | .bit s, b, h, hb => ⟨h, hb⟩
  | .rise s, b, h, hb => andP_ok (two_mem h.1 (okLit_neg h.2)) hb
  | .fall s, b, h, hb => andP_ok (two_mem (okLit_neg h.1) h.2) hb
  | .k c, b, h, hb => constP_ok hb
  | .not x, b, h, hb => by
    obtain ⟨h1, h2⟩ := litP_ok nm x b h hb
    exact ⟨okLit_neg h1, h2⟩
  | .and l, b, h, hb => by
    obtain ⟨h1, h2⟩ := litsP_ok nm l b h hb
    exact andP_ok h1 h2
  | .or l, b, h, hb => by
    obtain ⟨h1, h2⟩ := litsP_ok nm l b h hb
    obtain ⟨k1, k2⟩ := andP_ok (okB_neg h1) h2
    exact ⟨okLit_neg k1, k2⟩
theorem litsP_ok (nm : Str → Int) : ∀ (l : List Ex) (b : Bd), nmOkL nm b.vars l → (∀ c ∈ b.cl, okB b.vars c) → okB (litsP nm l b).2.vars (litsP nm l b).1 ∧ ∀ c ∈ (litsP nm l b).2.cl, okB (litsP nm l b).2.vars c
  | [], b, h, hb => ⟨by intro x hx; simp [litsP] at hx, hb⟩
  | x :: l, b, h, hb => by
    obtain ⟨h1, h2⟩ := litP_ok nm x b h.1 hb
    have hv := litP_vars nm x b
    obtain ⟨k1, k2⟩ := litsP_ok nm l (litP nm x b).2 (nmOkL_mono h.2 hv.1) h2
    have hw := litsP_vars nm l (litP nm x b).2
    refine ⟨fun y hy => ?_, k2⟩
    simp only [litsP, List.mem_cons] at hy ⊢
    rcases hy with rfl | hy
    · exact okLit_mono h1 hw.1
    · exact k1 y hy
end
/-! ### what the clauses say -/
theorem lh_neg {a : Nat → Bool} {x : Int} (h : x ≠ 0) : lh a (-x) = !lh a x := by
  unfold lh
  by_cases h1 : x < 0
  · rw [if_pos h1, if_neg (by omega)]; simp
  · rw [if_neg h1, if_pos (by omega)]; simp
theorem lh_new {a : Nat → Bool} {v : Nat} : lh a (v : Int) = a v := by
  unfold lh
  rw [if_neg (by omega)]; simp
/-- the new clauses of 'and': a new variable that is true just if all literals are -/
theorem and_says {a : Nat → Bool} {v : Nat} {l : List Int} (hv : v ≠ 0) (hl : ∀ x ∈ l, x ≠ 0) : ((∀ x ∈ l, ∃ y ∈ [-(v : Int), x], lh a y = true) ∧ ∃ y ∈ (v : Int) :: negL l, lh a y = true) ↔ a v = l.all (lh a) := by
  have hvz : ((v : Int)) ≠ 0 := by omega
  have e1 : (∀ x ∈ l, ∃ y ∈ [-(v : Int), x], lh a y = true) ↔ (a v = true → ∀ x ∈ l, lh a x = true) := by
    constructor
    · intro h hav x hx
      obtain ⟨y, hy, hy2⟩ := h x hx
      simp at hy
      rcases hy with rfl | rfl
      · rw [lh_neg hvz, lh_new, hav] at hy2; cases hy2
      · exact hy2
    · intro h x hx
      cases hav : a v with
      | true => exact ⟨x, by simp, h hav x hx⟩
      | false => exact ⟨-(v : Int), by simp, by rw [lh_neg hvz, lh_new, hav]; rfl⟩
  have e2 : (∃ y ∈ (v : Int) :: negL l, lh a y = true) ↔ (a v = false → ∃ x ∈ l, lh a x = false) := by
    constructor
    · rintro ⟨y, hy, hy2⟩ hav
      rcases List.mem_cons.1 hy with rfl | hy
      · rw [lh_new, hav] at hy2; cases hy2
      · obtain ⟨x, hx, rfl⟩ := List.mem_map.1 hy
        rw [lh_neg (hl x hx)] at hy2
        exact ⟨x, hx, by simpa using hy2⟩
    · intro h
      cases hav : a v with
      | true => exact ⟨v, by simp, by rw [lh_new, hav]⟩
      | false =>
        obtain ⟨x, hx, hx2⟩ := h hav
        exact ⟨-x, List.mem_cons_of_mem _ (List.mem_map.2 ⟨x, hx, rfl⟩), by rw [lh_neg (hl x hx), hx2]; rfl⟩
  rw [e1, e2]
  cases hav : a v with
  | true =>
    simp only [forall_const, reduceCtorEq, false_imp_iff, and_true]
    rw [eq_comm, List.all_eq_true]
  | false =>
    simp only [reduceCtorEq, false_imp_iff, true_and, forall_const]
    rw [eq_comm, List.all_eq_false]
    constructor
    · rintro ⟨x, hx, hx2⟩; exact ⟨x, hx, by simp [hx2]⟩
    · rintro ⟨x, hx, hx2⟩; exact ⟨x, hx, by simpa using hx2⟩
theorem Sats_app {a : Nat → Bool} {l m : List (List Int)} : Sats a (l ++ m) ↔ Sats a l ∧ Sats a m := by
  unfold Sats
  simp only [List.mem_append]
  constructor
  · intro h; exact ⟨fun c hc => h c (.inl hc), fun c hc => h c (.inr hc)⟩
  · rintro ⟨h1, h2⟩ c (hc | hc)
    · exact h1 c hc
    · exact h2 c hc
theorem andP_sats {a : Nat → Bool} {l : List Int} {b : Bd} (hl : ∀ x ∈ l, x ≠ 0) : Sats a (andP l b).2.cl ↔ Sats a b.cl ∧ lh a (andP l b).1 = l.all (lh a) := by
  simp only [andP]
  rw [Sats_app, Sats_app, lh_new, ← and_says (v := b.vars + 1) (by omega) hl, and_assoc]
  refine and_congr Iff.rfl (and_congr ?_ ?_)
  · unfold Sats; simp
  · unfold Sats; simp
theorem constP_sats {a : Nat → Bool} {k : Bool} {b : Bd} : Sats a (constP k b).2.cl ↔ Sats a b.cl ∧ lh a (constP k b).1 = k := by
  simp only [constP]
  rw [Sats_app, lh_new]
  refine and_congr Iff.rfl ?_
  unfold Sats
  cases k
  · simp only [Bool.false_eq_true, if_false, List.mem_singleton, forall_eq, exists_eq_left]
    rw [lh_neg (by omega), lh_new]; simp
  · simp only [if_true, List.mem_singleton, forall_eq, exists_eq_left, lh_new]
theorem all_id {α : Type} (f : α → Bool) : ∀ l : List α, l.all f = (l.map f).all id
  | [] => rfl
  | x :: l => by simp only [List.all_cons, List.map_cons, id, all_id f l]
theorem any_id {α : Type} (f : α → Bool) : ∀ l : List α, l.any f = (l.map f).any id
  | [] => rfl
  | x :: l => by simp only [List.any_cons, List.map_cons, id, any_id f l]
theorem not_all_neg {a : Nat → Bool} : ∀ m : List Int, (∀ x ∈ m, x ≠ 0) → (!(negL m).all (lh a)) = m.any (lh a)
  | [], _ => rfl
  | y :: m, h => by
    have := not_all_neg (a := a) m (fun x hx => h x (by simp [hx]))
    simp only [negL, List.map_cons, List.all_cons, List.any_cons] at this ⊢
    rw [lh_neg (h y (by simp)), ← this]
    cases lh a y <;> simp
/-- the values tell of names what is so -/
def tells (nm : Str → Int) (a : Nat → Bool) (p q : Str → Bool) (x : Ex) : Prop := x.on (fun s => lh a (nm s) = p s) (fun s => lh a (nm (94 :: s)) = q s)
def tellsL (nm : Str → Int) (a : Nat → Bool) (p q : Str → Bool) (l : List Ex) : Prop := Ex.onL (fun s => lh a (nm s) = p s) (fun s => lh a (nm (94 :: s)) = q s) l
mutual
theorem litP_says (nm : Str → Int) {a : Nat → Bool} {p q : Str → Bool} : ∀ (x : Ex) (b : Bd), nmOk nm b.vars x → (∀ c ∈ b.cl, okB b.vars c) → tells nm a p q x → Sats a (litP nm x b).2.cl → Sats a b.cl ∧ lh a (litP nm x b).1 = x.says p q
  | .bit s, b, h, hb, ht, hs => ⟨hs, ht⟩
  | .rise s, b, h, hb, ht, hs => by
    have hz := h.2.1
    obtain ⟨h1, h2⟩ := (andP_sats (two_mem (P := fun x => x ≠ 0) h.1.1 (by have := h.2.1; omega))).1 hs
    refine ⟨h1, h2.trans ?_⟩
    simp [Ex.says, lh_neg hz, ht.1, ht.2]
  | .fall s, b, h, hb, ht, hs => by
    have hz := h.1.1
    obtain ⟨h1, h2⟩ := (andP_sats (two_mem (P := fun x => x ≠ 0) (by have := h.1.1; omega) h.2.1)).1 hs
    refine ⟨h1, h2.trans ?_⟩
    simp [Ex.says, lh_neg hz, ht.1, ht.2]
  | .k c, b, h, hb, ht, hs => constP_sats.1 hs
  | .not x, b, h, hb, ht, hs => by
    obtain ⟨h1, h2⟩ := litP_says nm x b h hb ht hs
    have hz := (litP_ok nm x b h hb).1.1
    exact ⟨h1, by simp only [litP, Ex.says]; rw [lh_neg hz, h2]⟩
  | .and l, b, h, hb, ht, hs => by
    obtain ⟨k1, k2⟩ := litsP_ok nm l b h hb
    obtain ⟨h1, h2⟩ := (andP_sats fun x hx => (k1 x hx).1).1 hs
    obtain ⟨h3, h4⟩ := litsP_says nm l b h hb ht h1
    refine ⟨h3, h2.trans ?_⟩
    rw [Ex.says, Ex.allL_eq, all_id, h4, ← all_id]
  | .or l, b, h, hb, ht, hs => by
    obtain ⟨k1, k2⟩ := litsP_ok nm l b h hb
    obtain ⟨h1, h2⟩ := (andP_sats fun x hx => (okB_neg k1 x hx).1).1 hs
    obtain ⟨h3, h4⟩ := litsP_says nm l b h hb ht h1
    refine ⟨h3, ?_⟩
    simp only [litP]
    rw [lh_neg (by simp only [andP]; omega), h2, not_all_neg _ (fun x hx => (k1 x hx).1), Ex.says, Ex.anyL_eq, any_id, h4, ← any_id]
theorem litsP_says (nm : Str → Int) {a : Nat → Bool} {p q : Str → Bool} : ∀ (l : List Ex) (b : Bd), nmOkL nm b.vars l → (∀ c ∈ b.cl, okB b.vars c) → tellsL nm a p q l → Sats a (litsP nm l b).2.cl → Sats a b.cl ∧ (litsP nm l b).1.map (lh a) = l.map fun x => x.says p q
  | [], b, h, hb, ht, hs => ⟨hs, rfl⟩
  | x :: l, b, h, hb, ht, hs => by
    obtain ⟨q1, q2⟩ := litP_ok nm x b h.1 hb
    have hv := litP_vars nm x b
    obtain ⟨h1, h2⟩ := litsP_says nm l (litP nm x b).2 (nmOkL_mono h.2 hv.1) q2 ht.2 hs
    obtain ⟨h3, h4⟩ := litP_says nm x b h.1 hb ht.1 h1
    exact ⟨h3, by simp only [litsP, List.map_cons, h2, h4]⟩
end
/-! ### values for what is new -/
theorem lh_congr {V : Nat} {a a' : Nat → Bool} {x : Int} (hx : okLit V x) (h : ∀ i, 1 ≤ i → i ≤ V → a i = a' i) : lh a x = lh a' x := by
  have hv := vr_lt hx
  unfold lh
  by_cases h1 : x < 0
  · rw [if_pos h1, if_pos h1, show (-x).toNat = vr x by unfold vr; omega, h _ hv.1 hv.2]
  · rw [if_neg h1, if_neg h1, show x.toNat = vr x by unfold vr; omega, h _ hv.1 hv.2]
def upd (a : Nat → Bool) (v : Nat) (t : Bool) : Nat → Bool := fun i => if i = v then t else a i
theorem upd_lt {a : Nat → Bool} {v : Nat} {t : Bool} {i : Nat} (h : i < v) : upd a v t i = a i := by unfold upd; rw [if_neg (by omega)]
theorem andP_ext {a : Nat → Bool} {l : List Int} {b : Bd} (hl : okB b.vars l) (hb : ∀ c ∈ b.cl, okB b.vars c) (hs : Sats a b.cl) : ∃ a', (∀ i ≤ b.vars, a' i = a i) ∧ Sats a' (andP l b).2.cl := by
  refine ⟨upd a (b.vars + 1) (l.all (lh a)), fun i hi => upd_lt (by omega), (andP_sats fun x hx => (hl x hx).1).2 ⟨?_, ?_⟩⟩
  · exact Sats.congr hb (fun i _ hi => (upd_lt (by omega)).symm) hs
  · rw [show (andP l b).1 = ((b.vars + 1 : Nat) : Int) from rfl, lh_new]
    unfold upd
    rw [if_pos rfl]
    rw [Bool.eq_iff_iff, List.all_eq_true, List.all_eq_true]
    exact forall_congr' fun x => forall_congr' fun hx => by rw [lh_congr (hl x hx) (a' := fun i => if i = b.vars + 1 then l.all (lh a) else a i) fun i _ hi => by rw [if_neg (by omega)]]
theorem constP_ext {a : Nat → Bool} {k : Bool} {b : Bd} (hb : ∀ c ∈ b.cl, okB b.vars c) (hs : Sats a b.cl) : ∃ a', (∀ i ≤ b.vars, a' i = a i) ∧ Sats a' (constP k b).2.cl := by
  refine ⟨upd a (b.vars + 1) k, fun i hi => upd_lt (by omega), constP_sats.2 ⟨Sats.congr hb (fun i _ hi => (upd_lt (by omega)).symm) hs, ?_⟩⟩
  rw [show (constP k b).1 = ((b.vars + 1 : Nat) : Int) from rfl, lh_new]
  unfold upd
  rw [if_pos rfl]
mutual
theorem litP_ext (nm : Str → Int) : ∀ (x : Ex) (b : Bd) (a : Nat → Bool), nmOk nm b.vars x → (∀ c ∈ b.cl, okB b.vars c) → Sats a b.cl → ∃ a', (∀ i ≤ b.vars, a' i = a i) ∧ Sats a' (litP nm x b).2.cl
  | .bit s, b, a, h, hb, hs => ⟨a, fun _ _ => rfl, hs⟩
  | .rise s, b, a, h, hb, hs => andP_ext (two_mem h.1 (okLit_neg h.2)) hb hs
  | .fall s, b, a, h, hb, hs => andP_ext (two_mem (okLit_neg h.1) h.2) hb hs
  | .k c, b, a, h, hb, hs => constP_ext hb hs
  | .not x, b, a, h, hb, hs => litP_ext nm x b a h hb hs
  | .and l, b, a, h, hb, hs => by
    obtain ⟨k1, k2⟩ := litsP_ok nm l b h hb
    have hv := litsP_vars nm l b
    obtain ⟨a1, h1, h2⟩ := litsP_ext nm l b a h hb hs
    obtain ⟨a2, h3, h4⟩ := andP_ext k1 k2 h2
    exact ⟨a2, fun i hi => (h3 i (by omega)).trans (h1 i hi), h4⟩
  | .or l, b, a, h, hb, hs => by
    obtain ⟨k1, k2⟩ := litsP_ok nm l b h hb
    have hv := litsP_vars nm l b
    obtain ⟨a1, h1, h2⟩ := litsP_ext nm l b a h hb hs
    obtain ⟨a2, h3, h4⟩ := andP_ext (okB_neg k1) k2 h2
    exact ⟨a2, fun i hi => (h3 i (by omega)).trans (h1 i hi), h4⟩
theorem litsP_ext (nm : Str → Int) : ∀ (l : List Ex) (b : Bd) (a : Nat → Bool), nmOkL nm b.vars l → (∀ c ∈ b.cl, okB b.vars c) → Sats a b.cl → ∃ a', (∀ i ≤ b.vars, a' i = a i) ∧ Sats a' (litsP nm l b).2.cl
  | [], b, a, h, hb, hs => ⟨a, fun _ _ => rfl, hs⟩
  | x :: l, b, a, h, hb, hs => by
    obtain ⟨q1, q2⟩ := litP_ok nm x b h.1 hb
    have hv := litP_vars nm x b
    obtain ⟨a1, h1, h2⟩ := litP_ext nm x b a h.1 hb hs
    obtain ⟨a2, h3, h4⟩ := litsP_ext nm l (litP nm x b).2 a1 (nmOkL_mono h.2 hv.1) q2 h2
    exact ⟨a2, fun i hi => (h3 i (by omega)).trans (h1 i hi), h4⟩
end
/-! ### each new variable is told by those ahead of it -/
def DefAt (v : Nat) (cl : List (List Int)) : Prop := [(v : Int)] ∈ cl ∨ [-(v : Int)] ∈ cl ∨ ∃ l : List Int, (∀ x ∈ l, x ≠ 0 ∧ vr x < v) ∧ (∀ x ∈ l, [-(v : Int), x] ∈ cl) ∧ ((v : Int) :: negL l) ∈ cl
def Defs (N : Nat) (b : Bd) : Prop := ∀ v, N < v → v ≤ b.vars → DefAt v b.cl
theorem DefAt.mono {v : Nat} {cl cl' : List (List Int)} (h : DefAt v cl) (hs : ∀ c ∈ cl, c ∈ cl') : DefAt v cl' := by
  rcases h with h | h | ⟨l, h1, h2, h3⟩
  · exact .inl (hs _ h)
  · exact .inr (.inl (hs _ h))
  · exact .inr (.inr ⟨l, h1, fun x hx => hs _ (h2 x hx), hs _ h3⟩)
theorem andP_defs {N : Nat} {l : List Int} {b : Bd} (hl : okB b.vars l) (h : Defs N b) : Defs N (andP l b).2 := by
  intro v h1 h2
  simp only [andP] at h2 ⊢
  by_cases hv : v ≤ b.vars
  · exact (h v h1 hv).mono fun c hc => by simp [hc]
  · have : v = b.vars + 1 := by omega
    subst this
    refine .inr (.inr ⟨l, fun x hx => ⟨(hl x hx).1, by have := vr_lt (hl x hx); omega⟩, fun x hx => ?_, by simp⟩)
    simp only [List.mem_append, List.mem_map]
    exact .inl (.inr ⟨x, hx, rfl⟩)
theorem constP_defs {N : Nat} {k : Bool} {b : Bd} (h : Defs N b) : Defs N (constP k b).2 := by
  intro v h1 h2
  simp only [constP] at h2 ⊢
  by_cases hv : v ≤ b.vars
  · exact (h v h1 hv).mono fun c hc => by simp [hc]
  · have : v = b.vars + 1 := by omega
    subst this
    cases k
    · exact .inr (.inl (by simp))
    · exact .inl (by simp)
mutual
theorem litP_defs (nm : Str → Int) {N : Nat} : ∀ (x : Ex) (b : Bd), nmOk nm b.vars x → (∀ c ∈ b.cl, okB b.vars c) → Defs N b → Defs N (litP nm x b).2
  | .bit s, b, h, hb, hd => hd
  | .rise s, b, h, hb, hd => andP_defs (two_mem h.1 (okLit_neg h.2)) hd
  | .fall s, b, h, hb, hd => andP_defs (two_mem (okLit_neg h.1) h.2) hd
  | .k c, b, h, hb, hd => constP_defs hd
  | .not x, b, h, hb, hd => litP_defs nm x b h hb hd
  | .and l, b, h, hb, hd => andP_defs (litsP_ok nm l b h hb).1 (litsP_defs nm l b h hb hd)
  | .or l, b, h, hb, hd => andP_defs (okB_neg (litsP_ok nm l b h hb).1) (litsP_defs nm l b h hb hd)
theorem litsP_defs (nm : Str → Int) {N : Nat} : ∀ (l : List Ex) (b : Bd), nmOkL nm b.vars l → (∀ c ∈ b.cl, okB b.vars c) → Defs N b → Defs N (litsP nm l b).2
  | [], b, h, hb, hd => hd
  | x :: l, b, h, hb, hd => litsP_defs nm l (litP nm x b).2 (nmOkL_mono h.2 (litP_vars nm x b).1) (litP_ok nm x b h.1 hb).2 (litP_defs nm x b h.1 hb hd)
end
theorem lv_neg {o : List Int} {x : Int} (hx : x ≠ 0) : lv o (-x) = - lv o x := by
  unfold lv
  by_cases h1 : x < 0
  · rw [if_pos h1, if_neg (by omega)]; simp
  · rw [if_neg h1, if_pos (by omega)]; simp
theorem lv_new {o : List Int} {v : Nat} : lv o (v : Int) = cell o v := by
  unfold lv
  rw [if_neg (by omega)]; simp
/-- where nothing more follows, and all of the first are told, all are told -/
theorem all_told {N V : Nat} {all : List (List Int)} {of o : List Int} (hs : Sol V o) (hsp : SpreadOk V all of o true) (hd : ∀ v, N < v → v ≤ V → DefAt v all) (h : ∀ i, 1 ≤ i → i ≤ N → cell o i ≠ 0) : ∀ v, 1 ≤ v → v ≤ V → cell o v ≠ 0 := by
  intro v
  induction v using Nat.strongRecOn with
  | ind v ih =>
  intro h1 h2 h0
  by_cases hN : v ≤ N
  · exact h v h1 hN h0
  have hvz : (v : Int) ≠ 0 := by omega
  have lv0 : lv o (v : Int) = 0 := by rw [lv_new]; exact h0
  have lv0n : lv o (-(v : Int)) = 0 := by rw [lv_neg hvz, lv0]; rfl
  rcases hd v (by omega) h2 with hc | hc | ⟨l, hl, hc1, hc2⟩
  · rcases hsp.2.2 rfl _ hc with ⟨x, hx, hx1⟩ | ⟨x, hx, hx0, y, hy, hy0, hxy⟩
    · simp at hx; subst hx; omega
    · simp at hx hy; omega
  · rcases hsp.2.2 rfl _ hc with ⟨x, hx, hx1⟩ | ⟨x, hx, hx0, y, hy, hy0, hxy⟩
    · simp at hx; subst hx; omega
    · simp at hx hy; omega
  · have told : ∀ x ∈ l, lv o x ≠ 0 := fun x hx => by
      obtain ⟨q1, q2⟩ := hl x hx
      rw [Ne, lv_vr q1]
      refine ih (vr x) q2 (by unfold vr; omega) (by omega)
    rcases hsp.2.2 rfl _ hc2 with ⟨x, hx, hx1⟩ | ⟨x, hx, hx0, y, hy, hy0, hxy⟩
    · rcases List.mem_cons.1 hx with rfl | hx
      · omega
      · obtain ⟨y, hy, rfl⟩ := List.mem_map.1 hx
        rw [lv_neg (hl y hy).1] at hx1
        rcases hsp.2.2 rfl _ (hc1 y hy) with ⟨z, hz, hz1⟩ | ⟨z, hz, hz0, w, hw, hw0, hzw⟩
        · simp at hz
          rcases hz with rfl | rfl <;> omega
        · simp at hz hw
          have hy0 := told y hy
          rcases hz with rfl | rfl
          · rcases hw with rfl | rfl
            · exact hzw rfl
            · exact hy0 hw0
          · exact hy0 hz0
    · have ex : ∀ z ∈ (v : Int) :: negL l, lv o z = 0 → z = v := fun z hz hz0 => by
        rcases List.mem_cons.1 hz with rfl | hz
        · rfl
        · obtain ⟨w, hw, rfl⟩ := List.mem_map.1 hz
          rw [lv_neg (hl w hw).1] at hz0
          exact absurd (by omega) (told w hw)
      exact hxy ((ex x hx hx0).trans (ex y hy hy0).symm)
theorem opensN_grow {N V : Nat} {of tr of' tr' : List Int} (hg : Grow V of tr of' tr') : opens N of' ≤ opens N of := by
  obtain ⟨n, _, h2, h3⟩ := hg
  unfold opens
  refine List.countP_mono_left fun i hi hp => ?_
  simp only [decide_eq_true_eq] at hp ⊢
  by_cases hm : ((i + 1 : Nat) : Int) ∈ n
  · have := (h2 _ hm).2.2.2
    rw [Int.toNat_natCast] at this
    exact absurd hp this
  · rw [← h3 _ hm]; exact hp
theorem opensN_lt {N V : Nat} {of : List Int} {x : Int} (hs : Sol V of) (hx : okLit V x) (h0 : cell of (vr x) = 0) (hN : vr x ≤ N) : opens N (litSet of x) < opens N of := by
  have hl := hs.len
  have hv := vr_lt hx
  unfold opens
  refine countP_lt (fun i hi hp => ?_) ⟨vr x - 1, by rw [List.mem_range]; omega, ?_, ?_⟩
  · simp only [decide_eq_true_eq] at hp ⊢
    unfold litSet at hp
    rw [cell_set (by omega)] at hp
    split at hp
    · split at hp <;> simp at hp
    · exact hp
  · simp only [decide_eq_true_eq]
    rw [show vr x - 1 + 1 = vr x by omega]
    exact h0
  · simp only [decide_eq_false_iff_not]
    rw [show vr x - 1 + 1 = vr x by omega]
    unfold litSet
    rw [cell_set (by omega), if_pos rfl]
    split <;> simp
/-- the measure of the search: how many of the first are open -/
theorem det_lt {N V : Nat} {all : List (List Int)} (hd : ∀ v, N < v → v ≤ V → DefAt v all) {of o : List Int} (x : Int) (hs : Sol V o) (hsp : SpreadOk V all of o true) (hx : okLit V x) (h0 : cell o (vr x) = 0) (hf : ∀ i, 1 ≤ i → i < vr x → cell o i ≠ 0) : opens N (litSet o x) < opens N o := by
  have hv := vr_lt hx
  refine opensN_lt hs hx h0 ?_
  rcases Nat.lt_or_ge N (vr x) with h | h
  · exact absurd h0 (all_told hs hsp hd (fun i h1 h2 => hf i h1 (by omega)) _ hv.1 hv.2)
  · exact h
end Go.Sc
namespace Go.Sc
open Go
set_option linter.unusedSimpArgs false
set_option linter.unusedVariables false
set_option linter.unnecessarySimpa false
theorem TXL_Lm (l : List Str) : TXL (Lm S l) l := .inr rfl
section
variable {E : Env} {P : Program}
theorem parseA_ok {s : Str} (h : s.length ≤ 2000) : (∃ e p, parseA s = .tup [nilE, At e p]) ∨ ∃ x j, parseR s = .ok x j ∧ parseA s = .tup [x.enc, nilE] := by
  unfold parseA
  rw [if_neg (by omega)]
  cases hp : parseR s with
  | no e p => exact .inl ⟨e, p, rfl⟩
  | ok x j => exact .inr ⟨x, j, rfl, rfl⟩
end
end Go.Sc
namespace Go.Sc
open Go
set_option linter.unusedSimpArgs false
set_option linter.unusedVariables false
set_option linter.unnecessarySimpa false
section
variable {p p' q q' : Str → Bool}
end
theorem nm12 (x : Ex) (s : Str) (h : s ∈ nmL nf2 x) : s ∈ nmL nf1 x := by
  cases x <;> first | exact h | (simp [nmL, nf2] at h)
mutual
theorem Ex.edge_name : ∀ (x : Ex) (s : Str), s ∈ x.raw nf2 → s ∈ x.raw nf1
  | .k _, s, h => nm12 _ s h
  | .bit _, s, h => nm12 _ s h
  | .rise _, s, h => nm12 _ s h
  | .fall _, s, h => nm12 _ s h
  | .not y, s, h => by
    simp only [Ex.raw, List.mem_append] at h ⊢
    exact h.imp (nm12 _ s) (Ex.edge_name y s)
  | .and l, s, h => by
    simp only [Ex.raw, List.mem_append] at h ⊢
    exact h.imp (nm12 _ s) (Ex.edgeL_name l s)
  | .or l, s, h => by
    simp only [Ex.raw, List.mem_append] at h ⊢
    exact h.imp (nm12 _ s) (Ex.edgeL_name l s)
theorem Ex.edgeL_name : ∀ (l : List Ex) (s : Str), s ∈ Ex.rawL nf2 l → s ∈ Ex.rawL nf1 l
  | [], s, h => h
  | x :: l, s, h => by
    simp only [Ex.rawL, List.mem_append] at h ⊢
    exact h.imp (Ex.edge_name x s) (Ex.edgeL_name l s)
end
section
variable {E : Env} {P : Program}
/-- those of a list that are not among others -/
def out (r l : List Str) : List Str := r.filter fun s => !decide (s ∈ l)
end
end Go.Sc
namespace Go.Sc
open Go
set_option linter.unusedSimpArgs false
set_option linter.unusedVariables false
set_option linter.unnecessarySimpa false
def errA : Err → AV
  | none => nilE
  | some (k, none) => .ifc 1 (Z k)
  | some (k, some s) => .ifc 2 (.ptrF [Z k, Z s] 0)
theorem errA_closed (e : Err) : (errA e).closed := by
  rcases e with _ | ⟨k, _ | s⟩ <;> simp [errA, AV.closed, AV.closedL]
/-- no slice is beyond what a machine holds -/
def Table.sized (t : Table) : Prop := t.next.length < 140737488355328 ∧ t.tells.length < 140737488355328 ∧ ∀ l ∈ t.next ++ t.tells, l.length < 140737488355328
theorem getD_row (l : List (List Int)) (i : Nat) : l.getD i [] = row l i := by simp [row, List.getD]
theorem getD_cell (l : List Int) (i : Nat) : l.getD i 0 = cell l i := by simp [cell, List.getD]

theorem lenA_LI (l : List Int) : lenA (LI l) = some (Z l.length) := rfl
theorem lenA_LLI (l : List (List Int)) : lenA (LLI l) = some (Z l.length) := rfl
theorem iaddr_LI {l : List Int} {k : IntKind} {i : Nat} (h : i < l.length) : iaddr 1 (LI l) (.val (.int k i)) = some (.ptrF (l.map fun z => Z z) i) := iaddr_Nn h
theorem iaddr_LLI {l : List (List Int)} {k : IntKind} {i : Nat} (h : i < l.length) : iaddr 1 (LLI l) (.val (.int k i)) = some (.ptrF (l.map LI) i) := iaddr_Nn h
theorem row_get {l : List (List Int)} {i : Nat} (h : i < l.length) : (l.map LI)[i]? = some (LI (row l i)) := by rw [mapL_get h, getD_row]
theorem cell_at {l : List Int} {i : Nat} (h : i < l.length) : (l.map fun z => Z z)[i]? = some (Z (cell l i)) := by rw [mapZ_get h, getD_cell]

section
variable {E : Env} {P : Program}
end
end Go.Sc
namespace Go.Sc
open Go
set_option linter.unusedSimpArgs false
set_option linter.unusedVariables false
set_option linter.unnecessarySimpa false
section
variable {E : Env} {P : Program}
theorem Ex.enc_nil (x : Ex) : eqA .iface x.enc nilE = some false := by cases x <;> rfl
end
end Go.Sc
