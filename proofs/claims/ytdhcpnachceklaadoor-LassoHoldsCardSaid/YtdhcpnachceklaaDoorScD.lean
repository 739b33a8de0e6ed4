/-
  HOW A CONTEXT GOES ON: a new block, a store, an append.
-/
import Derived.Test.YtdhcpnachceklaaDoorScC
import Derived.Laws.Cells
import Derived.Laws.CopyRow
namespace Go.Sc
open Go

theorem LRel_vals (E : Env) (c : Cx) : ∀ l : List Value, LRel E c (l.map .val) l
  | [] => by simp [LRel]
  | v :: l => by simp only [List.map_cons, LRel]; exact ⟨v, l, rfl, by simp [VRel], LRel_vals E c l⟩

theorem Sub.refl (x : AV) : Sub x x := fun _ _ _ h => h
theorem SubL.refl : ∀ xs : List AV, SubL xs xs
  | [] => .nil
  | x :: xs => .cons (Sub.refl x) (SubL.refl xs)
theorem SubL.rel {E : Env} {c : Cx} : ∀ {xs ys : List AV}, SubL xs ys → ∀ {vs}, LRel E c xs vs → LRel E c ys vs
  | [], _, .nil, _, h => h
  | x :: xs, _, .cons h1 h2, vs, h => by
    simp only [LRel] at h ⊢
    obtain ⟨u, us, rfl, hu, h⟩ := h
    exact ⟨u, us, rfl, h1 E c u hu, h2.rel h⟩
theorem SubL.length {xs ys : List AV} (h : SubL xs ys) : xs.length = ys.length := by
  induction h with
  | nil => rfl
  | cons _ _ ih => simp [ih]
theorem SubL.crel {E : Env} {c : Cx} : ∀ {xs ys : List AV}, SubL xs ys → ∀ {b o : Nat}, CRel E c xs b o → CRel E c ys b o
  | [], _, .nil, _, _, h => h
  | x :: xs, _, .cons h1 h2, b, o, h => by
    simp only [CRel] at h ⊢
    obtain ⟨⟨h3, u, h4, h5⟩, h6⟩ := h
    exact ⟨⟨h3, u, h4, h1 E c u h5⟩, h2.crel h6⟩

/-- a block stays as it is where nothing of it turns -/
theorem BRel.mono {E : Env} {c c' : Cx} {b : Nat} {x : Blk} (h : BRel E c b x) (hle : c.le c') (hg : c'.gen b = c.gen b) (hs : c'.sz b = c.sz b) (hc : c'.csz b = c.csz b) (ha : c'.al b = c.al b) (hbs : c'.base b = c.base b)
    (hh : x ≠ .dead → c'.w.heap[c.al b]? = c.w.heap[c.al b]?) : BRel E c' b x := by
  cases x with
  | dead => exact hg.trans h
  | cells g sz cs =>
    have hh := hh (by simp)
    obtain ⟨h1, h2, h3, arr, e, h4, h5, p0, pre, rest, h6, h8, h7⟩ := h
    exact ⟨Nat.lt_of_lt_of_le h1 hle.ctr, hg.trans h2, hs.trans h3, arr, e, by rw [ha, hh]; exact h4, hc.trans h5, p0, pre, rest, h6, h8.trans hbs.symm, h7.le hle⟩
  | map g ks xs =>
    have hh := hh (by simp)
    obtain ⟨h1, h2, es, clock, h4, h6, h7⟩ := h
    exact ⟨Nat.lt_of_lt_of_le h1 hle.ctr, hg.trans h2, es, clock, by rw [ha, hh]; exact h4, h6.le hle, h7.le hle⟩
  | tail g sz =>
    have hh := hh (by simp)
    obtain ⟨h1, h2, h3, arr, e, h4, h5⟩ := h
    exact ⟨Nat.lt_of_lt_of_le h1 hle.ctr, hg.trans h2, hs.trans h3, arr, e, by rw [ha, hh]; exact h4, hc.trans h5⟩
  | obj g o =>
    have hh := hh (by simp)
    obtain ⟨h1, h2, h3⟩ := h
    exact ⟨Nat.lt_of_lt_of_le h1 hle.ctr, hg.trans h2, by rw [ha, hh]; exact h3⟩

theorem lt_of_get {α : Type} {l : List α} {i : Nat} {x : α} (h : l[i]? = some x) : i < l.length := by
  by_cases hi : i < l.length
  · exact hi
  · rw [List.getElem?_eq_none (by omega)] at h; cases h

/-- the context behind a new block; of it the first 'nf' cells are frozen -/
def Cx.put (c : Cx) (n sz csz nf : Nat) (o : Obj) : Cx where
  w := c.w.alloc o
  al := fun b => if b = n then c.w.heap.size else c.al b
  base := fun b => if b = n then 0 else c.base b
  gen := fun b => if b = n then some c.ctr else c.gen b
  sz := fun b => if b = n then sz else c.sz b
  csz := fun b => if b = n then csz else c.csz b
  fz := c.fz
  fc := fun k j => c.fc k j ∨ (k = c.w.heap.size ∧ j < nf)
  ctr := c.ctr + 1

theorem heap_alloc_old (w : World) (o : Obj) (k : Nat) (h : k < w.heap.size) : (w.alloc o).heap[k]? = w.heap[k]? := by
  show (w.heap.push o)[k]? = _
  rw [Array.getElem?_push, if_neg (by omega)]
theorem heap_alloc_new' (w : World) (o : Obj) : (w.alloc o).heap[w.heap.size]? = some o := by
  show (w.heap.push o)[w.heap.size]? = _
  simp

theorem HRel.gen_lt {E : Env} {c : Cx} {H : AH} (h : HRel E c H) {b : Nat} (hb : c.gen b ≠ none) : ∃ x, H.bs[b]? = some x := by
  cases hx : H.bs[b]? with
  | none => exact absurd (h.out b hx) hb
  | some x => exact ⟨x, rfl⟩
theorem HRel.gen_live {E : Env} {c : Cx} {H : AH} (h : HRel E c H) {b : Nat} (hb : c.gen b ≠ none) : ∃ x, H.bs[b]? = some x ∧ x ≠ .dead := by
  obtain ⟨x, hx⟩ := h.gen_lt hb
  refine ⟨x, hx, ?_⟩
  rintro rfl
  exact hb (h.blk b _ hx)
theorem HRel.live {E : Env} {c : Cx} {H : AH} (h : HRel E c H) {b : Nat} {x : Blk} (hb : H.bs[b]? = some x) (hx : x ≠ .dead := by simp) : c.gen b = some x.g ∧ x.g < c.ctr := by
  have := h.blk b x hb
  cases x with
  | dead => exact absurd rfl hx
  | cells g sz cs => exact ⟨this.2.1, this.1⟩
  | map g ks xs => exact ⟨this.2.1, this.1⟩
  | tail g sz => exact ⟨this.2.1, this.1⟩
  | obj g o => exact ⟨this.2.1, this.1⟩
theorem HRel.live' {E : Env} {c : Cx} {H : AH} (h : HRel E c H) {b : Nat} {x : Blk} (hb : H.bs[b]? = some x) (hx : x ≠ .dead := by simp) : c.gen b ≠ none := by
  rw [(h.live hb hx).1]; simp
theorem HRel.free {E : Env} {c : Cx} {H : AH} (h : HRel E c H) {b : Nat} (hb : H.free b) : c.gen b = none := by
  rcases hb with rfl | hb
  · exact h.out _ (by simp)
  · exact h.blk b _ hb

theorem put_get {H : AH} {b : Nat} (hb : H.free b) (x : Blk) (i : Nat) : (H.put b x).bs[i]? = if i = b then some x else H.bs[i]? := by
  unfold AH.put
  rcases hb with rfl | hb
  · simp only [if_true]
    by_cases hi : i = H.bs.length
    · subst hi; simp
    · rw [if_neg hi]
      by_cases hl : i < H.bs.length
      · rw [List.getElem?_append_left hl]
      · rw [List.getElem?_eq_none (by simp; omega), List.getElem?_eq_none (by omega)]
  · have hl := lt_of_get hb
    have : b ≠ H.bs.length := by omega
    simp only [this, if_false]
    by_cases hi : i = b
    · subst hi; simp [hl]
    · rw [if_neg hi, List.getElem?_set_ne (Ne.symm hi)]

theorem Later.put {E : Env} {c : Cx} {H : AH} (h : HRel E c H) {b : Nat} (_hb : H.free b) (sz csz nf : Nat) (o : Obj) : Later c (c.put b sz csz nf o) where
  le := {
    ctr := Nat.le_succ _
    fz := fun b hb => ⟨hb, heap_alloc_old _ _ _ (h.fzlt b hb)⟩
    fc := fun k j hk => ⟨.inr (.inl hk), cell_of_heap (heap_alloc_old _ _ _ (h.fclt k j hk)) _ _⟩
    gen := fun i g hg e => by
      simp only [Cx.put] at e ⊢
      by_cases hi : i = b
      · simp only [hi, if_true] at e; injection e with e; omega
      · rw [if_neg hi] at e; simp [hi, e]
    room := fun i g hg e j hj => by
      simp only [Cx.put] at e hj
      by_cases hi : i = b
      · simp only [hi, if_true] at e; injection e with e; omega
      · rw [if_neg hi] at e
        rcases hj with hj | ⟨hj, _⟩
        · exact hj
        · have := h.lt i (by rw [e]; simp); omega }
  os := rfl
  tape := rfl
  output := rfl
  size := by simp [Cx.put]
  keep := fun k hk _ => heap_alloc_old _ _ _ hk
  own := fun i hi => by
    simp only [Cx.put] at hi ⊢
    by_cases e : i = b
    · simp [e]
    · rw [if_neg e] at hi; rw [if_neg e]; exact .inl ⟨i, hi, rfl⟩
  fz := fun k hk => .inl hk
  fc := fun k j hk => by
    rcases hk with hk | ⟨hk, _⟩
    · exact .inl hk
    · exact .inr (.inl (by omega))

theorem HRel.put {E : Env} {c : Cx} {H : AH} (h : HRel E c H) {b : Nat} (hb : H.free b) (sz csz nf : Nat) (o : Obj) (x : Blk) (hx : BRel E (c.put b sz csz nf o) b x) (hn : x.isTail = false → nf = 0) :
    HRel E (c.put b sz csz nf o) (H.put b x) := by
  have hL := Later.put h hb sz csz nf o
  have hgb := h.free hb
  have hal : ∀ i, i ≠ b → (c.put b sz csz nf o).al i = c.al i := fun i hi => by simp [Cx.put, hi]
  have hgen : ∀ i, i ≠ b → (c.put b sz csz nf o).gen i = c.gen i := fun i hi => by simp [Cx.put, hi]
  have hal' : (c.put b sz csz nf o).al b = c.w.heap.size := by simp [Cx.put]
  have hsz : (c.put b sz csz nf o).w.heap.size = c.w.heap.size + 1 := by simp [Cx.put]
  refine ⟨by simp [Cx.put, AH.put, h.ctr], ?_, ?_, ?_, ?_, ?_, ?_, ?_, ?_, h.globLe hL.le⟩
  · intro i e
    rw [put_get hb] at e
    split at e
    · cases e
    · rename_i hi; rw [hgen i hi]; exact h.out i e
  · intro i y e
    rw [put_get hb] at e
    split at e
    · rename_i hi; injection e with e; subst e; subst hi; exact hx
    · rename_i hi
      refine (h.blk i y e).mono hL.le (by simp [Cx.put, hi]) (by simp [Cx.put, hi]) (by simp [Cx.put, hi]) (hal i hi) (by simp [Cx.put, hi]) (fun hd => heap_alloc_old _ _ _ (h.lt i ?_))
      exact h.live' e hd
  · intro i hi
    by_cases hib : i = b
    · subst hib; rw [hal']; exact fun hf => Nat.lt_irrefl _ (h.fzlt _ hf)
    · rw [hal i hib]; rw [hgen i hib] at hi; exact h.apart i hi
  · intro i y e hd ht j hj
    rw [put_get hb] at e
    split at e
    · rename_i hi; injection e with e; subst e; subst hi
      rw [hal'] at hj
      rcases hj with hj | ⟨_, hj⟩
      · exact Nat.lt_irrefl _ (h.fclt _ _ hj)
      · have := hn ht; omega
    · rename_i hi
      rw [hal i hi] at hj
      rcases hj with hj | ⟨hj, _⟩
      · exact h.solid i y e hd ht j hj
      · have := h.lt i (h.live' e hd); omega
  · intro i i' hi hi' he
    by_cases h1 : i = b
    · by_cases h2 : i' = b
      · omega
      · rw [hgen i' h2] at hi'
        subst h1; rw [hal', hal i' h2] at he; have := h.lt i' hi'; omega
    · rw [hgen i h1] at hi
      by_cases h2 : i' = b
      · subst h2; rw [hal', hal i h1] at he; have := h.lt i hi; omega
      · rw [hgen i' h2] at hi'
        rw [hal i h1, hal i' h2] at he; exact h.inj i i' hi hi' he
  · intro i hi
    rw [hsz]
    by_cases h1 : i = b
    · subst h1; rw [hal']; omega
    · rw [hgen i h1] at hi; rw [hal i h1]; have := h.lt i hi; omega
  · intro k hf
    have := h.fzlt k hf
    omega
  · intro k j hf
    rcases hf with hf | ⟨hf, _⟩
    · have := h.fclt k j hf; omega
    · omega

/-- a new block of cells -/
theorem HRel.newCells {E : Env} {c : Cx} {H : AH} (h : HRel E c H) {b : Nat} (hb : H.free b) (sz : Nat) (e : TypeId) (pre rest : List Value) (cs : List AV) (hl : LRel E c cs pre) :
    ∃ c', c'.w = c.w.alloc (.cells (pre ++ rest).toArray e (0, 0)) ∧ HRel E c' (H.put b (.cells H.ctr sz cs)) ∧ Later c c' ∧
      VRel E c' (.ptrL b 0 H.ctr) (.pointer (some ⟨c.w.heap.size, 0, none⟩)) ∧
      ∀ len cap, cap * sz = (pre ++ rest).length → len ≤ cap → VRel E c' (.slL b 0 len H.ctr) (.slice (some ⟨c.w.heap.size, 0, none⟩) len cap) := by
  have hL := Later.put h hb sz (pre ++ rest).length 0 (.cells (pre ++ rest).toArray e (0, 0))
  refine ⟨c.put b sz (pre ++ rest).length 0 (.cells (pre ++ rest).toArray e (0, 0)), rfl, ?_, hL, ?_, ?_⟩
  · refine h.put hb _ _ _ _ (.cells H.ctr sz cs) ⟨?_, ?_, ?_, pre ++ rest, e, ?_, ?_, [], pre, rest, rfl, ?_, hl.le hL.le⟩ (fun _ => rfl)
    · simp [Cx.put, h.ctr]
    · simp [Cx.put, h.ctr]
    · simp [Cx.put]
    · simp only [Cx.put, if_true]; exact heap_alloc_new' _ _
    · simp [Cx.put]
    · simp [Cx.put]
  · simp [VRel, Cx.put, h.ctr]
  · intro len cap hcap hle
    simp only [VRel, Cx.put, if_true]
    exact ⟨by rw [h.ctr]; omega, _, cap, rfl, hle, fun _ => .inr ⟨rfl, by simp; simpa using hcap⟩⟩

/-- a new slice that may grow -/
theorem HRel.newTail {E : Env} {c : Cx} {H : AH} (h : HRel E c H) {b : Nat} (hb : H.free b) (sz : Nat) (e : TypeId) (pre rest : List Value) (cs : List AV) (hl : LRel E c cs pre) :
    ∃ c', c'.w = c.w.alloc (.cells (pre ++ rest).toArray e (0, 0)) ∧ HRel E c' (H.put b (.tail H.ctr sz)) ∧ Later c c' ∧
      ∀ len cap, cap * sz = (pre ++ rest).length → len ≤ cap → VRel E c' (.slT b cs len H.ctr) (.slice (some ⟨c.w.heap.size, 0, none⟩) len cap) := by
  have hL := Later.put h hb sz (pre ++ rest).length pre.length (.cells (pre ++ rest).toArray e (0, 0))
  refine ⟨c.put b sz (pre ++ rest).length pre.length (.cells (pre ++ rest).toArray e (0, 0)), rfl, ?_, hL, ?_⟩
  · refine h.put hb _ _ _ _ (.tail H.ctr sz) ⟨?_, ?_, ?_, pre ++ rest, e, ?_, ?_⟩ (fun hh => by simp [Blk.isTail] at hh)
    · simp [Cx.put, h.ctr]
    · simp [Cx.put, h.ctr]
    · simp [Cx.put]
    · simp only [Cx.put, if_true]; exact heap_alloc_new' _ _
    · simp [Cx.put]
  · intro len cap hcap hle
    have hlen := hl.length
    simp only [VRel]
    refine ⟨by rw [← h.ctr]; exact Nat.lt_succ_self _, _, cap, rfl, hle, .inr ⟨_, 0, rfl, CRel.of fun i x hi => ?_, fun _ => ⟨by simp [Cx.put], fun j hj hf => ?_, by simp [Cx.put]; simpa using hcap⟩⟩⟩
    · obtain ⟨u, h1, h2⟩ := hl.get hi
      have hlt := lt_of_get hi
      refine ⟨.inr (.inr ⟨rfl, by omega⟩), u, ?_, h2.le hL.le⟩
      simp only [Cx.put, World.cell?, heap_alloc_new']
      have h3 := lt_of_get h1
      simp [List.getElem?_append_left h3, h1]
    · rcases hf with hf | ⟨_, hf⟩
      · exact Nat.lt_irrefl _ (h.fclt _ _ hf)
      · omega

/-- new memory that is frozen at once -/
theorem HRel.newFrz {E : Env} {c : Cx} {H : AH} (h : HRel E c H) (e : TypeId) (pre rest : List Value) (cs : List AV) (hl : LRel E c cs pre) :
    ∃ c', c'.w = c.w.alloc (.cells (pre ++ rest).toArray e (0, 0)) ∧ HRel E c' H ∧ Later c c' ∧ CRel E c' cs c.w.heap.size 0 := by
  let c' : Cx := { c with w := c.w.alloc (.cells (pre ++ rest).toArray e (0, 0)), fz := fun k => c.fz k ∨ k = c.w.heap.size }
  have hL : Later c c' := {
    le := {
      ctr := Nat.le_refl _
      fz := fun b hb => ⟨.inl hb, heap_alloc_old _ _ _ (h.fzlt b hb)⟩
      fc := fun k j hk => ⟨.inr hk, cell_of_heap (heap_alloc_old _ _ _ (h.fclt k j hk)) _ _⟩
      gen := fun i g hg e => ⟨e, rfl, rfl, rfl, rfl⟩
      room := fun i g hg e j hj => hj }
    os := rfl
    tape := rfl
    output := rfl
    size := by simp [c']
    keep := fun k hk _ => heap_alloc_old _ _ _ hk
    own := fun i hi => .inl ⟨i, hi, rfl⟩
    fz := fun k hk => by
      rcases hk with hk | hk
      · exact .inl hk
      · exact .inr (.inl (by omega))
    fc := fun k j hk => .inl hk }
  have hsz : c'.w.heap.size = c.w.heap.size + 1 := by simp [c']
  refine ⟨c', rfl, ⟨h.ctr, h.out, fun i y e => (h.blk i y e).mono hL.le rfl rfl rfl rfl rfl (fun hd => heap_alloc_old _ _ _ (h.lt i (h.live' e hd))), fun i hi hf => ?_, h.solid, h.inj, fun i hi => ?_, fun k hf => ?_, fun k j hf => ?_, h.globLe hL.le⟩, hL, CRel.of fun i x hi => ?_⟩
  · rcases hf with hf | hf
    · exact h.apart i hi hf
    · have := h.lt i hi
      have hf : c.al i = c.w.heap.size := hf
      omega
  · have := h.lt i hi
    show c.al i < _
    omega
  · rcases hf with hf | hf
    · have := h.fzlt k hf; omega
    · omega
  · have := h.fclt k j hf; omega
  · obtain ⟨u, h1, h2⟩ := hl.get hi
    refine ⟨.inl (.inr rfl), u, ?_, h2.le hL.le⟩
    have h3 := lt_of_get h1
    simp only [c', World.cell?, heap_alloc_new']
    simp [List.getElem?_append_left h3, h1]

/-- a world of the same heap -/
theorem HRel.heap_eq {E : Env} {c : Cx} {H : AH} (h : HRel E c H) {w' : World} (hh : w'.heap = c.w.heap) (ho : w'.os = c.w.os) (ht : w'.tape = c.w.tape) (hp : w'.output = c.w.output) :
    HRel E { c with w := w' } H ∧ Later c { c with w := w' } := by
  have hL : Later c { c with w := w' } := {
    le := ⟨Nat.le_refl _, fun b hb => ⟨hb, by simp only [hh]⟩, fun k j hk => ⟨.inr hk, cell_of_heap (by simp only [hh]) _ _⟩, fun b g _ e => ⟨e, rfl, rfl, rfl, rfl⟩, fun _ _ _ _ _ hj => hj⟩
    os := ho
    tape := ht
    output := hp
    size := by simp [hh]
    keep := fun k _ _ => by simp only [hh]
    own := fun b hb => .inl ⟨b, hb, rfl⟩
    fz := fun k hk => .inl hk
    fc := fun k j hk => .inl hk }
  exact ⟨⟨h.ctr, h.out, fun b x e => (h.blk b x e).mono hL.le rfl rfl rfl rfl rfl (fun _ => by simp only [hh]), h.apart, h.solid, h.inj, fun b hb => by simpa [hh] using h.lt b hb, fun b hb => by simpa [hh] using h.fzlt b hb, fun b j hb => by simpa [hh] using h.fclt b j hb, h.globLe hL.le⟩, hL⟩

/-- one block is written anew, in its place -/
theorem HRel.setBlk {E : Env} {c : Cx} {H : AH} (h : HRel E c H) {b : Nat} {x x' : Blk} (hb : H.bs[b]? = some x) (hx : x ≠ .dead) (ht : x.isTail = false) (ht' : x'.isTail = false) (hx' : x' ≠ .dead)
    {o : Obj} {w' : World} (hheap : w'.heap = c.w.heap.setIfInBounds (c.al b) o) (ho : w'.os = c.w.os) (htp : w'.tape = c.w.tape) (hp : w'.output = c.w.output) (hB : c.le { c with w := w' } → BRel E { c with w := w' } b x') :
    HRel E { c with w := w' } ⟨H.bs.set b x', H.ctr⟩ ∧ Later c { c with w := w' } := by
  have hgb := h.live' hb hx
  have hlt := h.lt b hgb
  have hlen := lt_of_get hb
  have hother : ∀ k, k ≠ c.al b → w'.heap[k]? = c.w.heap[k]? := fun k hk => by
    rw [hheap, Array.getElem?_setIfInBounds, if_neg (by omega)]
  have hL : Later c { c with w := w' } := {
    le := ⟨Nat.le_refl _, fun k hk => ⟨hk, hother k fun e => h.apart b hgb (e ▸ hk)⟩, fun k j hk => ⟨.inr hk, cell_of_heap (hother k fun e => h.solid b x hb hx ht j (e ▸ hk)) _ _⟩, fun b g _ e => ⟨e, rfl, rfl, rfl, rfl⟩, fun _ _ _ _ _ hj => hj⟩
    os := ho
    tape := htp
    output := hp
    size := by simp [hheap]
    keep := fun k _ hn => hother k fun e => hn b hgb e.symm
    own := fun b hb => .inl ⟨b, hb, rfl⟩
    fz := fun k hk => .inl hk
    fc := fun k j hk => .inl hk }
  refine ⟨⟨h.ctr, ?_, ?_, h.apart, ?_, h.inj, ?_, ?_, ?_, h.globLe hL.le⟩, hL⟩
  · intro i hi
    exact h.out i (by simpa [List.getElem?_eq_none_iff] using hi)
  · intro i y hi
    by_cases hib : i = b
    · subst hib
      have : y = x' := by simpa [hlen] using hi.symm
      subst this
      exact hB hL.le
    · have hi' : H.bs[i]? = some y := by rwa [List.getElem?_set_ne (by omega)] at hi
      exact (h.blk i y hi').mono hL.le rfl rfl rfl rfl rfl (fun hd => hother _ fun e => hib (h.inj i b (h.live' hi' hd) hgb e))
  · intro i y hi hd hty j
    by_cases hib : i = b
    · subst hib
      exact h.solid i x hb hx ht j
    · exact h.solid i y (by rwa [List.getElem?_set_ne (by omega)] at hi) hd hty j
  · intro i hi
    simpa [hheap] using h.lt i hi
  · intro k hk
    simpa [hheap] using h.fzlt k hk
  · intro k j hk
    simpa [hheap] using h.fclt k j hk

/-- one block of cells is written anew (as many cells) -/
theorem HRel.setRow {E : Env} {c : Cx} {H : AH} (h : HRel E c H) {b g sz : Nat} {cs cs' : List AV} {p0 pre rest : List Value} {e : TypeId} (hb : H.bs[b]? = some (.cells g sz cs))
    (hw : c.w.heap[c.al b]? = some (.cells (p0 ++ pre ++ rest).toArray e (0, 0))) (hp0 : p0.length = c.base b) {pre' : List Value} (hl : pre'.length = pre.length) (hr : LRel E c cs' pre')
    {w' : World} (hheap : w'.heap = c.w.heap.setIfInBounds (c.al b) (.cells (p0 ++ pre' ++ rest).toArray e (0, 0))) (ho : w'.os = c.w.os) (ht : w'.tape = c.w.tape) (hp : w'.output = c.w.output) :
    HRel E { c with w := w' } ⟨H.bs.set b (.cells g sz cs'), H.ctr⟩ ∧ Later c { c with w := w' } := by
  have hlt := h.lt b (h.live' hb)
  refine h.setBlk hb (by simp) rfl rfl (by simp) hheap ho ht hp fun hle => ?_
  obtain ⟨h1, h2, h3, arr, e', h4, h5, -⟩ := h.blk b _ hb
  rw [hw] at h4
  injection h4 with h4
  injection h4 with h4 _
  refine ⟨h1, h2, h3, p0 ++ pre' ++ rest, e, ?_, ?_, p0, pre', rest, rfl, hp0, hr.le hle⟩
  · show w'.heap[c.al b]? = _
    rw [hheap, Array.getElem?_setIfInBounds]; simp [hlt]
  · show c.csz b = _
    rw [h5]
    have := congrArg Array.size h4
    simp only [List.size_toArray, List.length_append] at this ⊢
    omega

/-- one block lies anew: in its place, or in a new one; of what it is now the cells 'o' to 'o + nf' are frozen -/
theorem HRel.regen {E : Env} {c : Cx} {H : AH} (h : HRel E c H) {b sz k nf o : Nat} {x x' : Blk} {arr : List Value} {p0 : Nat} {e : TypeId} {w' : World} (hb : H.bs[b]? = some x) (hx : x ≠ .dead) (hk : k = c.al b ∨ k = c.w.heap.size)
    (hself : w'.heap[k]? = some (.cells arr.toArray e (0, 0))) (hother : ∀ i, i ≠ k → i < c.w.heap.size → w'.heap[i]? = c.w.heap[i]?) (hsize : c.w.heap.size ≤ w'.heap.size)
    (hkeep : ∀ j, c.fc k j → w'.cell? ⟨k, j, none⟩ = c.w.cell? ⟨k, j, none⟩)
    (ho : w'.os = c.w.os) (ht : w'.tape = c.w.tape) (hp : w'.output = c.w.output) (hx' : x' ≠ .dead) (hnf : x'.isTail = false → nf = 0 ∧ x.isTail = false) :
    let c' : Cx := { w := w', al := fun i => if i = b then k else c.al i, base := fun i => if i = b then p0 else c.base i, gen := fun i => if i = b then some c.ctr else c.gen i, sz := fun i => if i = b then sz else c.sz i, csz := fun i => if i = b then arr.length else c.csz i, fz := c.fz, fc := fun i j => c.fc i j ∨ (i = k ∧ o ≤ j ∧ j < o + nf), ctr := c.ctr + 1 }
    (c.le c' → BRel E c' b x') → HRel E c' ⟨H.bs.set b x', H.ctr + 1⟩ ∧ Later c c' := by
  intro c' hB
  have hgb := h.live' hb hx
  have hlen := lt_of_get hb
  have hkw : k < w'.heap.size := by
    rcases Nat.lt_or_ge k w'.heap.size with hh | hh
    · exact hh
    · rw [Array.getElem?_eq_none hh] at hself; cases hself
  have hblt := h.lt b hgb
  have hne : ∀ i, c.gen i ≠ none → i ≠ b → c.al i ≠ k := by
    intro i hi hib heq
    rcases hk with hk | hk
    · exact hib (h.inj i b hi hgb (heq.trans hk))
    · have := h.lt i hi; omega
  have hfz : ∀ i, c.fz i → i ≠ k := by
    intro i hi heq
    rcases hk with hk | hk
    · exact h.apart b hgb (by rw [← hk, ← heq]; exact hi)
    · have := h.fzlt i hi; omega
  have hL : Later c c' := {
    le := {
      ctr := Nat.le_succ _
      fz := fun i hi => ⟨hi, hother i (hfz i hi) (h.fzlt i hi)⟩
      fc := fun i j hi => ⟨.inr (.inl hi), by
        by_cases hik : i = k
        · subst hik; exact hkeep j hi
        · exact cell_of_heap (hother i hik (h.fclt i j hi)) _ _⟩
      gen := fun i q hq e => by
        simp only [c'] at e ⊢
        by_cases hi : i = b
        · rw [if_pos hi] at e; injection e with e; omega
        · rw [if_neg hi] at e; simp [hi, e]
      room := fun i q hq e j hj => by
        simp only [c'] at e hj
        by_cases hi : i = b
        · rw [if_pos hi] at e; injection e with e; omega
        · rw [if_neg hi] at e
          rcases hj with hj | ⟨hj, _⟩
          · exact hj
          · exact absurd hj (hne i (by rw [e]; simp) hi) }
    os := ho
    tape := ht
    output := hp
    size := hsize
    keep := fun i hi hn => hother i (by
      rintro rfl
      rcases hk with hk | hk
      · exact hn b hgb hk.symm
      · omega) hi
    own := fun i hi => by
      simp only [c'] at hi ⊢
      by_cases hib : i = b
      · subst hib
        rw [if_pos rfl]
        rcases hk with hk | hk
        · exact .inl ⟨i, hgb, hk⟩
        · exact .inr (by omega)
      · rw [if_neg hib] at hi; rw [if_neg hib]; exact .inl ⟨i, hi, rfl⟩
    fz := fun i hi => .inl hi
    fc := fun i j hi => by
      rcases hi with hi | ⟨rfl, _⟩
      · exact .inl hi
      · rcases hk with hk | hk
        · exact .inr (.inr ⟨b, hgb, hk.symm⟩)
        · exact .inr (.inl (by omega)) }
  have old : ∀ i y, (H.bs.set b x')[i]? = some y → (i ≠ b ∧ H.bs[i]? = some y) ∨ (i = b ∧ y = x') := by
    intro i y e
    by_cases hib : i = b
    · subst hib
      simp only [List.getElem?_set_self hlen, Option.some.injEq] at e
      exact .inr ⟨rfl, e.symm⟩
    · exact .inl ⟨hib, by rwa [List.getElem?_set_ne (by omega)] at e⟩
  refine ⟨⟨by show c.ctr + 1 = _; rw [h.ctr], ?_, ?_, ?_, ?_, ?_, ?_, ?_, ?_, h.globLe hL.le⟩, hL⟩
  · intro i hi
    have hi' : H.bs[i]? = none := by simpa [List.getElem?_eq_none_iff] using hi
    have hib : i ≠ b := by rintro rfl; rw [hb] at hi'; cases hi'
    simp only [c', if_neg hib]; exact h.out i hi'
  · intro i y e1
    rcases old i y e1 with ⟨hib, e0⟩ | ⟨rfl, rfl⟩
    · refine (h.blk i y e0).mono hL.le (by simp [c', hib]) (by simp [c', hib]) (by simp [c', hib]) (by simp [c', hib]) (by simp [c', hib]) ?_
      exact fun hd => hother _ (hne i (h.live' e0 hd) hib) (h.lt i (h.live' e0 hd))
    · exact hB hL.le
  · intro i hi
    simp only [c'] at hi ⊢
    by_cases hib : i = b
    · rw [if_pos hib]
      intro hf
      exact hfz k hf rfl
    · rw [if_neg hib] at hi; rw [if_neg hib]; exact h.apart i hi
  · intro i y e1 hd hty j hj
    simp only [c'] at hj
    rcases old i y e1 with ⟨hib, e0⟩ | ⟨rfl, rfl⟩
    · rw [if_neg hib] at hj
      rcases hj with hj | ⟨hj, _⟩
      · exact h.solid i y e0 hd hty j hj
      · exact hne i (h.live' e0 hd) hib hj
    · obtain ⟨h1, h2⟩ := hnf hty
      rw [if_pos rfl] at hj
      rcases hj with hj | ⟨_, hj⟩
      · rcases hk with hk | hk
        · exact h.solid i x hb hx h2 j (hk ▸ hj)
        · have := h.fclt k j hj; omega
      · omega
  · intro i i' hi hi' he
    simp only [c'] at hi hi' he
    by_cases h1 : i = b
    · by_cases h2 : i' = b
      · omega
      · rw [if_neg h2] at hi'
        rw [if_pos h1, if_neg h2] at he
        exact absurd he.symm (hne i' hi' h2)
    · rw [if_neg h1] at hi
      by_cases h2 : i' = b
      · rw [if_neg h1, if_pos h2] at he
        exact absurd he (hne i hi h1)
      · rw [if_neg h2] at hi'
        rw [if_neg h1, if_neg h2] at he
        exact h.inj i i' hi hi' he
  · intro i hi
    simp only [c'] at hi ⊢
    by_cases h1 : i = b
    · rw [if_pos h1]; exact hkw
    · rw [if_neg h1] at hi; rw [if_neg h1]
      exact Nat.lt_of_lt_of_le (h.lt i hi) hsize
  · intro i hi
    exact Nat.lt_of_lt_of_le (h.fzlt i hi) hsize
  · intro i j hi
    rcases hi with hi | ⟨rfl, _⟩
    · exact Nat.lt_of_lt_of_le (h.fclt i j hi) hsize
    · exact hkw

/-- one block of cells lies anew -/
theorem HRel.regenC {E : Env} {c : Cx} {H : AH} (h : HRel E c H) {b g sz k : Nat} {cs cs' : List AV} {p0 pre rest : List Value} {e : TypeId} {w' : World} (hb : H.bs[b]? = some (.cells g sz cs)) (hk : k = c.al b ∨ k = c.w.heap.size)
    (hself : w'.heap[k]? = some (.cells (p0 ++ pre ++ rest).toArray e (0, 0))) (hother : ∀ i, i ≠ k → i < c.w.heap.size → w'.heap[i]? = c.w.heap[i]?) (hsize : c.w.heap.size ≤ w'.heap.size)
    (ho : w'.os = c.w.os) (ht : w'.tape = c.w.tape) (hp : w'.output = c.w.output) (hl : LRel E c cs' pre) :
    ∃ c', c'.w = w' ∧ HRel E c' ⟨H.bs.set b (.cells H.ctr sz cs'), H.ctr + 1⟩ ∧ Later c c' ∧
      ∀ off len cap, p0.length + off + cap * sz = (p0 ++ pre ++ rest).length → len ≤ cap → VRel E c' (.slL b off len H.ctr) (.slice (some ⟨k, p0.length + off, none⟩) len cap) := by
  have hnofc : ∀ j, ¬ c.fc k j := by
    intro j hj
    rcases hk with hk | hk
    · exact h.solid b _ hb (by simp) rfl j (hk ▸ hj)
    · have := h.fclt k j hj; omega
  obtain ⟨h1, h2⟩ := h.regen (x' := .cells H.ctr sz cs') (sz := sz) (nf := 0) (o := 0) (p0 := p0.length) hb (by simp) hk hself hother hsize (fun j hj => absurd hj (hnofc j)) ho ht hp (by simp) (fun _ => ⟨rfl, rfl⟩) fun hle => by
    refine ⟨?_, ?_, ?_, p0 ++ pre ++ rest, e, ?_, ?_, p0, pre, rest, rfl, ?_, hl.le hle⟩
    · simp [h.ctr]
    · simp [h.ctr]
    · simp
    · simp only [if_true]; exact hself
    · simp
    · simp
  refine ⟨_, rfl, h1, h2, fun off len cap hcap hle => ?_⟩
  simp only [VRel, if_true]
  exact ⟨by rw [h.ctr]; omega, _, cap, rfl, hle, fun _ => .inr ⟨rfl, by simpa using hcap⟩⟩

/-- a slice that may grow has grown: 'o' is where it begins, 'cs' what it holds now -/
theorem HRel.regenT {E : Env} {c : Cx} {H : AH} (h : HRel E c H) {b g sz k o : Nat} {cs : List AV} {arr us : List Value} {e : TypeId} {w' : World} (hb : H.bs[b]? = some (.tail g sz)) (hk : k = c.al b ∨ k = c.w.heap.size)
    (hself : w'.heap[k]? = some (.cells arr.toArray e (0, 0))) (hother : ∀ i, i ≠ k → i < c.w.heap.size → w'.heap[i]? = c.w.heap[i]?) (hsize : c.w.heap.size ≤ w'.heap.size)
    (hkeep : ∀ j, c.fc k j → w'.cell? ⟨k, j, none⟩ = c.w.cell? ⟨k, j, none⟩) (hroom : ∀ j, o + cs.length ≤ j → ¬ c.fc k j)
    (ho : w'.os = c.w.os) (ht : w'.tape = c.w.tape) (hp : w'.output = c.w.output) (hl : LRel E c cs us) (hus : ∀ (i : Nat) v, us[i]? = some v → arr[o + i]? = some v) :
    ∃ c', c'.w = w' ∧ HRel E c' ⟨H.bs.set b (.tail H.ctr sz), H.ctr + 1⟩ ∧ Later c c' ∧
      ∀ len cap, o + cap * sz = arr.length → len ≤ cap → VRel E c' (.slT b cs len H.ctr) (.slice (some ⟨k, o, none⟩) len cap) := by
  obtain ⟨h1, h2⟩ := h.regen (x' := .tail H.ctr sz) (sz := sz) (nf := cs.length) (o := o) (p0 := 0) hb (by simp) hk hself hother hsize hkeep ho ht hp (by simp) (fun hh => by simp [Blk.isTail] at hh) fun hle => by
    refine ⟨?_, ?_, ?_, arr, e, ?_, ?_⟩
    · simp [h.ctr]
    · simp [h.ctr]
    · simp
    · simp only [if_true]; exact hself
    · simp
  refine ⟨_, rfl, h1, h2, fun len cap hcap hle => ?_⟩
  simp only [VRel]
  refine ⟨by rw [← h.ctr]; exact Nat.lt_succ_self _, _, cap, rfl, hle, .inr ⟨k, o, rfl, CRel.of fun i x hi => ?_, fun _ => ⟨by simp, fun j hj hf => ?_, by simpa using hcap⟩⟩⟩
  · obtain ⟨u, h3, h4⟩ := hl.get hi
    have := lt_of_get hi
    refine ⟨.inr (.inr ⟨rfl, by omega, by omega⟩), u, ?_, h4.le h2.le⟩
    simp only [World.cell?, hself]
    simpa using hus i u h3
  · rcases hf with hf | ⟨_, _, hf⟩
    · exact hroom j hj hf
    · omega
end Go.Sc
