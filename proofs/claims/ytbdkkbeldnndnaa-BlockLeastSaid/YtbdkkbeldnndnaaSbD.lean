/-
  HOW A CONTEXT GOES ON: a new block, a store, an append.
-/
import Derived.Test.YtbdkkbeldnndnaaSbC
import Derived.Laws.Cells
import Derived.Laws.CopyRow
namespace Go.Sb
open Go

theorem LRel_vals (E : Env) (c : Cx) : ∀ l : List Value, LRel E c (l.map .val) l
  | [] => by simp [LRel]
  | v :: l => by simp only [List.map_cons, LRel]; exact ⟨v, l, rfl, by simp [VRel], LRel_vals E c l⟩

/-- a block stays as it is where nothing of it turns -/
theorem BRel.mono {E : Env} {c c' : Cx} {b : Nat} {x : Blk} (h : BRel E c b x) (hle : c.le c') (hg : c'.gen b = c.gen b) (hs : c'.sz b = c.sz b) (hc : c'.csz b = c.csz b) (ha : c'.al b = c.al b) (hbs : c'.base b = c.base b)
    (hh : x ≠ .dead → c'.w.heap[c.al b]? = c.w.heap[c.al b]?) : BRel E c' b x := by
  cases x with
  | dead => exact hg.trans h
  | cells g sz cs =>
    have hh := hh (by simp)
    obtain ⟨h1, h2, h3, arr, e, h4, h5, p0, pre, rest, h6, h8, h7⟩ := h
    exact ⟨Nat.lt_of_lt_of_le h1 hle.ctr, hg.trans h2, hs.trans h3, arr, e, by rw [ha, hh]; exact h4, hc.trans h5, p0, pre, rest, h6, h8.trans hbs.symm, h7.le hle⟩
  | map g ks xs =>
    have hh := hh (by simp)
    obtain ⟨h1, h2, es, clock, h4, h6, h7⟩ := h
    exact ⟨Nat.lt_of_lt_of_le h1 hle.ctr, hg.trans h2, es, clock, by rw [ha, hh]; exact h4, h6.le hle, h7.le hle⟩

/-- the context behind a new block -/
def Cx.push (c : Cx) (n sz csz : Nat) (o : Obj) : Cx where
  w := c.w.alloc o
  al := fun b => if b = n then c.w.heap.size else c.al b
  base := fun b => if b = n then 0 else c.base b
  gen := fun b => if b = n then some c.ctr else c.gen b
  sz := fun b => if b = n then sz else c.sz b
  csz := fun b => if b = n then csz else c.csz b
  fz := c.fz
  ctr := c.ctr + 1

theorem heap_alloc_old (w : World) (o : Obj) (k : Nat) (h : k < w.heap.size) : (w.alloc o).heap[k]? = w.heap[k]? := by
  show (w.heap.push o)[k]? = _
  rw [Array.getElem?_push, if_neg (by omega)]
theorem heap_alloc_new' (w : World) (o : Obj) : (w.alloc o).heap[w.heap.size]? = some o := by
  show (w.heap.push o)[w.heap.size]? = _
  simp

theorem HRel.gen_lt {E : Env} {c : Cx} {H : AH} (h : HRel E c H) {b : Nat} (hb : c.gen b ≠ none) : ∃ x, H.bs[b]? = some x := by
  cases hx : H.bs[b]? with
  | none => exact absurd (h.out b hx) hb
  | some x => exact ⟨x, rfl⟩

theorem HRel.live {E : Env} {c : Cx} {H : AH} (h : HRel E c H) {b : Nat} {x : Blk} (hb : H.bs[b]? = some x) (hx : x ≠ .dead := by simp) : c.gen b = some x.g ∧ x.g < c.ctr := by
  have := h.blk b x hb
  cases x with
  | dead => exact absurd rfl hx
  | cells g sz cs => exact ⟨this.2.1, this.1⟩
  | map g ks xs => exact ⟨this.2.1, this.1⟩

theorem Later.push {E : Env} {c : Cx} {H : AH} (h : HRel E c H) (sz csz : Nat) (o : Obj) : Later c (c.push H.bs.length sz csz o) where
  le := {
    ctr := Nat.le_succ _
    fz := fun b hb => ⟨hb, heap_alloc_old _ _ _ (h.fzlt b hb)⟩
    gen := fun b g hg e => by
      simp only [Cx.push] at e ⊢
      by_cases hb : b = H.bs.length
      · simp only [hb, if_true] at e; injection e with e; omega
      · rw [if_neg hb] at e; simp [hb, e] }
  os := rfl
  tape := rfl
  output := rfl
  size := by simp [Cx.push]
  keep := fun k hk _ => heap_alloc_old _ _ _ hk
  own := fun b hb => by
    simp only [Cx.push] at hb ⊢
    by_cases e : b = H.bs.length
    · simp [e]
    · rw [if_neg e] at hb; rw [if_neg e]; exact .inl ⟨b, hb, rfl⟩
  fz := fun k hk => .inl hk

theorem HRel.pushed {E : Env} {c : Cx} {H : AH} (h : HRel E c H) (sz csz : Nat) (o : Obj) (x : Blk) (hx : BRel E (c.push H.bs.length sz csz o) H.bs.length x) :
    HRel E (c.push H.bs.length sz csz o) ⟨H.bs ++ [x], H.ctr + 1⟩ := by
  have hL := Later.push h sz csz o
  have old : ∀ b y, (H.bs ++ [x])[b]? = some y → (b < H.bs.length ∧ H.bs[b]? = some y) ∨ (b = H.bs.length ∧ y = x) := by
    intro b y e
    rcases Nat.lt_trichotomy b H.bs.length with hb | hb | hb
    · exact .inl ⟨hb, by rwa [List.getElem?_append_left hb] at e⟩
    · subst hb; simp at e; exact .inr ⟨rfl, e.symm⟩
    · rw [List.getElem?_eq_none (by simp; omega)] at e; cases e
  have hal : ∀ b, b ≠ H.bs.length → (c.push H.bs.length sz csz o).al b = c.al b := fun b hb => by simp [Cx.push, hb]
  have hal' : (c.push H.bs.length sz csz o).al H.bs.length = c.w.heap.size := by simp [Cx.push]
  refine ⟨by simp [Cx.push, h.ctr], ?_, ?_, ?_, ?_, ?_, ?_⟩
  · intro b e
    have hb : H.bs.length + 1 ≤ b := by
      have := List.getElem?_eq_none_iff.1 e
      simpa using this
    have : b ≠ H.bs.length := by omega
    simp only [Cx.push, this, if_false]
    exact h.out b (List.getElem?_eq_none (by omega))
  · intro b y e
    rcases old b y e with ⟨hb, e⟩ | ⟨rfl, rfl⟩
    · have hne : b ≠ H.bs.length := by omega
      exact (h.blk b y e).mono hL.le (by simp [Cx.push, hne]) (by simp [Cx.push, hne]) (by simp [Cx.push, hne]) (hal b hne) (by simp [Cx.push, hne]) (fun hd => heap_alloc_old _ _ _ (h.lt b y e hd))
    · exact hx
  · intro b y e
    rcases old b y e with ⟨hb, e⟩ | ⟨rfl, rfl⟩
    · rw [hal b (by omega)]; exact h.apart b y e
    · rw [hal']; exact fun _ hf => Nat.lt_irrefl _ (h.fzlt _ hf)
  · intro b b' y y' e d e' d' heq
    rcases old b y e with ⟨hb, e0⟩ | ⟨rfl, rfl⟩
    · rcases old b' y' e' with ⟨hb', e1⟩ | ⟨rfl, rfl⟩
      · rw [hal b (by omega), hal b' (by omega)] at heq; exact h.inj b b' y y' e0 d e1 d' heq
      · rw [hal b (by omega), hal'] at heq; have := h.lt b y e0 d; omega
    · rcases old b' y' e' with ⟨hb', e1⟩ | ⟨rfl, rfl⟩
      · rw [hal b' (by omega), hal'] at heq; have := h.lt b' y' e1 d'; omega
      · rfl
  · intro b y e d
    rcases old b y e with ⟨hb, e1⟩ | ⟨rfl, rfl⟩
    · rw [hal b (by omega)]; have := h.lt b y e1 d; simp [Cx.push]; omega
    · rw [hal']; simp [Cx.push]
  · intro b hf
    have := h.fzlt b hf
    simp [Cx.push]; omega

/-- a new block of cells -/
theorem HRel.push {E : Env} {c : Cx} {H : AH} (h : HRel E c H) (sz : Nat) (e : TypeId) (pre rest : List Value) (cs : List AV) (hl : LRel E c cs pre) :
    ∃ c', c'.w = c.w.alloc (.cells (pre ++ rest).toArray e (0, 0)) ∧ HRel E c' (H.push sz cs) ∧ Later c c' ∧
      VRel E c' (.ptrL H.bs.length 0 H.ctr) (.pointer (some ⟨c.w.heap.size, 0, none⟩)) ∧
      ∀ len cap, cap * sz = (pre ++ rest).length → len ≤ cap → VRel E c' (.slL H.bs.length 0 len H.ctr) (.slice (some ⟨c.w.heap.size, 0, none⟩) len cap) := by
  have hL := Later.push h sz (pre ++ rest).length (.cells (pre ++ rest).toArray e (0, 0))
  refine ⟨c.push H.bs.length sz (pre ++ rest).length (.cells (pre ++ rest).toArray e (0, 0)), rfl, ?_, hL, ?_, ?_⟩
  · refine h.pushed _ _ _ (.cells H.ctr sz cs) ⟨?_, ?_, ?_, pre ++ rest, e, ?_, ?_, [], pre, rest, rfl, ?_, hl.le hL.le⟩
    · simp [Cx.push, h.ctr]
    · simp [Cx.push, h.ctr]
    · simp [Cx.push]
    · simp only [Cx.push, if_true]; exact heap_alloc_new' _ _
    · simp [Cx.push]
    · simp [Cx.push]
  · simp [VRel, Cx.push, h.ctr]
  · intro len cap hcap hle
    simp only [VRel, Cx.push, if_true]
    exact ⟨by rw [h.ctr]; omega, _, cap, rfl, hle, fun _ => .inr ⟨rfl, by simp; simpa using hcap⟩⟩

/-- a world of the same heap -/
theorem HRel.heap_eq {E : Env} {c : Cx} {H : AH} (h : HRel E c H) {w' : World} (hh : w'.heap = c.w.heap) (ho : w'.os = c.w.os) (ht : w'.tape = c.w.tape) (hp : w'.output = c.w.output) :
    HRel E { c with w := w' } H ∧ Later c { c with w := w' } := by
  have hL : Later c { c with w := w' } := {
    le := ⟨Nat.le_refl _, fun b hb => ⟨hb, by simp only [hh]⟩, fun b g _ e => ⟨e, rfl, rfl, rfl, rfl⟩⟩
    os := ho
    tape := ht
    output := hp
    size := by simp [hh]
    keep := fun k _ _ => by simp only [hh]
    own := fun b hb => .inl ⟨b, hb, rfl⟩
    fz := fun k hk => .inl hk }
  exact ⟨⟨h.ctr, h.out, fun b x e => (h.blk b x e).mono hL.le rfl rfl rfl rfl rfl (fun _ => by simp only [hh]), h.apart, h.inj, fun b x e d => by simpa [hh] using h.lt b x e d, fun b hb => by simpa [hh] using h.fzlt b hb⟩, hL⟩

/-- one block of cells is written anew (as many cells) -/
theorem HRel.setRow {E : Env} {c : Cx} {H : AH} (h : HRel E c H) {b g sz : Nat} {cs cs' : List AV} {p0 pre rest : List Value} {e : TypeId} (hb : H.bs[b]? = some (.cells g sz cs))
    (hw : c.w.heap[c.al b]? = some (.cells (p0 ++ pre ++ rest).toArray e (0, 0))) (hp0 : p0.length = c.base b) {pre' : List Value} (hl : pre'.length = pre.length) (hr : LRel E c cs' pre')
    {w' : World} (hheap : w'.heap = c.w.heap.setIfInBounds (c.al b) (.cells (p0 ++ pre' ++ rest).toArray e (0, 0))) (ho : w'.os = c.w.os) (ht : w'.tape = c.w.tape) (hp : w'.output = c.w.output) :
    HRel E { c with w := w' } ⟨H.bs.set b (.cells g sz cs'), H.ctr⟩ ∧ Later c { c with w := w' } := by
  have hlt := h.lt b _ hb (by simp)
  have hlen : b < H.bs.length := by
    rcases Nat.lt_or_ge b H.bs.length with hh | hh
    · exact hh
    · rw [List.getElem?_eq_none hh] at hb; cases hb
  have hother : ∀ k, k ≠ c.al b → w'.heap[k]? = c.w.heap[k]? := fun k hk => by
    rw [hheap, Array.getElem?_setIfInBounds, if_neg (by omega)]
  have hself : w'.heap[c.al b]? = some (.cells (p0 ++ pre' ++ rest).toArray e (0, 0)) := by
    rw [hheap, Array.getElem?_setIfInBounds]; simp [hlt]
  have hL : Later c { c with w := w' } := {
    le := ⟨Nat.le_refl _, fun k hk => ⟨hk, hother k fun e => h.apart b _ hb (by simp) (e ▸ hk)⟩, fun b g _ e => ⟨e, rfl, rfl, rfl, rfl⟩⟩
    os := ho
    tape := ht
    output := hp
    size := by simp [hheap]
    keep := fun k _ hn => hother k fun e => hn b (by rw [(h.live hb).1]; simp) e.symm
    own := fun b hb => .inl ⟨b, hb, rfl⟩
    fz := fun k hk => .inl hk }
  refine ⟨⟨h.ctr, ?_, ?_, ?_, ?_, ?_, ?_⟩, hL⟩
  · intro i hi
    exact h.out i (by simpa [List.getElem?_eq_none_iff] using hi)
  · intro i x hi
    by_cases hib : i = b
    · subst hib
      have : x = .cells g sz cs' := by simpa [hlen] using hi.symm
      subst this
      obtain ⟨h1, h2, h3, arr, e', h4, h5, -⟩ := h.blk i _ hb
      rw [hw] at h4
      injection h4 with h4
      injection h4 with h4 _
      refine ⟨h1, h2, h3, p0 ++ pre' ++ rest, e, hself, ?_, p0, pre', rest, rfl, hp0, hr.le hL.le⟩
      show c.csz i = _
      rw [h5]
      have := congrArg Array.size h4
      simp only [List.size_toArray, List.length_append] at this ⊢
      omega
    · have hi' : H.bs[i]? = some x := by rwa [List.getElem?_set_ne (by omega)] at hi
      exact (h.blk i x hi').mono hL.le rfl rfl rfl rfl rfl (fun hd => hother _ fun e => hib (h.inj i b x _ hi' hd hb (by simp) e))
  · intro i x hi
    by_cases hib : i = b
    · subst hib; exact fun _ => h.apart i _ hb (by simp)
    · exact h.apart i x (by rwa [List.getElem?_set_ne (by omega)] at hi)
  · intro i j x y hi di hj dj he
    have key : ∀ (i : Nat) (x : Blk), (H.bs.set b (.cells g sz cs'))[i]? = some x → x ≠ .dead → ∃ x' : Blk, H.bs[i]? = some x' ∧ x' ≠ .dead := fun i x hi hd => by
      by_cases hib : i = b
      · subst hib; exact ⟨_, hb, by simp⟩
      · exact ⟨x, by rwa [List.getElem?_set_ne (by omega)] at hi, hd⟩
    obtain ⟨x', hx, dx⟩ := key i x hi di
    obtain ⟨y', hy, dy⟩ := key j y hj dj
    exact h.inj i j x' y' hx dx hy dy he
  · intro i x hi hd
    have : c.al i < c.w.heap.size := by
      by_cases hib : i = b
      · subst hib; exact hlt
      · exact h.lt i x (by rwa [List.getElem?_set_ne (by omega)] at hi) hd
    simpa [hheap] using this
  · intro k hk
    simpa [hheap] using h.fzlt k hk

/-- one block lies anew: in its place, or in a new one -/
theorem HRel.regen {E : Env} {c : Cx} {H : AH} (h : HRel E c H) {b g sz k : Nat} {cs cs' : List AV} {p0 pre rest : List Value} {e : TypeId} {w' : World} (hb : H.bs[b]? = some (.cells g sz cs)) (hk : k = c.al b ∨ k = c.w.heap.size)
    (hself : w'.heap[k]? = some (.cells (p0 ++ pre ++ rest).toArray e (0, 0))) (hother : ∀ i, i ≠ k → i < c.w.heap.size → w'.heap[i]? = c.w.heap[i]?) (hsize : c.w.heap.size ≤ w'.heap.size)
    (ho : w'.os = c.w.os) (ht : w'.tape = c.w.tape) (hp : w'.output = c.w.output) (hl : LRel E c cs' pre) :
    ∃ c', c'.w = w' ∧ HRel E c' ⟨H.bs.set b (.cells H.ctr sz cs'), H.ctr + 1⟩ ∧ Later c c' ∧
      ∀ off len cap, p0.length + off + cap * sz = (p0 ++ pre ++ rest).length → len ≤ cap → VRel E c' (.slL b off len H.ctr) (.slice (some ⟨k, p0.length + off, none⟩) len cap) := by
  have hlen : b < H.bs.length := by
    rcases Nat.lt_or_ge b H.bs.length with hh | hh
    · exact hh
    · rw [List.getElem?_eq_none hh] at hb; cases hb
  have hkw : k < w'.heap.size := by
    rcases Nat.lt_or_ge k w'.heap.size with hh | hh
    · exact hh
    · rw [Array.getElem?_eq_none hh] at hself; cases hself
  have hblt := h.lt b _ hb (by simp)
  have hne : ∀ i x, H.bs[i]? = some x → x ≠ .dead → i ≠ b → c.al i ≠ k := by
    intro i x hi hd hib heq
    rcases hk with hk | hk
    · exact hib (h.inj i b x _ hi hd hb (by simp) (heq.trans hk))
    · have := h.lt i x hi hd; omega
  have hfz : ∀ i, c.fz i → i ≠ k := by
    intro i hi heq
    rcases hk with hk | hk
    · exact h.apart b _ hb (by simp) (by rw [← hk, ← heq]; exact hi)
    · have := h.fzlt i hi; omega
  let c' : Cx := { w := w', al := fun i => if i = b then k else c.al i, base := fun i => if i = b then p0.length else c.base i, gen := fun i => if i = b then some c.ctr else c.gen i, sz := c.sz, csz := fun i => if i = b then (p0 ++ pre ++ rest).length else c.csz i, fz := c.fz, ctr := c.ctr + 1 }
  have hL : Later c c' := {
    le := {
      ctr := Nat.le_succ _
      fz := fun i hi => ⟨hi, hother i (hfz i hi) (h.fzlt i hi)⟩
      gen := fun i q hq e => by
        simp only [c'] at e ⊢
        by_cases hi : i = b
        · rw [if_pos hi] at e; injection e with e; omega
        · rw [if_neg hi] at e; simp [hi, e] }
    os := ho
    tape := ht
    output := hp
    size := hsize
    keep := fun i hi hn => hother i (by
      rintro rfl
      rcases hk with hk | hk
      · exact hn b (by rw [(h.live hb).1]; simp) hk.symm
      · omega) hi
    own := fun i hi => by
      simp only [c'] at hi ⊢
      by_cases hib : i = b
      · subst hib
        rw [if_pos rfl]
        rcases hk with hk | hk
        · exact .inl ⟨i, by rw [(h.live hb).1]; simp, hk⟩
        · exact .inr (by omega)
      · rw [if_neg hib] at hi; rw [if_neg hib]; exact .inl ⟨i, hi, rfl⟩
    fz := fun i hi => .inl hi }
  have old : ∀ i x, (H.bs.set b (.cells H.ctr sz cs'))[i]? = some x → (i ≠ b ∧ H.bs[i]? = some x) ∨ (i = b ∧ x = .cells H.ctr sz cs') := by
    intro i x e
    by_cases hib : i = b
    · subst hib
      simp only [List.getElem?_set_self hlen, Option.some.injEq] at e
      exact .inr ⟨rfl, e.symm⟩
    · exact .inl ⟨hib, by rwa [List.getElem?_set_ne (by omega)] at e⟩
  have hcsz : c.sz b = sz := (h.blk b _ hb).2.2.1
  refine ⟨c', rfl, ⟨by show c.ctr + 1 = _; rw [h.ctr], ?_, ?_, ?_, ?_, ?_, ?_⟩, hL, ?_⟩
  · intro i hi
    have hi' : H.bs[i]? = none := by simpa [List.getElem?_eq_none_iff] using hi
    have hib : i ≠ b := by rintro rfl; rw [hb] at hi'; cases hi'
    simp only [c', if_neg hib]; exact h.out i hi'
  · intro i x e1
    rcases old i x e1 with ⟨hib, e0⟩ | ⟨rfl, rfl⟩
    · refine (h.blk i x e0).mono hL.le (by simp [c', hib]) rfl (by simp [c', hib]) (by simp [c', hib]) (by simp [c', hib]) ?_
      exact fun hd => hother _ (hne i x e0 hd hib) (h.lt i x e0 hd)
    · refine ⟨?_, ?_, hcsz, p0 ++ pre ++ rest, e, ?_, ?_, p0, pre, rest, rfl, ?_, hl.le hL.le⟩
      · show H.ctr < c.ctr + 1; rw [h.ctr]; omega
      · simp [c', h.ctr]
      · simp only [c', if_true]; exact hself
      · simp [c']
      · simp [c']
  · intro i x e1
    rcases old i x e1 with ⟨hib, e0⟩ | ⟨rfl, rfl⟩
    · simp only [c', if_neg hib]; exact h.apart i x e0
    · simp only [c', if_true]; exact fun _ hf => hfz _ hf rfl
  · intro i j x y ei di ej dj heq
    rcases old i x ei with ⟨hib, e0⟩ | ⟨rfl, rfl⟩
    · rcases old j y ej with ⟨hjb, e1⟩ | ⟨rfl, rfl⟩
      · simp only [c', if_neg hib, if_neg hjb] at heq; exact h.inj i j x y e0 di e1 dj heq
      · simp only [c', if_neg hib, if_true] at heq; exact absurd heq (hne i x e0 di hib)
    · rcases old j y ej with ⟨hjb, e1⟩ | ⟨rfl, rfl⟩
      · simp only [c', if_neg hjb, if_true] at heq; exact absurd heq.symm (hne j y e1 dj hjb)
      · rfl
  · intro i x ei di
    rcases old i x ei with ⟨hib, e0⟩ | ⟨rfl, rfl⟩
    · simp only [c', if_neg hib]; exact Nat.lt_of_lt_of_le (h.lt i x e0 di) hsize
    · simp only [c', if_true]; exact hkw
  · intro i hi; exact Nat.lt_of_lt_of_le (h.fzlt i hi) hsize
  · intro off len cap hcap hle
    simp only [VRel, c', if_true]
    exact ⟨by rw [h.ctr]; omega, _, cap, rfl, hle, fun _ => .inr ⟨rfl, by rw [hcsz]; exact hcap⟩⟩
end Go.Sb
