/-
  STEPS OF THE PROOF ALONE: blocks of the call's own are frozen, or numbered anew; a contract that speaks of frozen memory alone is used anywhere.
-/
import Derived.Test.YtbdkkbeldnndnaaSbM
namespace Go.Sb
open Go

/-! ### values without blocks of the call's own -/
mutual
def AV.closed : AV → Prop
  | .junk => True
  | .val _ => True
  | .ptrL _ _ _ => False
  | .ptrF cs _ => AV.closedL cs
  | .slL _ _ _ _ => False
  | .slF cs _ _ => AV.closedL cs
  | .agg cs => AV.closedL cs
  | .tup cs => AV.closedL cs
  | .ifc _ a => AV.closed a
  | .fn _ fs cs => AV.closedL fs ∧ AV.closedL cs
  | .mapL _ _ => False
  | .mapF ks vs => AV.closedL ks ∧ AV.closedL vs
def AV.closedL : List AV → Prop
  | [] => True
  | x :: xs => AV.closed x ∧ AV.closedL xs
end
/-! ### values without memory -/
mutual
def AV.flat : AV → Prop
  | .junk => True
  | .val _ => True
  | .ptrL _ _ _ => False
  | .ptrF cs _ => cs = []
  | .slL _ _ _ _ => False
  | .slF cs _ _ => cs = []
  | .agg cs => AV.flatL cs
  | .tup cs => AV.flatL cs
  | .ifc _ a => AV.flat a
  | .fn _ fs cs => AV.flatL fs ∧ AV.flatL cs
  | .mapL _ _ => False
  | .mapF _ _ => False
def AV.flatL : List AV → Prop
  | [] => True
  | x :: xs => AV.flat x ∧ AV.flatL xs
end

theorem AV.closedL_iff : ∀ {l : List AV}, AV.closedL l ↔ ∀ x ∈ l, x.closed
  | [] => by simp [AV.closedL]
  | x :: l => by simp [AV.closedL, AV.closedL_iff (l := l)]
theorem AV.flatL_iff : ∀ {l : List AV}, AV.flatL l ↔ ∀ x ∈ l, x.flat
  | [] => by simp [AV.flatL]
  | x :: l => by simp [AV.flatL, AV.flatL_iff (l := l)]

def Cx.fle (c c' : Cx) : Prop := ∀ b, c.fz b → c'.fz b ∧ c'.w.heap[b]? = c.w.heap[b]?

mutual
theorem VRel.fle {E : Env} {c c' : Cx} (h : c.fle c') : ∀ (a : AV) (v : Value), a.closed → VRel E c a v → VRel E c' a v
  | .junk, _, _, _ => by simp [VRel]
  | .val u, v, _, r => by simpa [VRel] using r
  | .ptrL b off g, v, k, r => by simp [AV.closed] at k
  | .ptrF cs off, v, k, r => by
    simp only [VRel] at r ⊢
    obtain ⟨b, o, rfl, hf, hc⟩ := r
    exact ⟨b, o, rfl, hf.imp id fun x => (h b x).1, CRel.fle h cs b o (by simpa [AV.closed] using k) hf hc⟩
  | .slL b off len g, v, k, r => by simp [AV.closed] at k
  | .slF cs off len, v, k, r => by
    simp only [VRel] at r ⊢
    obtain ⟨p, cap, rfl, hl, r⟩ := r
    refine ⟨p, cap, rfl, hl, r.imp id ?_⟩
    rintro ⟨b, o, rfl, hf, hc⟩
    exact ⟨b, o, rfl, hf.imp id fun x => (h b x).1, CRel.fle h cs b o (by simpa [AV.closed] using k) hf hc⟩
  | .agg cs, v, k, r => by
    simp only [VRel] at r ⊢
    obtain ⟨vs, rfl, hl⟩ := r
    exact ⟨vs, rfl, LRel.fle h cs vs (by simpa [AV.closed] using k) hl⟩
  | .tup cs, v, k, r => by
    simp only [VRel] at r ⊢
    obtain ⟨vs, rfl, hl⟩ := r
    exact ⟨vs, rfl, LRel.fle h cs vs (by simpa [AV.closed] using k) hl⟩
  | .ifc _ a, v, k, r => by
    simp only [VRel] at r ⊢
    obtain ⟨u, rfl, hk, hl⟩ := r
    exact ⟨u, rfl, hk, VRel.fle h a u (by simpa [AV.closed] using k) hl⟩
  | .fn _ fs cs, v, k, r => by
    simp only [VRel] at r ⊢
    simp only [AV.closed] at k
    obtain ⟨gs, ds, rfl, h1, h2⟩ := r
    exact ⟨gs, ds, rfl, LRel.fle h fs gs k.1 h1, LRel.fle h cs ds k.2 h2⟩
  | .mapL b g, v, k, r => by simp [AV.closed] at k
  | .mapF ks xs, v, k, r => by
    simp only [VRel] at r ⊢
    simp only [AV.closed] at k
    obtain ⟨m, es, clock, rfl, hf, hm, h1, h2⟩ := r
    exact ⟨m, es, clock, rfl, (h m hf).1, by rw [(h m hf).2]; exact hm, LRel.fle h ks _ k.1 h1, LRel.fle h xs _ k.2 h2⟩
theorem LRel.fle {E : Env} {c c' : Cx} (h : c.fle c') : ∀ (xs : List AV) (vs : List Value), AV.closedL xs → LRel E c xs vs → LRel E c' xs vs
  | [], vs, _, r => by simpa [LRel] using r
  | x :: xs, vs, k, r => by
    simp only [LRel] at r ⊢
    simp only [AV.closedL] at k
    obtain ⟨u, us, rfl, h1, h2⟩ := r
    exact ⟨u, us, rfl, VRel.fle h x u k.1 h1, LRel.fle h xs us k.2 h2⟩
theorem CRel.fle {E : Env} {c c' : Cx} (h : c.fle c') : ∀ (xs : List AV) (b o : Nat), AV.closedL xs → (xs = [] ∨ c.fz b) → CRel E c xs b o → CRel E c' xs b o
  | [], _, _, _, _, _ => by simp [CRel]
  | x :: xs, b, o, k, hf, r => by
    simp only [CRel] at r ⊢
    simp only [AV.closedL] at k
    obtain ⟨⟨u, h1, h2⟩, h3⟩ := r
    have hb : c.fz b := hf.resolve_left (by simp)
    exact ⟨⟨u, by rw [cell_of_heap (h b hb).2]; exact h1, VRel.fle h x u k.1 h2⟩, CRel.fle h xs b (o + 1) k.2 (Or.inr hb) h3⟩
end

mutual
theorem VRel.ofFlat {E : Env} {c c' : Cx} : ∀ (a : AV) (v : Value), a.flat → VRel E c a v → VRel E c' a v
  | .junk, _, _, _ => by simp [VRel]
  | .val u, v, _, r => by simpa [VRel] using r
  | .ptrL b off g, v, k, r => by simp [AV.flat] at k
  | .ptrF cs off, v, k, r => by
    simp only [AV.flat] at k; subst k
    simp only [VRel] at r ⊢
    obtain ⟨b, o, rfl, hf, hc⟩ := r
    exact ⟨b, o, rfl, by simp, by simp [CRel]⟩
  | .slL b off len g, v, k, r => by simp [AV.flat] at k
  | .slF cs off len, v, k, r => by
    simp only [AV.flat] at k; subst k
    simp only [VRel] at r ⊢
    obtain ⟨p, cap, rfl, hl, r⟩ := r
    refine ⟨p, cap, rfl, hl, r.imp id ?_⟩
    rintro ⟨b, o, rfl, hf, hc⟩
    exact ⟨b, o, rfl, by simp, by simp [CRel]⟩
  | .agg cs, v, k, r => by
    simp only [VRel] at r ⊢
    obtain ⟨vs, rfl, hl⟩ := r
    exact ⟨vs, rfl, LRel.ofFlat cs vs (by simpa [AV.flat] using k) hl⟩
  | .tup cs, v, k, r => by
    simp only [VRel] at r ⊢
    obtain ⟨vs, rfl, hl⟩ := r
    exact ⟨vs, rfl, LRel.ofFlat cs vs (by simpa [AV.flat] using k) hl⟩
  | .ifc _ a, v, k, r => by
    simp only [VRel] at r ⊢
    obtain ⟨u, rfl, hk, hl⟩ := r
    exact ⟨u, rfl, hk, VRel.ofFlat a u (by simpa [AV.flat] using k) hl⟩
  | .fn _ fs cs, v, k, r => by
    simp only [VRel] at r ⊢
    simp only [AV.flat] at k
    obtain ⟨gs, ds, rfl, h1, h2⟩ := r
    exact ⟨gs, ds, rfl, LRel.ofFlat fs gs k.1 h1, LRel.ofFlat cs ds k.2 h2⟩
  | .mapL b g, v, k, r => by simp [AV.flat] at k
  | .mapF ks xs, v, k, r => by simp [AV.flat] at k
theorem LRel.ofFlat {E : Env} {c c' : Cx} : ∀ (xs : List AV) (vs : List Value), AV.flatL xs → LRel E c xs vs → LRel E c' xs vs
  | [], vs, _, r => by simpa [LRel] using r
  | x :: xs, vs, k, r => by
    simp only [LRel] at r ⊢
    simp only [AV.flatL] at k
    obtain ⟨u, us, rfl, h1, h2⟩ := r
    exact ⟨u, us, rfl, VRel.ofFlat x u k.1 h1, LRel.ofFlat xs us k.2 h2⟩
end

/-! ### freezing and numbering anew -/
def Cx.focus (c : Cx) (H : AH) (n0 : Nat) (mv : List Nat) : Cx where
  w := c.w
  al := fun i => if i < n0 then c.al i else c.al (mv.getD (i - n0) 0)
  base := fun i => if i < n0 then c.base i else c.base (mv.getD (i - n0) 0)
  sz := fun i => if i < n0 then c.sz i else c.sz (mv.getD (i - n0) 0)
  csz := fun i => if i < n0 then c.csz i else c.csz (mv.getD (i - n0) 0)
  gen := fun i => if i < n0 then c.gen i else if i < n0 + mv.length then some (c.ctr + (i - n0)) else none
  fz := fun k => c.fz k ∨ ∃ b x, H.bs[b]? = some x ∧ x ≠ .dead ∧ c.al b = k ∧ n0 ≤ b ∧ b ∉ mv
  ctr := c.ctr + mv.length

/-- what a value is told as -/
def Fz (H : AH) (n0 : Nat) (mv : List Nat) (x x' : AV) : Prop := ∀ (E : Env) (c : Cx), HRel E c H → (∀ b ∈ mv, n0 ≤ b ∧ ∃ x, H.bs[b]? = some x ∧ x ≠ .dead) → mv.Nodup → ∀ v, VRel E c x v → VRel E (c.focus H n0 mv) x' v
inductive FzL (H : AH) (n0 : Nat) (mv : List Nat) : List AV → List AV → Prop where
  | nil : FzL H n0 mv [] []
  | cons {x x' : AV} {xs xs' : List AV} : Fz H n0 mv x x' → FzL H n0 mv xs xs' → FzL H n0 mv (x :: xs) (x' :: xs')

theorem Cx.focus_le (c : Cx) (H : AH) (n0 : Nat) (mv : List Nat) : c.le (c.focus H n0 mv) where
  ctr := Nat.le_add_right _ _
  fz := fun b h => ⟨.inl h, rfl⟩
  gen := fun b g hg e => by
    simp only [Cx.focus] at e ⊢
    by_cases hb : b < n0
    · simpa [hb] using e
    · rw [if_neg hb] at e
      split at e
      · injection e with e; omega
      · cases e

theorem FzL.rel {H : AH} {n0 : Nat} {mv : List Nat} {E : Env} {c : Cx} (hH : HRel E c H) (hm : ∀ b ∈ mv, n0 ≤ b ∧ ∃ x, H.bs[b]? = some x ∧ x ≠ .dead) (hn : mv.Nodup) :
    ∀ {xs xs' : List AV}, FzL H n0 mv xs xs' → ∀ {vs}, LRel E c xs vs → LRel E (c.focus H n0 mv) xs' vs
  | [], _, .nil, vs, h => by simpa [LRel] using h
  | x :: xs, _, .cons h1 h2, vs, h => by
    simp only [LRel] at h ⊢
    obtain ⟨u, us, rfl, a, b⟩ := h
    exact ⟨u, us, rfl, h1 E c hH hm hn u a, FzL.rel hH hm hn h2 b⟩

section
variable {H : AH} {n0 : Nat} {mv : List Nat}
theorem Fz.same (x : AV) : Fz H n0 mv x x := fun _ c _ _ _ v h => VRel.le (c.focus_le H n0 mv) x v h
theorem FzL.same : ∀ xs : List AV, FzL H n0 mv xs xs
  | [] => .nil
  | _ :: xs => .cons (.same _) (FzL.same xs)
theorem Fz.agg {xs xs' : List AV} (h : FzL H n0 mv xs xs') : Fz H n0 mv (.agg xs) (.agg xs') := fun E c hH hm hn v r => by
  simp only [VRel] at r ⊢
  obtain ⟨vs, rfl, hl⟩ := r
  exact ⟨vs, rfl, h.rel hH hm hn hl⟩
theorem Fz.tup {xs xs' : List AV} (h : FzL H n0 mv xs xs') : Fz H n0 mv (.tup xs) (.tup xs') := fun E c hH hm hn v r => by
  simp only [VRel] at r ⊢
  obtain ⟨vs, rfl, hl⟩ := r
  exact ⟨vs, rfl, h.rel hH hm hn hl⟩
theorem Fz.ifc {k : Nat} {x x' : AV} (h : Fz H n0 mv x x') : Fz H n0 mv (.ifc k x) (.ifc k x') := fun E c hH hm hn v r => by
  simp only [VRel] at r ⊢
  obtain ⟨u, rfl, hk, hl⟩ := r
  exact ⟨u, rfl, hk, h E c hH hm hn u hl⟩
theorem Fz.fn {k : Nat} {fs fs' cs cs' : List AV} (h : FzL H n0 mv fs fs') (h' : FzL H n0 mv cs cs') : Fz H n0 mv (.fn k fs cs) (.fn k fs' cs') := fun E c hH hm hn v r => by
  simp only [VRel] at r ⊢
  obtain ⟨gs, ds, rfl, h1, h2⟩ := r
  exact ⟨gs, ds, rfl, h.rel hH hm hn h1, h'.rel hH hm hn h2⟩

theorem crel_of_cells {E : Env} {c : Cx} {xs : List AV} : ∀ {vs : List Value} {b o : Nat} {arr : List Value} {e : TypeId}, LRel E c xs vs → c.w.heap[b]? = some (.cells arr.toArray e (0, 0)) → (∀ i v, vs[i]? = some v → arr[o + i]? = some v) → CRel E c xs b o := by
  induction xs with
  | nil => intros; simp [CRel]
  | cons x xs ih =>
    intro vs b o arr e h hw ha
    simp only [LRel] at h
    obtain ⟨u, us, rfl, h1, h2⟩ := h
    simp only [CRel]
    refine ⟨⟨u, ?_, h1⟩, ih h2 hw fun i v hi => ?_⟩
    · have := ha 0 u (by simp)
      simp only [World.cell?, hw]
      simpa using this
    · have := ha (i + 1) v (by simpa using hi)
      rw [← this]; congr 1; omega

theorem Fz.cells {b g sz : Nat} {cs ys : List AV} {off k : Nat} (hb : H.bs[b]? = some (.cells g sz cs)) (h0 : n0 ≤ b) (hnm : b ∉ mv) (hy : FzL H n0 mv ((cs.drop off).take k) ys)
    {E : Env} {c : Cx} (hH : HRel E c H) (hm : ∀ b ∈ mv, n0 ≤ b ∧ ∃ x, H.bs[b]? = some x ∧ x ≠ .dead) (hn : mv.Nodup) : (c.focus H n0 mv).fz (c.al b) ∧ CRel E (c.focus H n0 mv) ys (c.al b) (c.base b + off) := by
  have hB := hH.blk b _ hb
  simp only [BRel] at hB
  obtain ⟨h1, h2, h3, arr, e, h4, h5, p0, pre, rest, rfl, h7, h8⟩ := hB
  refine ⟨.inr ⟨b, _, hb, by simp, rfl, h0, hnm⟩, crel_of_cells (hy.rel hH hm hn ((h8.drop off).take k)) h4 fun i v hi => ?_⟩
  rw [List.getElem?_take] at hi
  split at hi
  · rw [List.getElem?_drop] at hi
    rw [List.append_assoc, List.getElem?_append_right (by omega), ← hi, List.getElem?_append_left]
    · congr 1; omega
    · have : off + i < pre.length := by
        by_cases hx : off + i < pre.length
        · exact hx
        · rw [List.getElem?_eq_none (by omega)] at hi; cases hi
      omega
  · cases hi
/-- a slice of a block is frozen -/
theorem Fz.slF {b g sz : Nat} {cs ys : List AV} {off len : Nat} (k : Nat) (hb : H.bs[b]? = some (.cells g sz cs)) (h0 : n0 ≤ b) (hnm : b ∉ mv) (hy : FzL H n0 mv ((cs.drop off).take k) ys) : Fz H n0 mv (.slL b off len g) (.slF ys 0 len) := fun E c hH hm hn v r => by
  obtain ⟨q1, q2⟩ := Fz.cells hb h0 hnm hy hH hm hn
  simp only [VRel] at r ⊢
  obtain ⟨_, p, cap, rfl, hl, r⟩ := r
  refine ⟨p, cap, rfl, hl, (r (hH.live hb).1).imp id ?_⟩
  rintro ⟨rfl, _⟩
  exact ⟨c.al b, c.base b + off, by simp, .inr q1, q2⟩
theorem Fz.ptrF {b g sz : Nat} {cs ys : List AV} {off : Nat} (k : Nat) (hb : H.bs[b]? = some (.cells g sz cs)) (h0 : n0 ≤ b) (hnm : b ∉ mv) (hy : FzL H n0 mv ((cs.drop off).take k) ys) : Fz H n0 mv (.ptrL b off g) (.ptrF ys 0) := fun E c hH hm hn v r => by
  obtain ⟨q1, q2⟩ := Fz.cells hb h0 hnm hy hH hm hn
  simp only [VRel] at r ⊢
  obtain ⟨_, p, rfl, r⟩ := r
  rw [r (hH.live hb).1]
  exact ⟨c.al b, c.base b + off, by simp, .inr q1, q2⟩
/-- a slice of a block that is numbered anew -/
theorem Fz.slM {b g sz : Nat} {cs : List AV} {off len i : Nat} (hi : mv[i]? = some b) (hb : H.bs[b]? = some (.cells g sz cs)) : Fz H n0 mv (.slL b off len g) (.slL (n0 + i) off len (H.ctr + i)) := fun E c hH hm hn v r => by
  have hl : i < mv.length := by
    by_cases h : i < mv.length
    · exact h
    · rw [List.getElem?_eq_none (by omega)] at hi; cases hi
  simp only [VRel] at r ⊢
  obtain ⟨_, p, cap, rfl, hc, r⟩ := r
  refine ⟨by simp only [Cx.focus]; rw [hH.ctr]; omega, p, cap, rfl, hc, fun _ => ?_⟩
  have hd : mv.getD i 0 = b := by simp [List.getD, hi]
  simp only [Cx.focus, if_neg (show ¬ n0 + i < n0 by omega), Nat.add_sub_cancel_left, hd]
  exact r (hH.live hb).1
theorem Fz.ptrM {b g sz : Nat} {cs : List AV} {off i : Nat} (hi : mv[i]? = some b) (hb : H.bs[b]? = some (.cells g sz cs)) : Fz H n0 mv (.ptrL b off g) (.ptrL (n0 + i) off (H.ctr + i)) := fun E c hH hm hn v r => by
  have hl : i < mv.length := by
    by_cases h : i < mv.length
    · exact h
    · rw [List.getElem?_eq_none (by omega)] at hi; cases hi
  simp only [VRel] at r ⊢
  obtain ⟨_, p, rfl, r⟩ := r
  refine ⟨by simp only [Cx.focus]; rw [hH.ctr]; omega, p, rfl, fun _ => ?_⟩
  have hd : mv.getD i 0 = b := by simp [List.getD, hi]
  simp only [Cx.focus, if_neg (show ¬ n0 + i < n0 by omega), Nat.add_sub_cancel_left, hd]
  exact r (hH.live hb).1
end

/-- blocks that are kept -/
def FzB (H : AH) (n0 : Nat) (mv : List Nat) (g' : Option Nat) : Blk → Blk → Prop
  | .cells g sz cs, .cells g1 sz1 cs1 => g1 = g'.getD g ∧ sz1 = sz ∧ FzL H n0 mv cs cs1
  | .map g ks xs, .map g1 ks1 xs1 => g1 = g'.getD g ∧ FzL H n0 mv ks ks1 ∧ FzL H n0 mv xs xs1
  | .dead, .dead => True
  | _, _ => False

theorem FzB.alive {H : AH} {n0 : Nat} {mv : List Nat} {g' : Option Nat} {x x' : Blk} (h : FzB H n0 mv g' x x') (hd : x' ≠ .dead) : x ≠ .dead := by
  rintro rfl
  cases x' with
  | dead => exact hd rfl
  | cells => exact h.elim
  | map => exact h.elim
theorem FzB.brel {H : AH} {n0 : Nat} {mv : List Nat} {E : Env} {c : Cx} (hH : HRel E c H) (hm : ∀ b ∈ mv, n0 ≤ b ∧ ∃ x, H.bs[b]? = some x ∧ x ≠ .dead) (hn : mv.Nodup) {b i : Nat} {x x' : Blk} {g' : Option Nat} (hb : H.bs[b]? = some x)
    (hd : x ≠ .dead) (hf : FzB H n0 mv g' x x') (hg : (c.focus H n0 mv).gen i = some (g'.getD x.g)) (hg' : g'.getD x.g < c.ctr + mv.length) (ha : (c.focus H n0 mv).al i = c.al b) (hbs : (c.focus H n0 mv).base i = c.base b) (hs : (c.focus H n0 mv).sz i = c.sz b) (hc : (c.focus H n0 mv).csz i = c.csz b) :
    BRel E (c.focus H n0 mv) i x' := by
  have hB := hH.blk b _ hb
  cases x with
  | cells g sz cs =>
    cases x' with
    | cells g1 sz1 cs1 =>
      obtain ⟨rfl, rfl, hf⟩ := hf
      simp only [BRel, Blk.g] at hB hg hg' ⊢
      obtain ⟨h1, h2, h3, arr, e, h4, h5, p0, pre, rest, h6, h7, h8⟩ := hB
      exact ⟨hg', hg, by rw [hs, h3], arr, e, by rw [ha]; exact h4, by rw [hc, h5], p0, pre, rest, h6, by rw [hbs, h7], hf.rel hH hm hn h8⟩
    | map => exact hf.elim
    | dead => exact hf.elim
  | dead => exact absurd rfl hd
  | map g ks xs =>
    cases x' with
    | cells => exact hf.elim
    | dead => exact hf.elim
    | map g1 ks1 xs1 =>
      obtain ⟨rfl, hf1, hf2⟩ := hf
      simp only [BRel, Blk.g] at hB hg hg' ⊢
      obtain ⟨h1, h2, es, clock, h4, h5, h6⟩ := hB
      exact ⟨hg', hg, es, clock, by rw [ha]; exact h4, hf1.rel hH hm hn h5, hf2.rel hH hm hn h6⟩

theorem Later.focus {E : Env} {c : Cx} {H : AH} (hH : HRel E c H) {n0 : Nat} {mv : List Nat} (hm : ∀ b ∈ mv, n0 ≤ b ∧ ∃ x, H.bs[b]? = some x ∧ x ≠ .dead) : Later c (c.focus H n0 mv) where
  le := c.focus_le H n0 mv
  os := rfl
  tape := rfl
  output := rfl
  size := Nat.le_refl _
  keep := fun _ _ _ => rfl
  own := fun b hb => .inl (by
    simp only [Cx.focus] at hb ⊢
    by_cases h : b < n0
    · rw [if_pos h] at hb; exact ⟨b, hb, by rw [if_pos h]⟩
    · rw [if_neg h] at hb
      split at hb
      · rename_i hlt
        have hl : b - n0 < mv.length := by omega
        obtain ⟨_, x, hx, hd⟩ := hm _ (List.getElem_mem hl)
        refine ⟨mv[b - n0], by rw [(hH.live hx hd).1]; simp, by rw [if_neg h]; simp [List.getD, List.getElem?_eq_getElem hl]⟩
      · exact (hb rfl).elim)
  fz := fun k hk => by
    simp only [Cx.focus] at hk
    rcases hk with hk | ⟨b, x, hb, hd, rfl, -, -⟩
    · exact .inl hk
    · exact .inr (.inr ⟨b, by rw [(hH.live hb hd).1]; simp, rfl⟩)

theorem HRel.focus {E : Env} {c : Cx} {H : AH} (hH : HRel E c H) {n0 : Nat} {mv : List Nat} (hm : ∀ b ∈ mv, n0 ≤ b ∧ ∃ x, H.bs[b]? = some x ∧ x ≠ .dead) (hn : mv.Nodup) {bs' : List Blk} (hl : bs'.length = n0 + mv.length)
    (h0 : ∀ i, i < n0 → ∃ x x', H.bs[i]? = some x ∧ bs'[i]? = some x' ∧ FzB H n0 mv none x x')
    (h1 : ∀ i b, mv[i]? = some b → ∃ x x', H.bs[b]? = some x ∧ bs'[n0 + i]? = some x' ∧ FzB H n0 mv (some (H.ctr + i)) x x') : HRel E (c.focus H n0 mv) ⟨bs', H.ctr + mv.length⟩ := by
  have hcase : ∀ i x', bs'[i]? = some x' → (i < n0 ∧ ∃ x, H.bs[i]? = some x ∧ FzB H n0 mv none x x' ∧ (c.focus H n0 mv).al i = c.al i) ∨
      (∃ j b x, i = n0 + j ∧ mv[j]? = some b ∧ H.bs[b]? = some x ∧ FzB H n0 mv (some (H.ctr + j)) x x' ∧ (c.focus H n0 mv).al i = c.al b) := by
    intro i x' hi
    by_cases h : i < n0
    · obtain ⟨x, y, a, b, d⟩ := h0 i h
      rw [b] at hi; injection hi with hi; subst hi
      exact .inl ⟨h, x, a, d, by simp [Cx.focus, h]⟩
    · have hi' : i < bs'.length := by
        by_cases h : i < bs'.length
        · exact h
        · rw [List.getElem?_eq_none (by omega)] at hi; cases hi
      have hj : i - n0 < mv.length := by omega
      obtain ⟨x, y, a, b, d⟩ := h1 (i - n0) _ (List.getElem?_eq_getElem hj)
      rw [show n0 + (i - n0) = i by omega, hi] at b; injection b with b; subst b
      exact .inr ⟨i - n0, _, x, by omega, List.getElem?_eq_getElem hj, a, d, by simp [Cx.focus, h, List.getD, List.getElem?_eq_getElem hj]⟩
  refine ⟨by simp [Cx.focus, hH.ctr], ?_, ?_, ?_, ?_, ?_, ?_⟩
  · intro i hi
    have hi' : ¬ i < n0 + mv.length := by
      intro h
      have hi : bs'[i]? = none := hi
      rw [List.getElem?_eq_getElem (by omega)] at hi; cases hi
    simp only [Cx.focus]
    rw [if_neg (by omega), if_neg hi']
  · intro i x' hi
    rcases hcase i x' hi with ⟨h, x, a, d, e⟩ | ⟨j, b, x, rfl, hj, a, d, e⟩
    · by_cases hd : x = .dead
      · subst hd
        have hx' : x' = .dead := by
          cases x' with
          | dead => rfl
          | cells => exact d.elim
          | map => exact d.elim
        subst hx'
        show (c.focus H n0 mv).gen i = none
        simp only [Cx.focus, if_pos h]
        exact hH.blk i _ a
      refine d.brel hH hm hn a hd ?_ ?_ e ?_ ?_ ?_
      · simp only [Cx.focus, if_pos h]; exact (hH.live a hd).1
      · have := (hH.live a hd).2; simp only [Option.getD_none]; omega
      · simp [Cx.focus, h]
      · simp [Cx.focus, h]
      · simp [Cx.focus, h]
    · have hlj : j < mv.length := by
        by_cases h : j < mv.length
        · exact h
        · rw [List.getElem?_eq_none (by omega)] at hj; cases hj
      have hd : x ≠ .dead := by
        obtain ⟨_, y, hy, hd⟩ := hm b (List.mem_of_getElem? hj)
        rw [a] at hy; injection hy with hy; exact hy ▸ hd
      refine d.brel hH hm hn a hd ?_ ?_ e ?_ ?_ ?_
      · simp only [Cx.focus, Option.getD_some]
        rw [if_neg (by omega), if_pos (by omega), hH.ctr]; congr 1; omega
      · simp only [Option.getD_some, hH.ctr]; omega
      · simp only [Cx.focus]; rw [if_neg (by omega)]; simp [List.getD, hj]
      · simp only [Cx.focus]; rw [if_neg (by omega)]; simp [List.getD, hj]
      · simp only [Cx.focus]; rw [if_neg (by omega)]; simp [List.getD, hj]
  · intro i x' hi hd' hfz
    rcases hcase i x' hi with ⟨h, x, a, d, e⟩ | ⟨j, b, x, rfl, hj, a, d, e⟩
    · have hd := d.alive hd'
      simp only [Cx.focus] at e hfz
      rw [e] at hfz
      rcases hfz with hfz | ⟨b, y, hb, hyd, he, hge, _⟩
      · exact hH.apart i x a hd hfz
      · have := hH.inj b i y x hb hyd a hd he; omega
    · have hd := d.alive hd'
      simp only [Cx.focus] at e hfz
      rw [e] at hfz
      rcases hfz with hfz | ⟨b', y, hb, hyd, he, hge, hnm⟩
      · exact hH.apart b x a hd hfz
      · have := hH.inj b' b y x hb hyd a hd he; subst this
        exact hnm (List.mem_of_getElem? hj)
  · intro i i' x' y' hi hdi hi' hdi' he
    rcases hcase i x' hi with ⟨h, x, a, d, e⟩ | ⟨j, b, x, rfl, hj, a, d, e⟩
    · rcases hcase i' y' hi' with ⟨h', x', a', d', e'⟩ | ⟨j', b', x', rfl, hj', a', d', e'⟩
      · rw [e, e'] at he; exact hH.inj i i' x x' a (d.alive hdi) a' (d'.alive hdi') he
      · rw [e, e'] at he
        have := hH.inj i b' x x' a (d.alive hdi) a' (d'.alive hdi') he
        have := (hm b' (List.mem_of_getElem? hj')).1
        omega
    · rcases hcase i' y' hi' with ⟨h', x', a', d', e'⟩ | ⟨j', b', x', rfl, hj', a', d', e'⟩
      · rw [e, e'] at he
        have := hH.inj b i' x x' a (d.alive hdi) a' (d'.alive hdi') he
        have := (hm b (List.mem_of_getElem? hj)).1
        omega
      · rw [e, e'] at he
        have hbb := hH.inj b b' x x' a (d.alive hdi) a' (d'.alive hdi') he
        subst hbb
        have hlj : j < mv.length := by
          by_cases h : j < mv.length
          · exact h
          · rw [List.getElem?_eq_none (by omega)] at hj; cases hj
        have hlj' : j' < mv.length := by
          by_cases h : j' < mv.length
          · exact h
          · rw [List.getElem?_eq_none (by omega)] at hj'; cases hj'
        rw [List.getElem?_eq_getElem hlj] at hj
        rw [List.getElem?_eq_getElem hlj'] at hj'
        have : mv[j] = mv[j'] := by
          injection hj with hj; injection hj' with hj'; rw [hj, hj']
        have := (List.getElem_inj hn).1 this
        omega
  · intro i x' hi hd
    rcases hcase i x' hi with ⟨h, x, a, d, e⟩ | ⟨j, b, x, rfl, hj, a, d, e⟩
    · rw [e]; exact hH.lt i x a (d.alive hd)
    · rw [e]; exact hH.lt b x a (d.alive hd)
  · intro k hk
    simp only [Cx.focus] at hk
    rcases hk with hk | ⟨b, x, hb, hd, rfl, -, -⟩
    · exact hH.fzlt k hk
    · exact hH.lt b x hb hd

/-- blocks beyond the first 'n0' are frozen, those of 'mv' are numbered anew -/
theorem ghost_focus {H : AH} {n0 : Nat} {mv : List Nat} (hm : ∀ b ∈ mv, n0 ≤ b ∧ ∃ x, H.bs[b]? = some x ∧ x ≠ .dead) (hn : mv.Nodup) {bs' : List Blk} (hl : bs'.length = n0 + mv.length)
    (h0 : ∀ i, i < n0 → ∃ x x', H.bs[i]? = some x ∧ bs'[i]? = some x' ∧ FzB H n0 mv none x x')
    (h1 : ∀ i b, mv[i]? = some b → ∃ x x', H.bs[b]? = some x ∧ bs'[n0 + i]? = some x' ∧ FzB H n0 mv (some (H.ctr + i)) x x') {xs xs' : List AV} (hx : FzL H n0 mv xs xs') :
    Ghost xs H xs' ⟨bs', H.ctr + mv.length⟩ := fun _ _ hH =>
  ⟨Cx.focus _ H n0 mv, rfl, Later.focus hH hm, hH.focus hm hn hl h0 h1, fun _ r => hx.rel hH hm hn r⟩

/-- all but the first 'n0' blocks are frozen -/
theorem ghost_take {H : AH} {n0 : Nat} (h0 : n0 ≤ H.bs.length) {xs xs' : List AV} (hx : FzL H n0 [] xs xs') : Ghost xs H xs' ⟨H.bs.take n0, H.ctr⟩ := by
  refine ghost_focus (mv := []) (by simp) (by simp) (by simp [h0]) ?_ (by simp) hx
  intro i hi
  have hl : i < H.bs.length := by omega
  refine ⟨H.bs[i], H.bs[i], List.getElem?_eq_getElem hl, by rw [List.getElem?_take, if_pos hi, List.getElem?_eq_getElem hl], ?_⟩
  cases H.bs[i] with
  | cells g sz cs => exact ⟨rfl, rfl, FzL.same _⟩
  | map g ks vs => exact ⟨rfl, FzL.same _, FzL.same _⟩
  | dead => trivial
/-- but for one, that is numbered anew, and for the first 'n0' -/
theorem ghost_move {H : AH} {n0 b g sz : Nat} {cs cs' : List AV} (h0 : n0 ≤ b) (hb : H.bs[b]? = some (.cells g sz cs)) (hc : FzL H n0 [b] cs cs') {xs xs' : List AV} (hx : FzL H n0 [b] xs xs') :
    Ghost xs H xs' ⟨H.bs.take n0 ++ [.cells H.ctr sz cs'], H.ctr + 1⟩ := by
  have hbl : b < H.bs.length := by
    by_cases h : b < H.bs.length
    · exact h
    · rw [List.getElem?_eq_none (by omega)] at hb; cases hb
  refine ghost_focus (mv := [b]) (by simp [h0, hb]) (by simp) (by simp; omega) ?_ ?_ hx
  · intro i hi
    have hl : i < H.bs.length := by omega
    refine ⟨H.bs[i], H.bs[i], List.getElem?_eq_getElem hl, by rw [List.getElem?_append_left (by simp; omega), List.getElem?_take, if_pos hi, List.getElem?_eq_getElem hl], ?_⟩
    cases H.bs[i] with
    | cells g sz cs => exact ⟨rfl, rfl, FzL.same _⟩
    | map g ks vs => exact ⟨rfl, FzL.same _, FzL.same _⟩
    | dead => trivial
  · intro i b' hi
    cases i with
    | zero =>
      simp at hi; subst hi
      refine ⟨_, .cells H.ctr sz cs', hb, ?_, rfl, rfl, hc⟩
      rw [List.getElem?_append_right (by simp; omega)]
      simp [Nat.min_eq_left (show n0 ≤ H.bs.length by omega)]
    | succ i => simp at hi

/-! ### contracts -/
section
variable {E : Env} {P : Program}
/-- what a call comes to with arguments that are frozen -/
structure FC (E : Env) (P : Program) (k : Nat) (args : List AV) (R0 : AV → Prop) : Prop where
  ok : ∀ n, ACalls E P k args ⟨[], n⟩ fun r _ => R0 r

theorem ACalls.mono {k : Nat} {args : List AV} {H : AH} {R R' : Kt} (h : ACalls E P k args H R) (hR : ∀ r H', R r H' → ∃ r' H'', Ghost [r] H' [r'] H'' ∧ R' r' H'') : ACalls E P k args H R' := by
  intro c vs hH hv o a next Q hn
  refine h c vs hH hv o a next Q fun v w' hvw => hn v w' ?_
  obtain ⟨r, c', H', rfl, h1, h2, h3, h4⟩ := hvw
  obtain ⟨r', H'', hg, hr⟩ := hR r H' h1
  obtain ⟨c'', g1, g2, g3, g4⟩ := hg E c' h2
  have := g4 [v] (by simp only [LRel]; exact ⟨v, [], rfl, h3, rfl⟩)
  simp only [LRel] at this
  obtain ⟨u, us, he, hu, _⟩ := this
  injection he with he _
  subst he
  exact ⟨r', c'', H'', g1, hr, g3, hu, h4.trans g2⟩
theorem ACalls.args {k : Nat} {args args' : List AV} {H H' : AH} {R : Kt} (hg : Ghost args H args' H') (h : ACalls E P k args' H' R) : ACalls E P k args H R := by
  intro c vs hH hv o a next Q hn
  obtain ⟨c', g1, g2, g3, g4⟩ := hg E c hH
  rw [← g1]
  refine h c' vs g3 (g4 vs hv) o a next Q fun v w' hvw => hn v w' ?_
  obtain ⟨r, c'', H'', rfl, h1, h2, h3, h4⟩ := hvw
  exact ⟨r, c'', H'', rfl, h1, h2, h3, g2.trans h4⟩

/-- a body's contract: what it leaves may be frozen -/
theorem FC.of {k : Nat} {args : List AV} {R0 : AV → Prop} (h : ∀ n, ACalls E P k args ⟨[], n⟩ fun r H' => ∃ r', Fz H' 0 [] r r' ∧ R0 r') : FC E P k args R0 where
  ok := fun n => (h n).mono fun _ H' ⟨r', h1, h2⟩ => ⟨r', ⟨H'.bs.take 0, H'.ctr⟩, ghost_take (Nat.zero_le _) (.cons h1 .nil), h2⟩
theorem FC.mono {k : Nat} {args : List AV} {R0 R1 : AV → Prop} (h : FC E P k args R0) (hR : ∀ r, R0 r → R1 r) : FC E P k args R1 where
  ok := fun n => (h.ok n).mono fun r H' hr => ⟨r, H', .refl _ _, hR r hr⟩

/-- one's own blocks as they were, behind a call that saw none of them, or saw them frozen -/
theorem HRel.back {c c0 c1 : Cx} {H : AH} (hH : HRel E c H) (hw : c0.w = c.w) (hf : ∀ k, c.fz k → c0.fz k) (hg : ∀ b, c0.gen b = none)
    (hf1 : ∀ k, c1.fz k → c.fz k ∨ c.w.heap.size ≤ k ∨ ∃ b x, H.bs[b]? = some x ∧ x ≠ .dead ∧ c.al b = k) (hl : Later c0 c1) (h1 : ∀ k, c1.fz k → k < c1.w.heap.size) :
    ∃ c2 : Cx, c2.w = c1.w ∧ HRel E c2 H ∧ Later c c2 ∧ (∀ k, c1.fz k → (∀ b x, H.bs[b]? = some x → x ≠ .dead → c.al b ≠ k) → c2.fz k) := by
  have hheap : ∀ k, k < c.w.heap.size → c1.w.heap[k]? = c.w.heap[k]? := fun k hk => by
    rw [hl.keep k (by rw [hw]; exact hk) (fun b hb => absurd (hg b) hb), hw]
  let c2 : Cx := { w := c1.w, al := c.al, base := c.base, gen := c.gen, sz := c.sz, csz := c.csz, fz := fun k => c1.fz k ∧ (∀ b x, H.bs[b]? = some x → x ≠ .dead → c.al b ≠ k), ctr := c.ctr }
  have hle : c.le c2 := {
    ctr := Nat.le_refl _
    fz := fun k hk => ⟨⟨(hl.le.fz k (hf k hk)).1, fun b x hb hd he => hH.apart b x hb hd (he ▸ hk)⟩, hheap k (hH.fzlt k hk)⟩
    gen := fun _ _ _ e => ⟨e, rfl, rfl, rfl, rfl⟩ }
  refine ⟨c2, rfl, ⟨hH.ctr, hH.out, fun b x hb => (hH.blk b x hb).mono hle rfl rfl rfl rfl rfl (fun hd => hheap _ (hH.lt b x hb hd)), fun b x hb hd hk => hk.2 b x hb hd rfl, hH.inj, fun b x hb hd => ?_, fun k hk => h1 k hk.1⟩, ?_, fun k h h' => ⟨h, h'⟩⟩
  · have := hl.size
    rw [hw] at this
    exact Nat.lt_of_lt_of_le (hH.lt b x hb hd) this
  · exact {
      le := hle
      os := by rw [show c2.w = c1.w from rfl, hl.os, hw]
      tape := by rw [show c2.w = c1.w from rfl, hl.tape, hw]
      output := by rw [show c2.w = c1.w from rfl, hl.output, hw]
      size := by have := hl.size; rw [hw] at this; exact this
      keep := fun k hk _ => hheap k hk
      own := fun b hb => .inl ⟨b, hb, rfl⟩
      fz := fun k hk => by
        rcases hf1 k hk.1 with h | h | ⟨b, x, hb, hd, he⟩
        · exact .inl h
        · exact .inr (.inl h)
        · exact absurd he (hk.2 b x hb hd) }

/-- a contract of frozen memory, anywhere: nothing of one's own is told of in the arguments -/
theorem FC.lift {k : Nat} {args : List AV} {R0 : AV → Prop} (h : FC E P k args R0) (ha : AV.closedL args) (hr : ∀ r, R0 r → r.closed) (H : AH) : ACalls E P k args H fun r H' => R0 r ∧ H' = H := by
  intro c vs hH hv o a next Q hn
  let c0 : Cx := { c with gen := fun _ => none }
  have hH0 : HRel E c0 ⟨[], c.ctr⟩ := ⟨rfl, fun _ _ => rfl, by simp, by simp, by simp, by simp, hH.fzlt⟩
  refine h.ok c.ctr c0 vs hH0 (LRel.fle (c := c) (c' := c0) (fun b hb => ⟨hb, rfl⟩) _ _ ha hv) o a next Q fun v w' hvw => hn v w' ?_
  obtain ⟨r, c1, H1, rfl, h1, h2, h3, h4⟩ := hvw
  obtain ⟨c2, e1, e2, e3, e4⟩ := hH.back (c0 := c0) (c1 := c1) rfl (fun _ h => h) (fun _ => rfl) (fun k hk => by
    rcases h4.fz k hk with h | h | ⟨b, hb, _⟩
    · exact .inl h
    · exact .inr (.inl h)
    · exact absurd rfl hb) h4 h2.fzlt
  refine ⟨r, c2, H, e1, ⟨h1, rfl⟩, e2, VRel.fle (fun k hk => ⟨e4 k hk fun b x hb hd he => ?_, by rw [e1]⟩) r v (hr r h1) h3, e3⟩
  rcases h4.fz k hk with h | h | ⟨b, hb, _⟩
  · exact hH.apart b x hb hd (he ▸ h)
  · have := hH.lt b x hb hd
    rw [he] at this
    exact Nat.not_lt.2 h this
  · exact absurd rfl hb
/-- as much, where the callee looks into blocks of one's own, and its results have no memory -/
theorem FC.borrow {k : Nat} {args args' : List AV} {R0 : AV → Prop} (h : FC E P k args' R0) {H : AH} (ha : FzL H 0 [] args args') (hr : ∀ r, R0 r → r.flat) : ACalls E P k args H fun r H' => R0 r ∧ H' = H := by
  intro c vs hH hv o a next Q hn
  have hL0 : Later c (c.focus H 0 []) := Later.focus hH (by simp)
  have hH0 : HRel E (c.focus H 0 []) ⟨[], H.ctr⟩ := hH.focus (mv := []) (by simp) (by simp) (bs' := []) rfl (by simp) (by simp)
  refine h.ok H.ctr (c.focus H 0 []) vs hH0 (ha.rel hH (by simp) (by simp) hv) o a next Q fun v w' hvw => hn v w' ?_
  obtain ⟨r, c1, H1, rfl, h1, h2, h3, h4⟩ := hvw
  obtain ⟨c2, e1, e2, e3, e4⟩ := hH.back (c0 := c.focus H 0 []) (c1 := c1) rfl (fun _ h => .inl h) (fun b => by simp [Cx.focus]) (fun k hk => by
    rcases h4.fz k hk with (h | ⟨b, x, hb, hd, he, _⟩) | h | ⟨b, hb, _⟩
    · exact .inl h
    · exact .inr (.inr ⟨b, x, hb, hd, he⟩)
    · exact .inr (.inl h)
    · simp [Cx.focus] at hb) h4 h2.fzlt
  exact ⟨r, c2, H, e1, ⟨h1, rfl⟩, e2, VRel.ofFlat r v (hr r h1) h3, e3⟩
end
end Go.Sb
