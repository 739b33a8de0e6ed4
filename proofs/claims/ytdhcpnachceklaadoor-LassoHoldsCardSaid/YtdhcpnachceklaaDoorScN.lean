/-
  STEPS OF THE PROOF ALONE: blocks of the call's own are frozen.
-/
import Derived.Test.YtdhcpnachceklaaDoorScM
namespace Go.Sc
open Go

/-! ### values without memory -/
mutual
def AV.flat : AV → Prop
  | .junk => True
  | .val _ => True
  | .ptrL _ _ _ => False
  | .ptrF _ _ => False
  | .slL _ _ _ _ => False
  | .slF _ _ _ => False
  | .slN _ _ => False
  | .slT _ _ _ _ => False
  | .agg cs => AV.flatL cs
  | .tup cs => AV.flatL cs
  | .ifc _ a => AV.flat a
  | .fn _ fs cs => AV.flatL fs ∧ AV.flatL cs
  | .mapL _ _ => False
  | .mapF _ _ => False
def AV.flatL : List AV → Prop
  | [] => True
  | x :: xs => AV.flat x ∧ AV.flatL xs
end

theorem AV.closedL_iff : ∀ {l : List AV}, AV.closedL l ↔ ∀ x ∈ l, x.closed
  | [] => by simp [AV.closedL]
  | x :: l => by simp [AV.closedL, AV.closedL_iff (l := l)]
theorem AV.flatL_iff : ∀ {l : List AV}, AV.flatL l ↔ ∀ x ∈ l, x.flat
  | [] => by simp [AV.flatL]
  | x :: l => by simp [AV.flatL, AV.flatL_iff (l := l)]

/-- what is frozen stays -/
structure Cx.fle (c c' : Cx) : Prop where
  fz : ∀ b, c.fz b → c'.fz b ∧ c'.w.heap[b]? = c.w.heap[b]?
  fc : ∀ b o, c.fc b o → (c'.fz b ∨ c'.fc b o) ∧ c'.w.cell? ⟨b, o, none⟩ = c.w.cell? ⟨b, o, none⟩
theorem Cx.le.fle {c c' : Cx} (h : c.le c') : c.fle c' := ⟨h.fz, h.fc⟩
theorem Cx.fle.cell {c c' : Cx} (h : c.fle c') {b o : Nat} (hf : c.fz b ∨ c.fc b o) : (c'.fz b ∨ c'.fc b o) ∧ c'.w.cell? ⟨b, o, none⟩ = c.w.cell? ⟨b, o, none⟩ := by
  rcases hf with hf | hf
  · exact ⟨.inl (h.fz b hf).1, cell_of_heap (h.fz b hf).2 _ _⟩
  · exact h.fc b o hf

mutual
theorem VRel.fle {E : Env} {c c' : Cx} (h : c.fle c') : ∀ (a : AV) (v : Value), a.closed → VRel E c a v → VRel E c' a v
  | .junk, _, _, _ => by simp [VRel]
  | .val u, v, _, r => by simpa [VRel] using r
  | .ptrL b off g, v, k, r => by simp [AV.closed] at k
  | .ptrF cs off, v, k, r => by
    simp only [VRel] at r ⊢
    obtain ⟨b, o, rfl, hc⟩ := r
    exact ⟨b, o, rfl, CRel.fle h cs b o (by simpa [AV.closed] using k) hc⟩
  | .slL b off len g, v, k, r => by simp [AV.closed] at k
  | .slF cs off len, v, k, r => by
    simp only [VRel] at r ⊢
    obtain ⟨p, cap, rfl, hl, r⟩ := r
    refine ⟨p, cap, rfl, hl, r.imp id ?_⟩
    rintro ⟨b, o, rfl, hc⟩
    exact ⟨b, o, rfl, CRel.fle h cs b o (by simpa [AV.closed] using k) hc⟩
  | .slN cs len, v, k, r => by
    simp only [VRel] at r ⊢
    refine r.imp id ?_
    rintro ⟨p, cap, rfl, hl, r⟩
    refine ⟨p, cap, rfl, hl, r.imp id ?_⟩
    rintro ⟨b, o, rfl, hc⟩
    exact ⟨b, o, rfl, CRel.fle h cs b o (by simpa [AV.closed] using k) hc⟩
  | .slT b cs len g, v, k, r => by simp [AV.closed] at k
  | .agg cs, v, k, r => by
    simp only [VRel] at r ⊢
    obtain ⟨vs, rfl, hl⟩ := r
    exact ⟨vs, rfl, LRel.fle h cs vs (by simpa [AV.closed] using k) hl⟩
  | .tup cs, v, k, r => by
    simp only [VRel] at r ⊢
    obtain ⟨vs, rfl, hl⟩ := r
    exact ⟨vs, rfl, LRel.fle h cs vs (by simpa [AV.closed] using k) hl⟩
  | .ifc _ a, v, k, r => by
    simp only [VRel] at r ⊢
    obtain ⟨u, rfl, hk, hl⟩ := r
    exact ⟨u, rfl, hk, VRel.fle h a u (by simpa [AV.closed] using k) hl⟩
  | .fn _ fs cs, v, k, r => by
    simp only [VRel] at r ⊢
    simp only [AV.closed] at k
    obtain ⟨gs, ds, rfl, h1, h2⟩ := r
    exact ⟨gs, ds, rfl, LRel.fle h fs gs k.1 h1, LRel.fle h cs ds k.2 h2⟩
  | .mapL b g, v, k, r => by simp [AV.closed] at k
  | .mapF ks xs, v, k, r => by
    simp only [VRel] at r ⊢
    simp only [AV.closed] at k
    obtain ⟨m, es, clock, rfl, hf, hm, h1, h2⟩ := r
    exact ⟨m, es, clock, rfl, (h.fz m hf).1, by rw [(h.fz m hf).2]; exact hm, LRel.fle h ks _ k.1 h1, LRel.fle h xs _ k.2 h2⟩
theorem LRel.fle {E : Env} {c c' : Cx} (h : c.fle c') : ∀ (xs : List AV) (vs : List Value), AV.closedL xs → LRel E c xs vs → LRel E c' xs vs
  | [], vs, _, r => by simpa [LRel] using r
  | x :: xs, vs, k, r => by
    simp only [LRel] at r ⊢
    simp only [AV.closedL] at k
    obtain ⟨u, us, rfl, h1, h2⟩ := r
    exact ⟨u, us, rfl, VRel.fle h x u k.1 h1, LRel.fle h xs us k.2 h2⟩
theorem CRel.fle {E : Env} {c c' : Cx} (h : c.fle c') : ∀ (xs : List AV) (b o : Nat), AV.closedL xs → CRel E c xs b o → CRel E c' xs b o
  | [], _, _, _, _ => by simp [CRel]
  | x :: xs, b, o, k, r => by
    simp only [CRel] at r ⊢
    simp only [AV.closedL] at k
    obtain ⟨⟨hf, u, h1, h2⟩, h3⟩ := r
    obtain ⟨k1, k2⟩ := h.cell hf
    exact ⟨⟨k1, u, by rw [k2]; exact h1, VRel.fle h x u k.1 h2⟩, CRel.fle h xs b (o + 1) k.2 h3⟩
end

mutual
theorem VRel.ofFlat {E : Env} {c c' : Cx} : ∀ (a : AV) (v : Value), a.flat → VRel E c a v → VRel E c' a v
  | .junk, _, _, _ => by simp [VRel]
  | .val u, v, _, r => by simpa [VRel] using r
  | .ptrL b off g, v, k, r => by simp [AV.flat] at k
  | .ptrF cs off, v, k, r => by simp [AV.flat] at k
  | .slL b off len g, v, k, r => by simp [AV.flat] at k
  | .slF cs off len, v, k, r => by simp [AV.flat] at k
  | .slN cs len, v, k, r => by simp [AV.flat] at k
  | .slT b cs len g, v, k, r => by simp [AV.flat] at k
  | .agg cs, v, k, r => by
    simp only [VRel] at r ⊢
    obtain ⟨vs, rfl, hl⟩ := r
    exact ⟨vs, rfl, LRel.ofFlat cs vs (by simpa [AV.flat] using k) hl⟩
  | .tup cs, v, k, r => by
    simp only [VRel] at r ⊢
    obtain ⟨vs, rfl, hl⟩ := r
    exact ⟨vs, rfl, LRel.ofFlat cs vs (by simpa [AV.flat] using k) hl⟩
  | .ifc _ a, v, k, r => by
    simp only [VRel] at r ⊢
    obtain ⟨u, rfl, hk, hl⟩ := r
    exact ⟨u, rfl, hk, VRel.ofFlat a u (by simpa [AV.flat] using k) hl⟩
  | .fn _ fs cs, v, k, r => by
    simp only [VRel] at r ⊢
    simp only [AV.flat] at k
    obtain ⟨gs, ds, rfl, h1, h2⟩ := r
    exact ⟨gs, ds, rfl, LRel.ofFlat fs gs k.1 h1, LRel.ofFlat cs ds k.2 h2⟩
  | .mapL b g, v, k, r => by simp [AV.flat] at k
  | .mapF ks xs, v, k, r => by simp [AV.flat] at k
theorem LRel.ofFlat {E : Env} {c c' : Cx} : ∀ (xs : List AV) (vs : List Value), AV.flatL xs → LRel E c xs vs → LRel E c' xs vs
  | [], vs, _, r => by simpa [LRel] using r
  | x :: xs, vs, k, r => by
    simp only [LRel] at r ⊢
    simp only [AV.flatL] at k
    obtain ⟨u, us, rfl, h1, h2⟩ := r
    exact ⟨u, us, rfl, VRel.ofFlat x u k.1 h1, LRel.ofFlat xs us k.2 h2⟩
end

/-! ### freezing -/
def Cx.kill (c : Cx) (S : Nat → Bool) : Cx :=
  { c with gen := fun i => if S i then none else c.gen i, fz := fun k => c.fz k ∨ ∃ b, c.gen b ≠ none ∧ S b = true ∧ c.al b = k }
theorem Cx.kill_le (c : Cx) (S : Nat → Bool) : c.le (c.kill S) where
  ctr := Nat.le_refl _
  fz := fun _ h => ⟨.inl h, rfl⟩
  fc := fun _ _ h => ⟨.inr h, rfl⟩
  gen := fun b g hg e => by
    simp only [Cx.kill] at e ⊢
    split at e
    · cases e
    · simp [e]
  room := fun _ _ _ _ _ h => h
theorem Later.kill (c : Cx) (S : Nat → Bool) : Later c (c.kill S) where
  le := c.kill_le S
  os := rfl
  tape := rfl
  output := rfl
  size := Nat.le_refl _
  keep := fun _ _ _ => rfl
  own := fun b hb => .inl ⟨b, fun e => hb (by simp only [Cx.kill]; split <;> simp [e]), rfl⟩
  fz := fun k hk => by
    rcases hk with hk | ⟨b, hb, _, he⟩
    · exact .inl hk
    · exact .inr (.inr ⟨b, hb, he⟩)
  fc := fun _ _ h => .inl h

/-- what a value is told as -/
def Fk (H : AH) (S : Nat → Bool) (x x' : AV) : Prop := ∀ (E : Env) (c : Cx), HRel E c H → ∀ v, VRel E c x v → VRel E (c.kill S) x' v
inductive FkL (H : AH) (S : Nat → Bool) : List AV → List AV → Prop where
  | nil : FkL H S [] []
  | cons {x x' : AV} {xs xs' : List AV} : Fk H S x x' → FkL H S xs xs' → FkL H S (x :: xs) (x' :: xs')

theorem FkL.rel {H : AH} {S : Nat → Bool} {E : Env} {c : Cx} (hH : HRel E c H) : ∀ {xs xs' : List AV}, FkL H S xs xs' → ∀ {vs}, LRel E c xs vs → LRel E (c.kill S) xs' vs
  | [], _, .nil, vs, h => by simpa [LRel] using h
  | x :: xs, _, .cons h1 h2, vs, h => by
    simp only [LRel] at h ⊢
    obtain ⟨u, us, rfl, a, b⟩ := h
    exact ⟨u, us, rfl, h1 E c hH u a, FkL.rel hH h2 b⟩

theorem crel_of_cells {E : Env} {c : Cx} {xs : List AV} {vs : List Value} {b o : Nat} {arr : List Value} {e : TypeId} (h : LRel E c xs vs) (hf : c.fz b) (hw : c.w.heap[b]? = some (.cells arr.toArray e (0, 0))) (ha : ∀ i v, vs[i]? = some v → arr[o + i]? = some v) : CRel E c xs b o :=
  CRel.of fun i x hi => by
    obtain ⟨u, h1, h2⟩ := h.get hi
    refine ⟨.inl hf, u, ?_, h2⟩
    simp only [World.cell?, hw]
    simpa using ha i u h1

section
variable {H : AH} {S : Nat → Bool}
theorem Fk.same (x : AV) : Fk H S x x := fun _ c _ v h => VRel.le (c.kill_le S) x v h
theorem Fk.sub {x y : AV} (h : Sub x y) : Fk H S x y := fun E c _ v r => h E _ v (VRel.le (c.kill_le S) x v r)
theorem Fk.then {x y z : AV} (h : Fk H S x y) (k : Sub y z) : Fk H S x z := fun E c hH v r => k E _ v (h E c hH v r)
theorem FkL.same : ∀ xs : List AV, FkL H S xs xs
  | [] => .nil
  | _ :: xs => .cons (.same _) (FkL.same xs)
theorem FkL.append : ∀ {xs xs' ys ys' : List AV}, FkL H S xs xs' → FkL H S ys ys' → FkL H S (xs ++ ys) (xs' ++ ys')
  | _, _, _, _, .nil, h => h
  | _, _, _, _, .cons h1 h2, h => .cons h1 (FkL.append h2 h)
theorem Fk.agg {xs xs' : List AV} (h : FkL H S xs xs') : Fk H S (.agg xs) (.agg xs') := fun E c hH v r => by
  simp only [VRel] at r ⊢
  obtain ⟨vs, rfl, hl⟩ := r
  exact ⟨vs, rfl, h.rel hH hl⟩
theorem Fk.tup {xs xs' : List AV} (h : FkL H S xs xs') : Fk H S (.tup xs) (.tup xs') := fun E c hH v r => by
  simp only [VRel] at r ⊢
  obtain ⟨vs, rfl, hl⟩ := r
  exact ⟨vs, rfl, h.rel hH hl⟩
theorem Fk.ifc {k : Nat} {x x' : AV} (h : Fk H S x x') : Fk H S (.ifc k x) (.ifc k x') := fun E c hH v r => by
  simp only [VRel] at r ⊢
  obtain ⟨u, rfl, hk, hl⟩ := r
  exact ⟨u, rfl, hk, h E c hH u hl⟩
theorem Fk.fn {k : Nat} {fs fs' cs cs' : List AV} (h : FkL H S fs fs') (h' : FkL H S cs cs') : Fk H S (.fn k fs cs) (.fn k fs' cs') := fun E c hH v r => by
  simp only [VRel] at r ⊢
  obtain ⟨gs, ds, rfl, h1, h2⟩ := r
  exact ⟨gs, ds, rfl, h.rel hH h1, h'.rel hH h2⟩
theorem Fk.cells {b g sz : Nat} {cs ys : List AV} {off k : Nat} (hb : H.bs[b]? = some (.cells g sz cs)) (hs : S b = true) (hy : FkL H S ((cs.drop off).take k) ys)
    {E : Env} {c : Cx} (hH : HRel E c H) : CRel E (c.kill S) ys (c.al b) (c.base b + off) := by
  have hB := hH.blk b _ hb
  simp only [BRel] at hB
  obtain ⟨h1, h2, h3, arr, e, h4, h5, p0, pre, rest, rfl, h7, h8⟩ := hB
  refine crel_of_cells (hy.rel hH ((h8.drop off).take k)) (.inr ⟨b, by rw [h2]; simp, hs, rfl⟩) h4 fun i v hi => ?_
  rw [List.getElem?_take] at hi
  split at hi
  · rw [List.getElem?_drop] at hi
    have := lt_of_get hi
    rw [List.append_assoc, List.getElem?_append_right (by omega), ← hi, List.getElem?_append_left (by omega)]
    congr 1; omega
  · cases hi
/-- a slice of a block is frozen -/
theorem Fk.slF {b g sz : Nat} {cs ys : List AV} {off len : Nat} (k : Nat) (hb : H.bs[b]? = some (.cells g sz cs)) (hs : S b = true) (hy : FkL H S ((cs.drop off).take k) ys) : Fk H S (.slL b off len g) (.slF ys 0 len) := fun E c hH v r => by
  have q2 := Fk.cells hb hs hy hH
  simp only [VRel] at r ⊢
  obtain ⟨_, p, cap, rfl, hl, r⟩ := r
  refine ⟨p, cap, rfl, hl, (r (hH.live hb).1).imp id ?_⟩
  rintro ⟨rfl, _⟩
  exact ⟨c.al b, c.base b + off, by simp, q2⟩
theorem Fk.ptrF {b g sz : Nat} {cs ys : List AV} {off : Nat} (k : Nat) (hb : H.bs[b]? = some (.cells g sz cs)) (hs : S b = true) (hy : FkL H S ((cs.drop off).take k) ys) : Fk H S (.ptrL b off g) (.ptrF ys 0) := fun E c hH v r => by
  have q2 := Fk.cells hb hs hy hH
  simp only [VRel] at r ⊢
  obtain ⟨_, p, rfl, r⟩ := r
  rw [r (hH.live hb).1]
  exact ⟨c.al b, c.base b + off, by simp, q2⟩
theorem Fk.mapF {b g : Nat} {ks xs ks' xs' : List AV} (hb : H.bs[b]? = some (.map g ks xs)) (hs : S b = true) (hk : FkL H S ks ks') (hx : FkL H S xs xs') : Fk H S (.mapL b g) (.mapF ks' xs') := fun E c hH v r => by
  have hB := hH.blk b _ hb
  simp only [BRel] at hB
  obtain ⟨h1, h2, es, clock, h4, h5, h6⟩ := hB
  simp only [VRel] at r ⊢
  obtain ⟨_, p, rfl, r⟩ := r
  exact ⟨p, es, clock, rfl, .inr ⟨b, by rw [h2]; simp, hs, (r h2).symm⟩, by rw [r h2]; exact h4, hk.rel hH h5, hx.rel hH h6⟩
end

/-- a block that stays -/
def KB (H : AH) (S : Nat → Bool) : Blk → Blk → Prop
  | .cells g sz cs, .cells g1 sz1 cs1 => g1 = g ∧ sz1 = sz ∧ FkL H S cs cs1
  | .map g ks xs, .map g1 ks1 xs1 => g1 = g ∧ FkL H S ks ks1 ∧ FkL H S xs xs1
  | .tail g sz, .tail g1 sz1 => g1 = g ∧ sz1 = sz
  | .obj g o, .obj g1 o1 => g1 = g ∧ o1 = o
  | .dead, .dead => True
  | _, _ => False
theorem KB.same {H : AH} {S : Nat → Bool} : ∀ x, KB H S x x
  | .cells _ _ _ => ⟨rfl, rfl, FkL.same _⟩
  | .map _ _ _ => ⟨rfl, FkL.same _, FkL.same _⟩
  | .tail _ _ => ⟨rfl, rfl⟩
  | .obj _ _ => ⟨rfl, rfl⟩
  | .dead => trivial
theorem KB.kind {H : AH} {S : Nat → Bool} {x x' : Blk} (h : KB H S x x') : (x' = .dead ↔ x = .dead) ∧ x'.isTail = x.isTail := by
  cases x <;> cases x' <;> simp_all [KB, Blk.isTail]
theorem KB.brel {H : AH} {S : Nat → Bool} {E : Env} {c : Cx} (hH : HRel E c H) {i : Nat} {x x' : Blk} (hx : H.bs[i]? = some x) (hs : S i = false) (h : KB H S x x') : BRel E (c.kill S) i x' := by
  have hB := hH.blk i x hx
  have hg : (c.kill S).gen i = c.gen i := by simp [Cx.kill, hs]
  cases x with
  | cells g sz cs =>
    cases x' with
    | cells g1 sz1 cs1 =>
      obtain ⟨rfl, rfl, h3⟩ := h
      obtain ⟨a1, a2, a3, arr, e, a4, a5, p0, pre, rest, a6, a7, a8⟩ := hB
      exact ⟨a1, hg.trans a2, a3, arr, e, a4, a5, p0, pre, rest, a6, a7, h3.rel hH a8⟩
    | _ => exact h.elim
  | map g ks vs =>
    cases x' with
    | map g1 ks1 vs1 =>
      obtain ⟨rfl, h3, h4⟩ := h
      obtain ⟨a1, a2, es, clock, a4, a5, a6⟩ := hB
      exact ⟨a1, hg.trans a2, es, clock, a4, h3.rel hH a5, h4.rel hH a6⟩
    | _ => exact h.elim
  | tail g sz =>
    cases x' with
    | tail g1 sz1 =>
      obtain ⟨rfl, rfl⟩ := h
      obtain ⟨a1, a2, a3⟩ := hB
      exact ⟨a1, hg.trans a2, a3⟩
    | _ => exact h.elim
  | obj g o =>
    cases x' with
    | obj g1 o1 =>
      obtain ⟨rfl, rfl⟩ := h
      obtain ⟨a1, a2, a3⟩ := hB
      exact ⟨a1, hg.trans a2, a3⟩
    | _ => exact h.elim
  | dead =>
    cases x' with
    | dead => exact hg.trans hB
    | _ => exact h.elim

/-- what a list of blocks is told as: block by block, from the i-th on -/
inductive KBL (H : AH) (S : Nat → Bool) : Nat → List Blk → List Blk → Prop where
  | nil {i : Nat} : KBL H S i [] []
  | keep {i : Nat} {x x' : Blk} {l l' : List Blk} : S i = false → KB H S x x' → KBL H S (i + 1) l l' → KBL H S i (x :: l) (x' :: l')
  | dead {i : Nat} {x : Blk} {l l' : List Blk} : S i = true → KBL H S (i + 1) l l' → KBL H S i (x :: l) (.dead :: l')
  | cut {i : Nat} {l : List Blk} : (∀ j x, l[j]? = some x → S (i + j) = true ∨ x = .dead) → KBL H S i l []
  | room {i : Nat} {l' : List Blk} : (∀ x ∈ l', x = .dead) → KBL H S i [] l'
theorem KBL.get {H : AH} {S : Nat → Bool} {i : Nat} {l l' : List Blk} (h : KBL H S i l l') : ∀ (j : Nat),
    (∀ x', l'[j]? = some x' → (x' = .dead ∧ (S (i + j) = true ∨ l[j]? = none)) ∨ (∃ x, l[j]? = some x ∧ S (i + j) = false ∧ KB H S x x')) ∧
    (l'[j]? = none → ∀ x, l[j]? = some x → S (i + j) = true ∨ x = .dead) := by
  induction h with
  | nil => intro j; simp
  | keep h1 h2 _ ih =>
    intro j
    cases j with
    | zero => simp; exact .inr ⟨h1, h2⟩
    | succ j =>
      have := ih j
      simpa [Nat.add_assoc, Nat.add_comm 1 j] using this
  | dead h1 _ ih =>
    intro j
    cases j with
    | zero => simp [h1]
    | succ j =>
      have := ih j
      simpa [Nat.add_assoc, Nat.add_comm 1 j] using this
  | cut h =>
    intro j
    simpa using h j
  | room h =>
    intro j
    refine ⟨fun x' hx => .inl ⟨h x' (List.mem_of_getElem? hx), .inr (by simp)⟩, fun _ x hx => by simp at hx⟩

theorem ghost_kill {H H' : AH} {S : Nat → Bool} (hc : H'.ctr = H.ctr) (h : KBL H S 0 H.bs H'.bs) {xs xs' : List AV} (hx : FkL H S xs xs') : Ghost xs H xs' H' := by
  intro E c hH
  have hle := c.kill_le S
  have hget := h.get
  simp only [Nat.zero_add] at hget
  have hg : ∀ i, (c.kill S).gen i ≠ none → c.gen i ≠ none ∧ S i = false := by
    intro i hi
    simp only [Cx.kill] at hi
    split at hi
    · exact absurd rfl hi
    · rename_i hs; exact ⟨hi, by simpa using hs⟩
  refine ⟨c.kill S, rfl, Later.kill c S, ⟨by rw [hc]; exact hH.ctr, ?_, ?_, ?_, ?_, ?_, ?_, ?_, ?_, hH.globLe hle⟩, fun vs r => hx.rel hH r⟩
  · intro i hi
    simp only [Cx.kill]
    split
    · rfl
    · rename_i hs
      cases hx : H.bs[i]? with
      | none => exact hH.out i hx
      | some x =>
        rcases (hget i).2 hi x hx with h1 | rfl
        · exact absurd h1 hs
        · exact hH.blk i _ hx
  · intro i x' hi
    rcases (hget i).1 x' hi with ⟨rfl, h1⟩ | ⟨x, h1, h2, h3⟩
    · show (c.kill S).gen i = none
      simp only [Cx.kill]
      rcases h1 with h1 | h1
      · simp [h1]
      · rw [hH.out i h1]; simp
    · exact h3.brel hH h1 h2
  · intro i hi hfz
    obtain ⟨h1, h2⟩ := hg i hi
    rcases hfz with hfz | ⟨b, hb, hs, he⟩
    · exact hH.apart i h1 hfz
    · have := hH.inj b i hb h1 he
      subst this
      rw [h2] at hs; cases hs
  · intro i x' hi hd ht j
    rcases (hget i).1 x' hi with ⟨rfl, h1⟩ | ⟨x, h1, h2, h3⟩
    · exact absurd rfl hd
    · obtain ⟨k1, k2⟩ := h3.kind
      exact hH.solid i x h1 (fun e => hd (k1.2 e)) (k2 ▸ ht) j
  · intro i j hi hj he
    exact hH.inj i j (hg i hi).1 (hg j hj).1 he
  · intro i hi
    exact hH.lt i (hg i hi).1
  · intro k hk
    rcases hk with hk | ⟨b, hb, _, he⟩
    · exact hH.fzlt k hk
    · rw [← he]; exact hH.lt b hb
  · exact hH.fclt

def S0 : Nat → Bool := fun _ => true
/-- all blocks are frozen -/
theorem ghost_all {H : AH} {xs xs' : List AV} (hx : FkL H S0 xs xs') : Ghost xs H xs' ⟨[], H.ctr⟩ :=
  ghost_kill (H := H) (H' := ⟨[], H.ctr⟩) (S := S0) rfl (.cut fun _ _ _ => .inl rfl) hx
theorem ghost_sub {H : AH} {xs xs' : List AV} (h : SubL xs xs') : Ghost xs H xs' H := fun _ c hH => ⟨c, rfl, Later.refl c, hH, fun _ r => h.rel r⟩

/-! ### contracts -/
section
variable {E : Env} {P : Program}
theorem ACalls.mono {k : Nat} {args : List AV} {H : AH} {R R' : Kt} (h : ACalls E P k args H R) (hR : ∀ r H', R r H' → ∃ r' H'', Ghost [r] H' [r'] H'' ∧ R' r' H'') : ACalls E P k args H R' := by
  intro c vs hH hv o a next Q hn
  refine h c vs hH hv o a next Q fun v w' hvw => hn v w' ?_
  obtain ⟨r, c', H', rfl, h1, h2, h3, h4⟩ := hvw
  obtain ⟨r', H'', hg, hr⟩ := hR r H' h1
  obtain ⟨c'', g1, g2, g3, g4⟩ := hg E c' h2
  have := g4 [v] (by simp only [LRel]; exact ⟨v, [], rfl, h3, rfl⟩)
  simp only [LRel] at this
  obtain ⟨u, us, he, hu, _⟩ := this
  injection he with he _
  subst he
  exact ⟨r', c'', H'', g1, hr, g3, hu, h4.trans g2⟩
theorem ACalls.args {k : Nat} {args args' : List AV} {H H' : AH} {R : Kt} (hg : Ghost args H args' H') (h : ACalls E P k args' H' R) : ACalls E P k args H R := by
  intro c vs hH hv o a next Q hn
  obtain ⟨c', g1, g2, g3, g4⟩ := hg E c hH
  rw [← g1]
  refine h c' vs g3 (g4 vs hv) o a next Q fun v w' hvw => hn v w' ?_
  obtain ⟨r, c'', H'', rfl, h1, h2, h3, h4⟩ := hvw
  exact ⟨r, c'', H'', rfl, h1, h2, h3, g2.trans h4⟩

/-- what a call comes to: of blocks 'B' of the caller's, that it may write -/
structure LC (E : Env) (P : Program) (k : Nat) (B : List Blk) (args : List AV) (R0 : AV → List Blk → Prop) : Prop where
  ok : ∀ n, ACalls E P k args ⟨B, n⟩ fun r H' => R0 r H'.bs ∧ H'.bs.length = B.length
theorem LC.mono {k : Nat} {B : List Blk} {args : List AV} {R0 R1 : AV → List Blk → Prop} (h : LC E P k B args R0) (hR : ∀ r B', R0 r B' → R1 r B') : LC E P k B args R1 where
  ok := fun n => (h.ok n).mono fun r H' hr => ⟨r, H', .refl _ _, hR _ _ hr.1, hr.2⟩
/-- of a body -/
theorem LC.of {k : Nat} {B : List Blk} {args : List AV} {R0 : AV → List Blk → Prop}
    (h : ∀ n (R : Kt), (∀ r r' B' (H H' : AH), Ghost [r] H [r'] H' → H'.bs = B' → R0 r' B' → B'.length = B.length → R r H) → ACalls E P k args ⟨B, n⟩ R) : LC E P k B args R0 where
  ok := fun n => (h n (fun r H => ∃ r' H', Ghost [r] H [r'] H' ∧ R0 r' H'.bs ∧ H'.bs.length = B.length) fun r r' B' H H' hg hb hr hl => ⟨r', H', hg, by rw [hb]; exact hr, by rw [hb]; exact hl⟩).mono fun r H' ⟨r', H'', h1, h2, h3⟩ => ⟨r', H'', h1, h2, h3⟩
end
end Go.Sc
