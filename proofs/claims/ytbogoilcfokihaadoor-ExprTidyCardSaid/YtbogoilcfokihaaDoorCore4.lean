/- STEPS OF THE PROOF ALONE: blocks of the call's own are frozen. CALLS AMONG BLOCKS OF ONE's OWN: a callee sees some of them ('mv', told by its own numbers), and all others stay as they are. NODES, AS A PROOF READS THEM; values of plain data; contracts, as a proof uses them. LOOPS AND JOINS, OF SO MANY VARIABLES; CALLS. (of the seat YtbogoilcfokihaaDoor) -/
import Derived.Test.YtbogoilcfokihaaDoorCore3
import Derived.IntWalk
import Derived.Laws.Strings
namespace Go.Sc
open Go

/-! ### values without memory -/
mutual
def AV.flat : AV → Prop
  | .junk => True
  | .val _ => True
  | .ptrL _ _ _ => False
  | .ptrF _ _ => False
  | .slL _ _ _ _ => False
  | .slF _ _ _ => False
  | .slN _ _ => False
  | .slT _ _ _ _ => False
  | .agg cs => AV.flatL cs
  | .tup cs => AV.flatL cs
  | .ifc _ a => AV.flat a
  | .fn _ fs cs => AV.flatL fs ∧ AV.flatL cs
  | .mapL _ _ => False
  | .mapF _ _ => False
def AV.flatL : List AV → Prop
  | [] => True
  | x :: xs => AV.flat x ∧ AV.flatL xs
end

theorem AV.closedL_iff : ∀ {l : List AV}, AV.closedL l ↔ ∀ x ∈ l, x.closed
  | [] => by simp [AV.closedL]
  | x :: l => by simp [AV.closedL, AV.closedL_iff (l := l)]
theorem AV.flatL_iff : ∀ {l : List AV}, AV.flatL l ↔ ∀ x ∈ l, x.flat
  | [] => by simp [AV.flatL]
  | x :: l => by simp [AV.flatL, AV.flatL_iff (l := l)]

/-- what is frozen stays -/
structure Cx.fle (c c' : Cx) : Prop where
  fz : ∀ b, c.fz b → c'.fz b ∧ c'.w.heap[b]? = c.w.heap[b]?
  fc : ∀ b o, c.fc b o → (c'.fz b ∨ c'.fc b o) ∧ c'.w.cell? ⟨b, o, none⟩ = c.w.cell? ⟨b, o, none⟩
theorem Cx.le.fle {c c' : Cx} (h : c.le c') : c.fle c' := ⟨h.fz, h.fc⟩
theorem Cx.fle.cell {c c' : Cx} (h : c.fle c') {b o : Nat} (hf : c.fz b ∨ c.fc b o) : (c'.fz b ∨ c'.fc b o) ∧ c'.w.cell? ⟨b, o, none⟩ = c.w.cell? ⟨b, o, none⟩ := by
  rcases hf with hf | hf
  · exact ⟨.inl (h.fz b hf).1, cell_of_heap (h.fz b hf).2 _ _⟩
  · exact h.fc b o hf

mutual
theorem VRel.fle {E : Env} {c c' : Cx} (h : c.fle c') : ∀ (a : AV) (v : Value), a.closed → VRel E c a v → VRel E c' a v
  | .junk, _, _, _ => by simp [VRel]
  | .val u, v, _, r => by simpa [VRel] using r
  | .ptrL b off g, v, k, r => by simp [AV.closed] at k
  | .ptrF cs off, v, k, r => by
    simp only [VRel] at r ⊢
    obtain ⟨b, o, rfl, hc⟩ := r
    exact ⟨b, o, rfl, CRel.fle h cs b o (by simpa [AV.closed] using k) hc⟩
  | .slL b off len g, v, k, r => by simp [AV.closed] at k
  | .slF cs off len, v, k, r => by
    simp only [VRel] at r ⊢
    obtain ⟨p, cap, rfl, hl, r⟩ := r
    refine ⟨p, cap, rfl, hl, r.imp id ?_⟩
    rintro ⟨b, o, rfl, hc⟩
    exact ⟨b, o, rfl, CRel.fle h cs b o (by simpa [AV.closed] using k) hc⟩
  | .slN cs len, v, k, r => by
    simp only [VRel] at r ⊢
    refine r.imp id ?_
    rintro ⟨p, cap, rfl, hl, r⟩
    refine ⟨p, cap, rfl, hl, r.imp id ?_⟩
    rintro ⟨b, o, rfl, hc⟩
    exact ⟨b, o, rfl, CRel.fle h cs b o (by simpa [AV.closed] using k) hc⟩
  | .slT b cs len g, v, k, r => by simp [AV.closed] at k
  | .agg cs, v, k, r => by
    simp only [VRel] at r ⊢
    obtain ⟨vs, rfl, hl⟩ := r
    exact ⟨vs, rfl, LRel.fle h cs vs (by simpa [AV.closed] using k) hl⟩
  | .tup cs, v, k, r => by
    simp only [VRel] at r ⊢
    obtain ⟨vs, rfl, hl⟩ := r
    exact ⟨vs, rfl, LRel.fle h cs vs (by simpa [AV.closed] using k) hl⟩
  | .ifc _ a, v, k, r => by
    simp only [VRel] at r ⊢
    obtain ⟨u, rfl, hk, hl⟩ := r
    exact ⟨u, rfl, hk, VRel.fle h a u (by simpa [AV.closed] using k) hl⟩
  | .fn _ fs cs, v, k, r => by
    simp only [VRel] at r ⊢
    simp only [AV.closed] at k
    obtain ⟨gs, ds, rfl, h1, h2⟩ := r
    exact ⟨gs, ds, rfl, LRel.fle h fs gs k.1 h1, LRel.fle h cs ds k.2 h2⟩
  | .mapL b g, v, k, r => by simp [AV.closed] at k
  | .mapF ks xs, v, k, r => by
    simp only [VRel] at r ⊢
    simp only [AV.closed] at k
    obtain ⟨m, es, clock, rfl, hf, hm, h1, h2⟩ := r
    exact ⟨m, es, clock, rfl, (h.fz m hf).1, by rw [(h.fz m hf).2]; exact hm, LRel.fle h ks _ k.1 h1, LRel.fle h xs _ k.2 h2⟩
theorem LRel.fle {E : Env} {c c' : Cx} (h : c.fle c') : ∀ (xs : List AV) (vs : List Value), AV.closedL xs → LRel E c xs vs → LRel E c' xs vs
  | [], vs, _, r => by simpa [LRel] using r
  | x :: xs, vs, k, r => by
    simp only [LRel] at r ⊢
    simp only [AV.closedL] at k
    obtain ⟨u, us, rfl, h1, h2⟩ := r
    exact ⟨u, us, rfl, VRel.fle h x u k.1 h1, LRel.fle h xs us k.2 h2⟩
theorem CRel.fle {E : Env} {c c' : Cx} (h : c.fle c') : ∀ (xs : List AV) (b o : Nat), AV.closedL xs → CRel E c xs b o → CRel E c' xs b o
  | [], _, _, _, _ => by simp [CRel]
  | x :: xs, b, o, k, r => by
    simp only [CRel] at r ⊢
    simp only [AV.closedL] at k
    obtain ⟨⟨hf, u, h1, h2⟩, h3⟩ := r
    obtain ⟨k1, k2⟩ := h.cell hf
    exact ⟨⟨k1, u, by rw [k2]; exact h1, VRel.fle h x u k.1 h2⟩, CRel.fle h xs b (o + 1) k.2 h3⟩
end

mutual
theorem VRel.ofFlat {E : Env} {c c' : Cx} : ∀ (a : AV) (v : Value), a.flat → VRel E c a v → VRel E c' a v
  | .junk, _, _, _ => by simp [VRel]
  | .val u, v, _, r => by simpa [VRel] using r
  | .ptrL b off g, v, k, r => by simp [AV.flat] at k
  | .ptrF cs off, v, k, r => by simp [AV.flat] at k
  | .slL b off len g, v, k, r => by simp [AV.flat] at k
  | .slF cs off len, v, k, r => by simp [AV.flat] at k
  | .slN cs len, v, k, r => by simp [AV.flat] at k
  | .slT b cs len g, v, k, r => by simp [AV.flat] at k
  | .agg cs, v, k, r => by
    simp only [VRel] at r ⊢
    obtain ⟨vs, rfl, hl⟩ := r
    exact ⟨vs, rfl, LRel.ofFlat cs vs (by simpa [AV.flat] using k) hl⟩
  | .tup cs, v, k, r => by
    simp only [VRel] at r ⊢
    obtain ⟨vs, rfl, hl⟩ := r
    exact ⟨vs, rfl, LRel.ofFlat cs vs (by simpa [AV.flat] using k) hl⟩
  | .ifc _ a, v, k, r => by
    simp only [VRel] at r ⊢
    obtain ⟨u, rfl, hk, hl⟩ := r
    exact ⟨u, rfl, hk, VRel.ofFlat a u (by simpa [AV.flat] using k) hl⟩
  | .fn _ fs cs, v, k, r => by
    simp only [VRel] at r ⊢
    simp only [AV.flat] at k
    obtain ⟨gs, ds, rfl, h1, h2⟩ := r
    exact ⟨gs, ds, rfl, LRel.ofFlat fs gs k.1 h1, LRel.ofFlat cs ds k.2 h2⟩
  | .mapL b g, v, k, r => by simp [AV.flat] at k
  | .mapF ks xs, v, k, r => by simp [AV.flat] at k
theorem LRel.ofFlat {E : Env} {c c' : Cx} : ∀ (xs : List AV) (vs : List Value), AV.flatL xs → LRel E c xs vs → LRel E c' xs vs
  | [], vs, _, r => by simpa [LRel] using r
  | x :: xs, vs, k, r => by
    simp only [LRel] at r ⊢
    simp only [AV.flatL] at k
    obtain ⟨u, us, rfl, h1, h2⟩ := r
    exact ⟨u, us, rfl, VRel.ofFlat x u k.1 h1, LRel.ofFlat xs us k.2 h2⟩
end

/-! ### freezing -/
def Cx.kill (c : Cx) (S : Nat → Bool) : Cx :=
  { c with gen := fun i => if S i then none else c.gen i, fz := fun k => c.fz k ∨ ∃ b, c.gen b ≠ none ∧ S b = true ∧ c.al b = k }
theorem Cx.kill_le (c : Cx) (S : Nat → Bool) : c.le (c.kill S) where
  ctr := Nat.le_refl _
  fz := fun _ h => ⟨.inl h, rfl⟩
  fc := fun _ _ h => ⟨.inr h, rfl⟩
  gen := fun b g hg e => by
    simp only [Cx.kill] at e ⊢
    split at e
    · cases e
    · simp [e]
  room := fun _ _ _ _ _ h => h
theorem Later.kill (c : Cx) (S : Nat → Bool) : Later c (c.kill S) where
  le := c.kill_le S
  os := rfl
  tape := rfl
  output := rfl
  size := Nat.le_refl _
  keep := fun _ _ _ => rfl
  own := fun b hb => .inl ⟨b, fun e => hb (by simp only [Cx.kill]; split <;> simp [e]), rfl⟩
  fz := fun k hk => by
    rcases hk with hk | ⟨b, hb, _, he⟩
    · exact .inl hk
    · exact .inr (.inr ⟨b, hb, he⟩)
  fc := fun _ _ h => .inl h

/-- what a value is told as -/
def Fk (H : AH) (S : Nat → Bool) (x x' : AV) : Prop := ∀ (E : Env) (c : Cx), HRel E c H → ∀ v, VRel E c x v → VRel E (c.kill S) x' v
inductive FkL (H : AH) (S : Nat → Bool) : List AV → List AV → Prop where
  | nil : FkL H S [] []
  | cons {x x' : AV} {xs xs' : List AV} : Fk H S x x' → FkL H S xs xs' → FkL H S (x :: xs) (x' :: xs')

theorem FkL.rel {H : AH} {S : Nat → Bool} {E : Env} {c : Cx} (hH : HRel E c H) : ∀ {xs xs' : List AV}, FkL H S xs xs' → ∀ {vs}, LRel E c xs vs → LRel E (c.kill S) xs' vs
  | [], _, .nil, vs, h => by simpa [LRel] using h
  | x :: xs, _, .cons h1 h2, vs, h => by
    simp only [LRel] at h ⊢
    obtain ⟨u, us, rfl, a, b⟩ := h
    exact ⟨u, us, rfl, h1 E c hH u a, FkL.rel hH h2 b⟩

theorem crel_of_cells {E : Env} {c : Cx} {xs : List AV} {vs : List Value} {b o : Nat} {arr : List Value} {e : TypeId} (h : LRel E c xs vs) (hf : c.fz b) (hw : c.w.heap[b]? = some (.cells arr.toArray e (0, 0))) (ha : ∀ i v, vs[i]? = some v → arr[o + i]? = some v) : CRel E c xs b o :=
  CRel.of fun i x hi => by
    obtain ⟨u, h1, h2⟩ := h.get hi
    refine ⟨.inl hf, u, ?_, h2⟩
    simp only [World.cell?, hw]
    simpa using ha i u h1

section
variable {H : AH} {S : Nat → Bool}
theorem Fk.same (x : AV) : Fk H S x x := fun _ c _ v h => VRel.le (c.kill_le S) x v h
theorem Fk.sub {x y : AV} (h : Sub x y) : Fk H S x y := fun E c _ v r => h E _ v (VRel.le (c.kill_le S) x v r)
theorem Fk.then {x y z : AV} (h : Fk H S x y) (k : Sub y z) : Fk H S x z := fun E c hH v r => k E _ v (h E c hH v r)
theorem FkL.same : ∀ xs : List AV, FkL H S xs xs
  | [] => .nil
  | _ :: xs => .cons (.same _) (FkL.same xs)
theorem FkL.append : ∀ {xs xs' ys ys' : List AV}, FkL H S xs xs' → FkL H S ys ys' → FkL H S (xs ++ ys) (xs' ++ ys')
  | _, _, _, _, .nil, h => h
  | _, _, _, _, .cons h1 h2, h => .cons h1 (FkL.append h2 h)
theorem Fk.agg {xs xs' : List AV} (h : FkL H S xs xs') : Fk H S (.agg xs) (.agg xs') := fun E c hH v r => by
  simp only [VRel] at r ⊢
  obtain ⟨vs, rfl, hl⟩ := r
  exact ⟨vs, rfl, h.rel hH hl⟩
theorem Fk.tup {xs xs' : List AV} (h : FkL H S xs xs') : Fk H S (.tup xs) (.tup xs') := fun E c hH v r => by
  simp only [VRel] at r ⊢
  obtain ⟨vs, rfl, hl⟩ := r
  exact ⟨vs, rfl, h.rel hH hl⟩
theorem Fk.ifc {k : Nat} {x x' : AV} (h : Fk H S x x') : Fk H S (.ifc k x) (.ifc k x') := fun E c hH v r => by
  simp only [VRel] at r ⊢
  obtain ⟨u, rfl, hk, hl⟩ := r
  exact ⟨u, rfl, hk, h E c hH u hl⟩
theorem Fk.fn {k : Nat} {fs fs' cs cs' : List AV} (h : FkL H S fs fs') (h' : FkL H S cs cs') : Fk H S (.fn k fs cs) (.fn k fs' cs') := fun E c hH v r => by
  simp only [VRel] at r ⊢
  obtain ⟨gs, ds, rfl, h1, h2⟩ := r
  exact ⟨gs, ds, rfl, h.rel hH h1, h'.rel hH h2⟩
theorem Fk.cells {b g sz : Nat} {cs ys : List AV} {off k : Nat} (hb : H.bs[b]? = some (.cells g sz cs)) (hs : S b = true) (hy : FkL H S ((cs.drop off).take k) ys)
    {E : Env} {c : Cx} (hH : HRel E c H) : CRel E (c.kill S) ys (c.al b) (c.base b + off) := by
  have hB := hH.blk b _ hb
  simp only [BRel] at hB
  obtain ⟨h1, h2, h3, arr, e, h4, h5, p0, pre, rest, rfl, h7, h8⟩ := hB
  refine crel_of_cells (hy.rel hH ((h8.drop off).take k)) (.inr ⟨b, by rw [h2]; simp, hs, rfl⟩) h4 fun i v hi => ?_
  rw [List.getElem?_take] at hi
  split at hi
  · rw [List.getElem?_drop] at hi
    have := lt_of_get hi
    rw [List.append_assoc, List.getElem?_append_right (by omega), ← hi, List.getElem?_append_left (by omega)]
    congr 1; omega
  · cases hi
/-- a slice of a block is frozen -/
theorem Fk.slF {b g sz : Nat} {cs ys : List AV} {off len : Nat} (k : Nat) (hb : H.bs[b]? = some (.cells g sz cs)) (hs : S b = true) (hy : FkL H S ((cs.drop off).take k) ys) : Fk H S (.slL b off len g) (.slF ys 0 len) := fun E c hH v r => by
  have q2 := Fk.cells hb hs hy hH
  simp only [VRel] at r ⊢
  obtain ⟨_, p, cap, rfl, hl, r⟩ := r
  refine ⟨p, cap, rfl, hl, (r (hH.live hb).1).imp id ?_⟩
  rintro ⟨rfl, _⟩
  exact ⟨c.al b, c.base b + off, by simp, q2⟩
theorem Fk.ptrF {b g sz : Nat} {cs ys : List AV} {off : Nat} (k : Nat) (hb : H.bs[b]? = some (.cells g sz cs)) (hs : S b = true) (hy : FkL H S ((cs.drop off).take k) ys) : Fk H S (.ptrL b off g) (.ptrF ys 0) := fun E c hH v r => by
  have q2 := Fk.cells hb hs hy hH
  simp only [VRel] at r ⊢
  obtain ⟨_, p, rfl, r⟩ := r
  rw [r (hH.live hb).1]
  exact ⟨c.al b, c.base b + off, by simp, q2⟩
theorem Fk.mapF {b g : Nat} {ks xs ks' xs' : List AV} (hb : H.bs[b]? = some (.map g ks xs)) (hs : S b = true) (hk : FkL H S ks ks') (hx : FkL H S xs xs') : Fk H S (.mapL b g) (.mapF ks' xs') := fun E c hH v r => by
  have hB := hH.blk b _ hb
  simp only [BRel] at hB
  obtain ⟨h1, h2, es, clock, h4, h5, h6⟩ := hB
  simp only [VRel] at r ⊢
  obtain ⟨_, p, rfl, r⟩ := r
  exact ⟨p, es, clock, rfl, .inr ⟨b, by rw [h2]; simp, hs, (r h2).symm⟩, by rw [r h2]; exact h4, hk.rel hH h5, hx.rel hH h6⟩
end

/-- a block that stays -/
def KB (H : AH) (S : Nat → Bool) : Blk → Blk → Prop
  | .cells g sz cs, .cells g1 sz1 cs1 => g1 = g ∧ sz1 = sz ∧ FkL H S (cs.take cs1.length) cs1
  | .map g ks xs, .map g1 ks1 xs1 => g1 = g ∧ FkL H S ks ks1 ∧ FkL H S xs xs1
  | .tail g sz, .tail g1 sz1 => g1 = g ∧ sz1 = sz
  | .obj g o, .obj g1 o1 => g1 = g ∧ o1 = o
  | .dead, .dead => True
  | _, _ => False
theorem KB.same {H : AH} {S : Nat → Bool} : ∀ x, KB H S x x
  | .cells _ _ _ => ⟨rfl, rfl, by rw [List.take_length]; exact FkL.same _⟩
  | .map _ _ _ => ⟨rfl, FkL.same _, FkL.same _⟩
  | .tail _ _ => ⟨rfl, rfl⟩
  | .obj _ _ => ⟨rfl, rfl⟩
  | .dead => trivial
/-- the cells behind are forgotten -/
theorem KB.cut {H : AH} {S : Nat → Bool} {g sz n : Nat} {cs : List AV} (h : n ≤ cs.length) : KB H S (.cells g sz cs) (.cells g sz (cs.take n)) :=
  ⟨rfl, rfl, by rw [List.length_take, Nat.min_eq_left h]; exact FkL.same _⟩
theorem KB.kind {H : AH} {S : Nat → Bool} {x x' : Blk} (h : KB H S x x') : (x' = .dead ↔ x = .dead) ∧ x'.isTail = x.isTail := by
  cases x <;> cases x' <;> simp_all [KB, Blk.isTail]
theorem KB.brel {H : AH} {S : Nat → Bool} {E : Env} {c : Cx} (hH : HRel E c H) {i : Nat} {x x' : Blk} (hx : H.bs[i]? = some x) (hs : S i = false) (h : KB H S x x') : BRel E (c.kill S) i x' := by
  have hB := hH.blk i x hx
  have hg : (c.kill S).gen i = c.gen i := by simp [Cx.kill, hs]
  cases x with
  | cells g sz cs =>
    cases x' with
    | cells g1 sz1 cs1 =>
      obtain ⟨rfl, rfl, h3⟩ := h
      obtain ⟨a1, a2, a3, arr, e, a4, a5, p0, pre, rest, a6, a7, a8⟩ := hB
      exact ⟨a1, hg.trans a2, a3, arr, e, a4, a5, p0, pre.take cs1.length, pre.drop cs1.length ++ rest, by rw [a6, List.append_assoc, List.append_assoc, ← List.append_assoc (pre.take _), List.take_append_drop], a7, h3.rel hH (a8.take _)⟩
    | _ => exact h.elim
  | map g ks vs =>
    cases x' with
    | map g1 ks1 vs1 =>
      obtain ⟨rfl, h3, h4⟩ := h
      obtain ⟨a1, a2, es, clock, a4, a5, a6⟩ := hB
      exact ⟨a1, hg.trans a2, es, clock, a4, h3.rel hH a5, h4.rel hH a6⟩
    | _ => exact h.elim
  | tail g sz =>
    cases x' with
    | tail g1 sz1 =>
      obtain ⟨rfl, rfl⟩ := h
      obtain ⟨a1, a2, a3⟩ := hB
      exact ⟨a1, hg.trans a2, a3⟩
    | _ => exact h.elim
  | obj g o =>
    cases x' with
    | obj g1 o1 =>
      obtain ⟨rfl, rfl⟩ := h
      obtain ⟨a1, a2, a3⟩ := hB
      exact ⟨a1, hg.trans a2, a3⟩
    | _ => exact h.elim
  | dead =>
    cases x' with
    | dead => exact hg.trans hB
    | _ => exact h.elim

/-- what a list of blocks is told as: block by block, from the i-th on -/
inductive KBL (H : AH) (S : Nat → Bool) : Nat → List Blk → List Blk → Prop where
  | nil {i : Nat} : KBL H S i [] []
  | keep {i : Nat} {x x' : Blk} {l l' : List Blk} : S i = false → KB H S x x' → KBL H S (i + 1) l l' → KBL H S i (x :: l) (x' :: l')
  | dead {i : Nat} {x : Blk} {l l' : List Blk} : S i = true → KBL H S (i + 1) l l' → KBL H S i (x :: l) (.dead :: l')
  | cut {i : Nat} {l : List Blk} : (∀ j x, l[j]? = some x → S (i + j) = true ∨ x = .dead) → KBL H S i l []
  | room {i : Nat} {l' : List Blk} : (∀ x ∈ l', x = .dead) → KBL H S i [] l'
theorem KBL.get {H : AH} {S : Nat → Bool} {i : Nat} {l l' : List Blk} (h : KBL H S i l l') : ∀ (j : Nat),
    (∀ x', l'[j]? = some x' → (x' = .dead ∧ (S (i + j) = true ∨ l[j]? = none)) ∨ (∃ x, l[j]? = some x ∧ S (i + j) = false ∧ KB H S x x')) ∧
    (l'[j]? = none → ∀ x, l[j]? = some x → S (i + j) = true ∨ x = .dead) := by
  induction h with
  | nil => intro j; simp
  | keep h1 h2 _ ih =>
    intro j
    cases j with
    | zero => simp; exact .inr ⟨h1, h2⟩
    | succ j =>
      have := ih j
      simpa [Nat.add_assoc, Nat.add_comm 1 j] using this
  | dead h1 _ ih =>
    intro j
    cases j with
    | zero => simp [h1]
    | succ j =>
      have := ih j
      simpa [Nat.add_assoc, Nat.add_comm 1 j] using this
  | cut h =>
    intro j
    simpa using h j
  | room h =>
    intro j
    refine ⟨fun x' hx => .inl ⟨h x' (List.mem_of_getElem? hx), .inr (by simp)⟩, fun _ x hx => by simp at hx⟩

theorem ghost_kill {H H' : AH} {S : Nat → Bool} (hc : H'.ctr = H.ctr) (h : KBL H S 0 H.bs H'.bs) {xs xs' : List AV} (hx : FkL H S xs xs') : Ghost xs H xs' H' := by
  intro E c hH
  have hle := c.kill_le S
  have hget := h.get
  simp only [Nat.zero_add] at hget
  have hg : ∀ i, (c.kill S).gen i ≠ none → c.gen i ≠ none ∧ S i = false := by
    intro i hi
    simp only [Cx.kill] at hi
    split at hi
    · exact absurd rfl hi
    · rename_i hs; exact ⟨hi, by simpa using hs⟩
  refine ⟨c.kill S, rfl, Later.kill c S, ⟨by rw [hc]; exact hH.ctr, ?_, ?_, ?_, ?_, ?_, ?_, ?_, ?_, hH.globLe hle⟩, fun vs r => hx.rel hH r⟩
  · intro i hi
    simp only [Cx.kill]
    split
    · rfl
    · rename_i hs
      cases hx : H.bs[i]? with
      | none => exact hH.out i hx
      | some x =>
        rcases (hget i).2 hi x hx with h1 | rfl
        · exact absurd h1 hs
        · exact hH.blk i _ hx
  · intro i x' hi
    rcases (hget i).1 x' hi with ⟨rfl, h1⟩ | ⟨x, h1, h2, h3⟩
    · show (c.kill S).gen i = none
      simp only [Cx.kill]
      rcases h1 with h1 | h1
      · simp [h1]
      · rw [hH.out i h1]; simp
    · exact h3.brel hH h1 h2
  · intro i hi hfz
    obtain ⟨h1, h2⟩ := hg i hi
    rcases hfz with hfz | ⟨b, hb, hs, he⟩
    · exact hH.apart i h1 hfz
    · have := hH.inj b i hb h1 he
      subst this
      rw [h2] at hs; cases hs
  · intro i x' hi hd ht j
    rcases (hget i).1 x' hi with ⟨rfl, h1⟩ | ⟨x, h1, h2, h3⟩
    · exact absurd rfl hd
    · obtain ⟨k1, k2⟩ := h3.kind
      exact hH.solid i x h1 (fun e => hd (k1.2 e)) (k2 ▸ ht) j
  · intro i j hi hj he
    exact hH.inj i j (hg i hi).1 (hg j hj).1 he
  · intro i hi
    exact hH.lt i (hg i hi).1
  · intro k hk
    rcases hk with hk | ⟨b, hb, _, he⟩
    · exact hH.fzlt k hk
    · rw [← he]; exact hH.lt b hb
  · exact hH.fclt

def S0 : Nat → Bool := fun _ => true
/-- all blocks are frozen -/
theorem ghost_all {H : AH} {xs xs' : List AV} (hx : FkL H S0 xs xs') : Ghost xs H xs' ⟨[], H.ctr⟩ :=
  ghost_kill (H := H) (H' := ⟨[], H.ctr⟩) (S := S0) rfl (.cut fun _ _ _ => .inl rfl) hx
theorem ghost_sub {H : AH} {xs xs' : List AV} (h : SubL xs xs') : Ghost xs H xs' H := fun _ c hH => ⟨c, rfl, Later.refl c, hH, fun _ r => h.rel r⟩

/-! ### contracts -/
section
variable {E : Env} {P : Program}
theorem ACalls.mono {k : Nat} {args : List AV} {H : AH} {R R' : Kt} (h : ACalls E P k args H R) (hR : ∀ r H', R r H' → ∃ r' H'', Ghost [r] H' [r'] H'' ∧ R' r' H'') : ACalls E P k args H R' := by
  intro c vs hH hv o a next Q hn
  refine h c vs hH hv o a next Q fun v w' hvw => hn v w' ?_
  obtain ⟨r, c', H', rfl, h1, h2, h3, h4⟩ := hvw
  obtain ⟨r', H'', hg, hr⟩ := hR r H' h1
  obtain ⟨c'', g1, g2, g3, g4⟩ := hg E c' h2
  have := g4 [v] (by simp only [LRel]; exact ⟨v, [], rfl, h3, rfl⟩)
  simp only [LRel] at this
  obtain ⟨u, us, he, hu, _⟩ := this
  injection he with he _
  subst he
  exact ⟨r', c'', H'', g1, hr, g3, hu, h4.trans g2⟩
theorem ACalls.args {k : Nat} {args args' : List AV} {H H' : AH} {R : Kt} (hg : Ghost args H args' H') (h : ACalls E P k args' H' R) : ACalls E P k args H R := by
  intro c vs hH hv o a next Q hn
  obtain ⟨c', g1, g2, g3, g4⟩ := hg E c hH
  rw [← g1]
  refine h c' vs g3 (g4 vs hv) o a next Q fun v w' hvw => hn v w' ?_
  obtain ⟨r, c'', H'', rfl, h1, h2, h3, h4⟩ := hvw
  exact ⟨r, c'', H'', rfl, h1, h2, h3, g2.trans h4⟩

/-- what a call comes to: of blocks 'B' of the caller's, that it may write -/
structure LC (E : Env) (P : Program) (k : Nat) (B : List Blk) (args : List AV) (R0 : AV → List Blk → Prop) : Prop where
  ok : ∀ n, ACalls E P k args ⟨B, n⟩ fun r H' => R0 r H'.bs ∧ H'.bs.length = B.length
theorem LC.mono {k : Nat} {B : List Blk} {args : List AV} {R0 R1 : AV → List Blk → Prop} (h : LC E P k B args R0) (hR : ∀ r B', R0 r B' → R1 r B') : LC E P k B args R1 where
  ok := fun n => (h.ok n).mono fun r H' hr => ⟨r, H', .refl _ _, hR _ _ hr.1, hr.2⟩
/-- of a body -/
theorem LC.of {k : Nat} {B : List Blk} {args : List AV} {R0 : AV → List Blk → Prop}
    (h : ∀ n (R : Kt), (∀ r r' B' (H H' : AH), Ghost [r] H [r'] H' → H'.bs = B' → R0 r' B' → B'.length = B.length → R r H) → ACalls E P k args ⟨B, n⟩ R) : LC E P k B args R0 where
  ok := fun n => (h n (fun r H => ∃ r' H', Ghost [r] H [r'] H' ∧ R0 r' H'.bs ∧ H'.bs.length = B.length) fun r r' B' H H' hg hb hr hl => ⟨r', H', hg, by rw [hb]; exact hr, by rw [hb]; exact hl⟩).mono fun r H' ⟨r', H'', h1, h2, h3⟩ => ⟨r', H'', h1, h2, h3⟩
end
end Go.Sc
namespace Go.Sc
open Go

mutual
/-- blocks told by other numbers -/
def AV.ren (f : Nat → Nat) : AV → AV
  | .junk => .junk
  | .val v => .val v
  | .ptrL b off g => .ptrL (f b) off g
  | .ptrF cs off => .ptrF (AV.renL f cs) off
  | .slL b off len g => .slL (f b) off len g
  | .slF cs off len => .slF (AV.renL f cs) off len
  | .slN cs len => .slN (AV.renL f cs) len
  | .slT b cs len g => .slT (f b) (AV.renL f cs) len g
  | .agg cs => .agg (AV.renL f cs)
  | .tup cs => .tup (AV.renL f cs)
  | .ifc k a => .ifc k (AV.ren f a)
  | .fn k fs cs => .fn k (AV.renL f fs) (AV.renL f cs)
  | .mapL b g => .mapL (f b) g
  | .mapF ks xs => .mapF (AV.renL f ks) (AV.renL f xs)
def AV.renL (f : Nat → Nat) : List AV → List AV
  | [] => []
  | x :: xs => AV.ren f x :: AV.renL f xs
end
def Blk.ren (f : Nat → Nat) : Blk → Blk
  | .cells g sz cs => .cells g sz (AV.renL f cs)
  | .map g ks xs => .map g (AV.renL f ks) (AV.renL f xs)
  | .tail g sz => .tail g sz
  | .obj g o => .obj g o
  | .dead => .dead
theorem Blk.ren_dead {f : Nat → Nat} {x : Blk} : x.ren f = .dead ↔ x = .dead := by cases x <;> simp [Blk.ren]
theorem Blk.ren_tail {f : Nat → Nat} {x : Blk} : (x.ren f).isTail = x.isTail := by cases x <;> rfl
mutual
theorem AV.ren_closed {f : Nat → Nat} : ∀ (a : AV), a.closed → a.ren f = a
  | .junk, _ => rfl
  | .val _, _ => rfl
  | .ptrL _ _ _, h => by simp [AV.closed] at h
  | .ptrF cs off, h => by simp only [AV.ren, AV.closed] at h ⊢; rw [AV.renL_closed cs h]
  | .slL _ _ _ _, h => by simp [AV.closed] at h
  | .slF cs _ _, h => by simp only [AV.ren, AV.closed] at h ⊢; rw [AV.renL_closed cs h]
  | .slN cs _, h => by simp only [AV.ren, AV.closed] at h ⊢; rw [AV.renL_closed cs h]
  | .slT _ _ _ _, h => by simp [AV.closed] at h
  | .agg cs, h => by simp only [AV.ren, AV.closed] at h ⊢; rw [AV.renL_closed cs h]
  | .tup cs, h => by simp only [AV.ren, AV.closed] at h ⊢; rw [AV.renL_closed cs h]
  | .ifc k a, h => by simp only [AV.ren, AV.closed] at h ⊢; rw [AV.ren_closed a h]
  | .fn k fs cs, h => by simp only [AV.ren, AV.closed] at h ⊢; rw [AV.renL_closed fs h.1, AV.renL_closed cs h.2]
  | .mapL _ _, h => by simp [AV.closed] at h
  | .mapF ks xs, h => by simp only [AV.ren, AV.closed] at h ⊢; rw [AV.renL_closed ks h.1, AV.renL_closed xs h.2]
theorem AV.renL_closed {f : Nat → Nat} : ∀ (l : List AV), AV.closedL l → AV.renL f l = l
  | [], _ => rfl
  | x :: xs, h => by simp only [AV.renL, AV.closedL] at h ⊢; rw [AV.ren_closed x h.1, AV.renL_closed xs h.2]
end
theorem AV.renL_map (f : Nat → Nat) : ∀ l : List AV, AV.renL f l = l.map (AV.ren f)
  | [] => rfl
  | x :: xs => by simp [AV.renL, AV.renL_map f xs]
theorem AV.renL_length (f : Nat → Nat) (l : List AV) : (AV.renL f l).length = l.length := by simp [AV.renL_map]

/-- a context and one that sees some of its blocks -/
structure Cx.Sees (f : Nat → Nat) (c c0 : Cx) : Prop where
  ctr : c.ctr = c0.ctr
  fz : ∀ b, c.fz b → c0.fz b ∧ c0.w.heap[b]? = c.w.heap[b]?
  fc : ∀ b o, c.fc b o → c0.fc b o ∧ c0.w.cell? ⟨b, o, none⟩ = c.w.cell? ⟨b, o, none⟩
  fc' : ∀ i, c0.gen i ≠ none → ∀ j, c0.fc (c.al (f i)) j → c.fc (c.al (f i)) j
  gen : ∀ i g, c0.gen i = some g → c.gen (f i) = some g ∧ c0.al i = c.al (f i) ∧ c0.base i = c.base (f i) ∧ c0.sz i = c.sz (f i) ∧ c0.csz i = c.csz (f i)

mutual
theorem VRel.see {E : Env} {f : Nat → Nat} {c c0 : Cx} (h : c.Sees f c0) : ∀ (a : AV) (v : Value), VRel E c (a.ren f) v → VRel E c0 a v
  | .junk, _, _ => by simp [VRel]
  | .val u, v, r => by simpa [VRel, AV.ren] using r
  | .ptrL b off g, v, r => by
    simp only [VRel, AV.ren] at r ⊢
    obtain ⟨hg, p, rfl, r⟩ := r
    exact ⟨h.ctr ▸ hg, p, rfl, fun e => by obtain ⟨e1, e2, e3, -⟩ := h.gen b g e; rw [e2, e3]; exact r e1⟩
  | .ptrF cs off, v, r => by
    simp only [VRel, AV.ren] at r ⊢
    obtain ⟨b, o, rfl, hc⟩ := r
    exact ⟨b, o, rfl, CRel.see h cs b o hc⟩
  | .slL b off len g, v, r => by
    simp only [VRel, AV.ren] at r ⊢
    obtain ⟨hg, p, cap, rfl, hl, r⟩ := r
    exact ⟨h.ctr ▸ hg, p, cap, rfl, hl, fun e => by obtain ⟨e1, e2, e3, e4, e5⟩ := h.gen b g e; rw [e2, e3, e4, e5]; exact r e1⟩
  | .slF cs off len, v, r => by
    simp only [VRel, AV.ren] at r ⊢
    obtain ⟨p, cap, rfl, hl, r⟩ := r
    refine ⟨p, cap, rfl, hl, r.imp id ?_⟩
    rintro ⟨b, o, rfl, hc⟩
    exact ⟨b, o, rfl, CRel.see h cs b o hc⟩
  | .slN cs len, v, r => by
    simp only [VRel, AV.ren] at r ⊢
    refine r.imp id ?_
    rintro ⟨p, cap, rfl, hl, r⟩
    refine ⟨p, cap, rfl, hl, r.imp id ?_⟩
    rintro ⟨b, o, rfl, hc⟩
    exact ⟨b, o, rfl, CRel.see h cs b o hc⟩
  | .slT b cs len g, v, r => by
    simp only [VRel, AV.ren] at r ⊢
    obtain ⟨hg, p, cap, rfl, hl, r⟩ := r
    refine ⟨h.ctr ▸ hg, p, cap, rfl, hl, r.imp id ?_⟩
    rintro ⟨k, o, rfl, hc, r⟩
    refine ⟨k, o, rfl, CRel.see h cs k o hc, fun e => ?_⟩
    obtain ⟨e1, e2, e3, e4, e5⟩ := h.gen b g e
    obtain ⟨r1, r2, r3⟩ := r e1
    refine ⟨r1.trans e2.symm, fun j hj hf => r2 j (by rwa [AV.renL_length]) ?_, by rw [e4, e5]; exact r3⟩
    rw [r1] at hf ⊢
    exact h.fc' b (by rw [e]; simp) j hf
  | .agg cs, v, r => by
    simp only [VRel, AV.ren] at r ⊢
    obtain ⟨vs, rfl, hl⟩ := r
    exact ⟨vs, rfl, LRel.see h cs vs hl⟩
  | .tup cs, v, r => by
    simp only [VRel, AV.ren] at r ⊢
    obtain ⟨vs, rfl, hl⟩ := r
    exact ⟨vs, rfl, LRel.see h cs vs hl⟩
  | .ifc k a, v, r => by
    simp only [VRel, AV.ren] at r ⊢
    obtain ⟨u, rfl, hk, hl⟩ := r
    exact ⟨u, rfl, hk, VRel.see h a u hl⟩
  | .fn k fs cs, v, r => by
    simp only [VRel, AV.ren] at r ⊢
    obtain ⟨gs, ds, rfl, h1, h2⟩ := r
    exact ⟨gs, ds, rfl, LRel.see h fs gs h1, LRel.see h cs ds h2⟩
  | .mapL b g, v, r => by
    simp only [VRel, AV.ren] at r ⊢
    obtain ⟨hg, p, rfl, r⟩ := r
    exact ⟨h.ctr ▸ hg, p, rfl, fun e => by obtain ⟨e1, e2, -⟩ := h.gen b g e; rw [e2]; exact r e1⟩
  | .mapF ks xs, v, r => by
    simp only [VRel, AV.ren] at r ⊢
    obtain ⟨m, es, clock, rfl, hf, hm, h1, h2⟩ := r
    exact ⟨m, es, clock, rfl, (h.fz m hf).1, by rw [(h.fz m hf).2]; exact hm, LRel.see h ks _ h1, LRel.see h xs _ h2⟩
theorem LRel.see {E : Env} {f : Nat → Nat} {c c0 : Cx} (h : c.Sees f c0) : ∀ (xs : List AV) (vs : List Value), LRel E c (AV.renL f xs) vs → LRel E c0 xs vs
  | [], vs, r => by simpa [LRel, AV.renL] using r
  | x :: xs, vs, r => by
    simp only [LRel, AV.renL] at r ⊢
    obtain ⟨u, us, rfl, h1, h2⟩ := r
    exact ⟨u, us, rfl, VRel.see h x u h1, LRel.see h xs us h2⟩
theorem CRel.see {E : Env} {f : Nat → Nat} {c c0 : Cx} (h : c.Sees f c0) : ∀ (xs : List AV) (b o : Nat), CRel E c (AV.renL f xs) b o → CRel E c0 xs b o
  | [], _, _, _ => by simp [CRel]
  | x :: xs, b, o, r => by
    simp only [CRel, AV.renL] at r ⊢
    obtain ⟨⟨hf, u, h1, h2⟩, h3⟩ := r
    refine ⟨?_, CRel.see h xs b (o + 1) h3⟩
    rcases hf with hf | hf
    · obtain ⟨k1, k2⟩ := h.fz b hf
      exact ⟨.inl k1, u, by rw [cell_of_heap k2]; exact h1, VRel.see h x u h2⟩
    · obtain ⟨k1, k2⟩ := h.fc b o hf
      exact ⟨.inr k1, u, by rw [k2]; exact h1, VRel.see h x u h2⟩
end

/-- a context that is seen by another's numbers -/
structure Cx.Back (f : Nat → Nat) (c1 c2 : Cx) : Prop where
  w : c2.w = c1.w
  ctr : c2.ctr = c1.ctr
  fz : ∀ b, c1.fz b → c2.fz b
  fc : ∀ b o, c1.fc b o ↔ c2.fc b o
  gen : ∀ i g, c2.gen (f i) = some g → c1.gen i = some g ∧ c1.al i = c2.al (f i) ∧ c1.base i = c2.base (f i) ∧ c1.sz i = c2.sz (f i) ∧ c1.csz i = c2.csz (f i)
mutual
theorem VRel.back {E : Env} {f : Nat → Nat} {c1 c2 : Cx} (h : c1.Back f c2) : ∀ (a : AV) (v : Value), VRel E c1 a v → VRel E c2 (a.ren f) v
  | .junk, _, _ => by simp [VRel, AV.ren]
  | .val u, v, r => by simpa [VRel, AV.ren] using r
  | .ptrL b off g, v, r => by
    simp only [VRel, AV.ren] at r ⊢
    obtain ⟨hg, p, rfl, r⟩ := r
    exact ⟨h.ctr ▸ hg, p, rfl, fun e => by obtain ⟨e1, e2, e3, -⟩ := h.gen b g e; rw [← e2, ← e3]; exact r e1⟩
  | .ptrF cs off, v, r => by
    simp only [VRel, AV.ren] at r ⊢
    obtain ⟨b, o, rfl, hc⟩ := r
    exact ⟨b, o, rfl, CRel.back h cs b o hc⟩
  | .slL b off len g, v, r => by
    simp only [VRel, AV.ren] at r ⊢
    obtain ⟨hg, p, cap, rfl, hl, r⟩ := r
    exact ⟨h.ctr ▸ hg, p, cap, rfl, hl, fun e => by obtain ⟨e1, e2, e3, e4, e5⟩ := h.gen b g e; rw [← e2, ← e3, ← e4, ← e5]; exact r e1⟩
  | .slF cs off len, v, r => by
    simp only [VRel, AV.ren] at r ⊢
    obtain ⟨p, cap, rfl, hl, r⟩ := r
    refine ⟨p, cap, rfl, hl, r.imp id ?_⟩
    rintro ⟨b, o, rfl, hc⟩
    exact ⟨b, o, rfl, CRel.back h cs b o hc⟩
  | .slN cs len, v, r => by
    simp only [VRel, AV.ren] at r ⊢
    refine r.imp id ?_
    rintro ⟨p, cap, rfl, hl, r⟩
    refine ⟨p, cap, rfl, hl, r.imp id ?_⟩
    rintro ⟨b, o, rfl, hc⟩
    exact ⟨b, o, rfl, CRel.back h cs b o hc⟩
  | .slT b cs len g, v, r => by
    simp only [VRel, AV.ren] at r ⊢
    obtain ⟨hg, p, cap, rfl, hl, r⟩ := r
    refine ⟨h.ctr ▸ hg, p, cap, rfl, hl, r.imp id ?_⟩
    rintro ⟨k, o, rfl, hc, r⟩
    refine ⟨k, o, rfl, CRel.back h cs k o hc, fun e => ?_⟩
    obtain ⟨e1, e2, e3, e4, e5⟩ := h.gen b g e
    obtain ⟨r1, r2, r3⟩ := r e1
    exact ⟨r1.trans e2, fun j hj hf => r2 j (by rwa [AV.renL_length] at hj) ((h.fc _ _).2 hf), by rw [← e4, ← e5]; exact r3⟩
  | .agg cs, v, r => by
    simp only [VRel, AV.ren] at r ⊢
    obtain ⟨vs, rfl, hl⟩ := r
    exact ⟨vs, rfl, LRel.back h cs vs hl⟩
  | .tup cs, v, r => by
    simp only [VRel, AV.ren] at r ⊢
    obtain ⟨vs, rfl, hl⟩ := r
    exact ⟨vs, rfl, LRel.back h cs vs hl⟩
  | .ifc k a, v, r => by
    simp only [VRel, AV.ren] at r ⊢
    obtain ⟨u, rfl, hk, hl⟩ := r
    exact ⟨u, rfl, hk, VRel.back h a u hl⟩
  | .fn k fs cs, v, r => by
    simp only [VRel, AV.ren] at r ⊢
    obtain ⟨gs, ds, rfl, h1, h2⟩ := r
    exact ⟨gs, ds, rfl, LRel.back h fs gs h1, LRel.back h cs ds h2⟩
  | .mapL b g, v, r => by
    simp only [VRel, AV.ren] at r ⊢
    obtain ⟨hg, p, rfl, r⟩ := r
    exact ⟨h.ctr ▸ hg, p, rfl, fun e => by obtain ⟨e1, e2, -⟩ := h.gen b g e; rw [← e2]; exact r e1⟩
  | .mapF ks xs, v, r => by
    simp only [VRel, AV.ren] at r ⊢
    obtain ⟨m, es, clock, rfl, hf, hm, h1, h2⟩ := r
    exact ⟨m, es, clock, rfl, h.fz m hf, by rw [h.w]; exact hm, LRel.back h ks _ h1, LRel.back h xs _ h2⟩
theorem LRel.back {E : Env} {f : Nat → Nat} {c1 c2 : Cx} (h : c1.Back f c2) : ∀ (xs : List AV) (vs : List Value), LRel E c1 xs vs → LRel E c2 (AV.renL f xs) vs
  | [], vs, r => by simpa [LRel, AV.renL] using r
  | x :: xs, vs, r => by
    simp only [LRel, AV.renL] at r ⊢
    obtain ⟨u, us, rfl, h1, h2⟩ := r
    exact ⟨u, us, rfl, VRel.back h x u h1, LRel.back h xs us h2⟩
theorem CRel.back {E : Env} {f : Nat → Nat} {c1 c2 : Cx} (h : c1.Back f c2) : ∀ (xs : List AV) (b o : Nat), CRel E c1 xs b o → CRel E c2 (AV.renL f xs) b o
  | [], _, _, _ => by simp [CRel, AV.renL]
  | x :: xs, b, o, r => by
    simp only [CRel, AV.renL] at r ⊢
    obtain ⟨⟨hf, u, h1, h2⟩, h3⟩ := r
    exact ⟨⟨hf.imp (h.fz b) (h.fc b o).1, u, by rw [h.w]; exact h1, VRel.back h x u h2⟩, CRel.back h xs b (o + 1) h3⟩
end

/-- numbers: the callee's i is the caller's mv[i]; beyond them there is none -/
def rmap (mv : List Nat) (n : Nat) (i : Nat) : Nat := mv.getD i n
/-- blocks put back -/
def setL : List Blk → List Nat → List Blk → List Blk
  | l, i :: mv, x :: xs => setL (l.set i x) mv xs
  | l, _, _ => l
theorem setL_length : ∀ (l : List Blk) (mv : List Nat) (xs : List Blk), (setL l mv xs).length = l.length
  | l, [], _ => by simp [setL]
  | l, _ :: _, [] => by simp [setL]
  | l, i :: mv, x :: xs => by simp only [setL]; rw [setL_length]; simp
theorem setL_out : ∀ (mv : List Nat) (l : List Blk) (xs : List Blk) (b : Nat), b ∉ mv → (setL l mv xs)[b]? = l[b]?
  | [], l, _, b, _ => by simp [setL]
  | _ :: _, l, [], b, _ => by simp [setL]
  | i :: mv, l, x :: xs, b, h => by
    simp only [List.mem_cons, not_or] at h
    simp only [setL]
    rw [setL_out mv _ xs b h.2, List.getElem?_set_ne (Ne.symm h.1)]
theorem setL_in : ∀ (mv : List Nat) (l : List Blk) (xs : List Blk) (i b : Nat), mv.Nodup → mv.length = xs.length → mv[i]? = some b → b < l.length → (setL l mv xs)[b]? = xs[i]?
  | [], l, _, i, b, _, _, h, _ => by simp at h
  | _ :: _, l, [], i, b, _, hl, _, _ => by simp at hl
  | j :: mv, l, x :: xs, i, b, hn, hl, h, hb => by
    simp only [List.nodup_cons] at hn
    simp only [setL]
    cases i with
    | zero =>
      simp at h; subst h
      rw [setL_out mv _ xs j hn.1]
      simp [hb]
    | succ i =>
      simp at h
      rw [setL_in mv _ xs i b hn.2 (by simpa using hl) h (by simpa using hb)]
      simp

section
variable {E : Env} {P : Program}
theorem getD_get {mv : List Nat} {i b n : Nat} (h : mv[i]? = some b) : rmap mv n i = b := by simp [rmap, List.getD, h]
theorem rmap_out {mv : List Nat} {i n : Nat} (h : mv.length ≤ i) : rmap mv n i = n := by simp [rmap, List.getD, List.getElem?_eq_none h]

set_option maxHeartbeats 1000000 in
/-- A CALL THAT SEES SOME BLOCKS. -/
theorem ACalls.frame {k : Nat} {mv : List Nat} {B : List Blk} {args0 args : List AV} {H : AH} {R0 : AV → List Blk → Prop} (h : ∀ n, ACalls E P k args0 ⟨B, n⟩ fun r H' => R0 r H'.bs ∧ H'.bs.length = B.length)
    (hn : mv.Nodup) (hl : mv.length = B.length) (hB : ∀ (i : Nat) b x, mv[i]? = some b → B[i]? = some x → H.bs[b]? = some (x.ren (rmap mv H.bs.length))) (ha : args = AV.renL (rmap mv H.bs.length) args0) :
    ACalls E P k args H fun r H' => ∃ r0 B' n, R0 r0 B' ∧ B'.length = B.length ∧ r = r0.ren (rmap mv H.bs.length) ∧ H' = ⟨setL H.bs mv (B'.map (Blk.ren (rmap mv H.bs.length))), n⟩ := by
  intro c vs hH hv o a next Q hnext
  generalize hf : rmap mv H.bs.length = f at *
  have hmv : ∀ i, i < mv.length → mv[i]? = some (f i) := fun i hi => by rw [← hf]; simp [rmap, List.getD, List.getElem?_eq_getElem hi]
  have hmvb : ∀ i, i < mv.length → f i < H.bs.length := fun i hi => by
    have := hB i _ _ (hmv i hi) (List.getElem?_eq_getElem (by omega))
    exact lt_of_get this
  have hout : ∀ i, mv.length ≤ i → f i = H.bs.length := fun i hi => by rw [← hf]; exact rmap_out hi
  have hfin : ∀ i j, i < mv.length → j < mv.length → f i = f j → i = j := by
    intro i j hi hj he
    have h1 := hmv i hi
    have h2 := hmv j hj
    rw [List.getElem?_eq_getElem hi] at h1
    rw [List.getElem?_eq_getElem hj] at h2
    injection h1 with h1
    injection h2 with h2
    exact (List.getElem_inj hn).1 (by rw [h1, h2, he])
  let c0 : Cx := { w := c.w, al := fun i => c.al (f i), base := fun i => c.base (f i), gen := fun i => if i < mv.length then c.gen (f i) else none, sz := fun i => c.sz (f i), csz := fun i => c.csz (f i), fz := c.fz, fc := c.fc, ctr := c.ctr }
  have hgen0 : ∀ i, c0.gen i ≠ none → i < mv.length ∧ c.gen (f i) ≠ none := by
    intro i hi
    simp only [c0] at hi
    split at hi
    · exact ⟨by assumption, hi⟩
    · exact absurd rfl hi
  have hsee : c.Sees f c0 := ⟨rfl, fun _ hb => ⟨hb, rfl⟩, fun _ _ hb => ⟨hb, rfl⟩, fun _ _ _ hj => hj, fun i g e => by
    have := hgen0 i (by rw [e]; simp)
    simp only [c0, if_pos this.1] at e
    exact ⟨e, rfl, rfl, rfl, rfl⟩⟩
  have hBx : ∀ (i : Nat) x, B[i]? = some x → i < mv.length ∧ H.bs[f i]? = some (x.ren f) := fun i x hx => by
    have hi : i < mv.length := by rw [hl]; exact lt_of_get hx
    exact ⟨hi, hB i _ x (hmv i hi) hx⟩
  have hH0 : HRel E c0 ⟨B, c.ctr⟩ := by
    refine ⟨rfl, ?_, ?_, ?_, ?_, ?_, ?_, hH.fzlt, hH.fclt, fun g cs e => ⟨(hH.glob g cs e).1, CRel.see hsee _ _ _ (by rw [AV.renL_closed cs (hH.glob g cs e).1]; exact (hH.glob g cs e).2)⟩⟩
    · intro i hi
      have : mv.length ≤ i := by rw [hl]; simpa using hi
      simp only [c0, if_neg (show ¬ i < mv.length by omega)]
    · intro i x hx
      obtain ⟨hi, hx'⟩ := hBx i x hx
      have hb := hH.blk _ _ hx'
      have hg : c0.gen i = c.gen (f i) := by simp only [c0, if_pos hi]
      cases x with
      | cells g sz cs =>
        obtain ⟨a1, a2, a3, arr, e, a4, a5, p0, pre, rest, a6, a7, a8⟩ := hb
        exact ⟨a1, hg.trans a2, a3, arr, e, a4, a5, p0, pre, rest, a6, a7, LRel.see hsee _ _ a8⟩
      | map g ks xs =>
        obtain ⟨a1, a2, es, clock, a4, a5, a6⟩ := hb
        exact ⟨a1, hg.trans a2, es, clock, a4, LRel.see hsee _ _ a5, LRel.see hsee _ _ a6⟩
      | tail g sz =>
        obtain ⟨a1, a2, a3⟩ := hb
        exact ⟨a1, hg.trans a2, a3⟩
      | obj g o =>
        obtain ⟨a1, a2, a3⟩ := hb
        exact ⟨a1, hg.trans a2, a3⟩
      | dead => exact hg.trans hb
    · intro i hi
      exact hH.apart _ (hgen0 i hi).2
    · intro i x hx hd ht j
      obtain ⟨hi, hx'⟩ := hBx i x hx
      exact hH.solid _ _ hx' (fun e => hd (Blk.ren_dead.1 e)) (by rw [Blk.ren_tail]; exact ht) j
    · intro i j hi hj he
      exact hfin i j (hgen0 i hi).1 (hgen0 j hj).1 (hH.inj _ _ (hgen0 i hi).2 (hgen0 j hj).2 he)
    · intro i hi
      exact hH.lt _ (hgen0 i hi).2
  refine h c.ctr c0 vs hH0 (LRel.see hsee _ _ (ha ▸ hv)) o a next Q fun v w' hvw => hnext v w' ?_
  obtain ⟨r0, c1, H1, rfl, ⟨hR, hlen1⟩, hH1, hr1, hL⟩ := hvw
  have hc1in : ∀ i, c1.gen i ≠ none → i < mv.length := by
    intro i hi
    obtain ⟨x, hx⟩ := hH1.gen_lt hi
    have := lt_of_get hx
    omega
  classical
  let pos : Nat → Nat := fun b => mv.idxOf b
  have hpos : ∀ i, i < mv.length → f i ∈ mv ∧ pos (f i) = i := by
    intro i hi
    have hm : f i ∈ mv := List.mem_of_getElem? (hmv i hi)
    refine ⟨hm, ?_⟩
    have hlt : mv.idxOf (f i) < mv.length := List.idxOf_lt_length_iff.2 hm
    have h1 : mv[mv.idxOf (f i)] = f i := List.getElem_idxOf hlt
    have h2 := hmv (mv.idxOf (f i)) hlt
    rw [List.getElem?_eq_getElem hlt, h1] at h2
    injection h2 with h2
    exact hfin _ _ hlt hi h2.symm
  have hmem : ∀ b, b ∈ mv → ∃ i, i < mv.length ∧ b = f i ∧ pos b = i := by
    intro b hb
    obtain ⟨i, hi, rfl⟩ := List.getElem_of_mem hb
    have := hmv i hi
    rw [List.getElem?_eq_getElem hi] at this
    injection this with this
    exact ⟨i, hi, this, by rw [this]; exact (hpos i hi).2⟩
  let c2 : Cx := { w := c1.w, al := fun b => if b ∈ mv then c1.al (pos b) else c.al b, base := fun b => if b ∈ mv then c1.base (pos b) else c.base b, gen := fun b => if b ∈ mv then c1.gen (pos b) else c.gen b, sz := fun b => if b ∈ mv then c1.sz (pos b) else c.sz b, csz := fun b => if b ∈ mv then c1.csz (pos b) else c.csz b, fz := c1.fz, fc := c1.fc, ctr := c1.ctr }
  have hfoc : ∀ i, c0.gen i ≠ none → c.gen (f i) ≠ none ∧ f i ∈ mv := fun i hi => ⟨(hgen0 i hi).2, (hpos i (hgen0 i hi).1).1⟩
  -- what is frozen now and was not is none of the others
  have hhid : ∀ b, c.gen b ≠ none → b ∉ mv → (¬ c1.fz (c.al b)) ∧ (∀ j, c1.fc (c.al b) j → c.fc (c.al b) j) := by
    intro b hb hbm
    have hlt := hH.lt b hb
    have hne : ∀ i, c0.gen i ≠ none → c0.al i ≠ c.al b := by
      intro i hi he
      obtain ⟨k1, k2⟩ := hfoc i hi
      have := hH.inj _ _ k1 hb he
      exact hbm (this ▸ k2)
    refine ⟨fun hz => ?_, fun j hz => ?_⟩
    · rcases hL.fz _ hz with h1 | h1 | ⟨i, hi, he⟩
      · exact hH.apart b hb h1
      · exact absurd h1 (Nat.not_le.2 hlt)
      · exact hne i hi he
    · rcases hL.fc _ j hz with h1 | h1 | ⟨i, hi, he⟩
      · exact h1
      · exact absurd h1 (Nat.not_le.2 hlt)
      · exact absurd he (hne i hi)
  have hheap : ∀ b, c.gen b ≠ none → b ∉ mv → c1.w.heap[c.al b]? = c.w.heap[c.al b]? := by
    intro b hb hbm
    refine hL.keep _ (hH.lt b hb) fun i hi he => ?_
    obtain ⟨k1, k2⟩ := hfoc i hi
    have := hH.inj _ _ k1 hb he
    exact hbm (this ▸ k2)
  have hback : c1.Back f c2 := ⟨rfl, rfl, fun _ h => h, fun _ _ => Iff.rfl, fun i g e => by
    by_cases hi : i < mv.length
    · obtain ⟨h1, h2⟩ := hpos i hi
      simp only [c2, if_pos h1, h2] at e ⊢
      exact ⟨e, trivial, trivial, trivial, trivial⟩
    · have := hout i (by omega)
      have hnm : f i ∉ mv := fun hm => by
        obtain ⟨j, hj, he, _⟩ := hmem _ hm
        have := hmvb j hj
        omega
      simp only [c2, if_neg hnm] at e
      rw [this, hH.out _ (by simp)] at e
      cases e⟩
  have hle : c.le c2 := {
    ctr := hL.le.ctr
    fz := fun b hb => hL.le.fz b hb
    fc := fun b j hb => hL.le.fc b j hb
    gen := fun b g hg e => by
      by_cases hb : b ∈ mv
      · obtain ⟨i, hi, rfl, hp⟩ := hmem b hb
        simp only [c2, if_pos hb, hp] at e ⊢
        obtain ⟨e1, e2, e3, e4, e5⟩ := hL.le.gen i g hg e
        simp only [c0, if_pos hi] at e1
        exact ⟨e1, e2, e3, e4, e5⟩
      · simp only [c2, if_neg hb] at e ⊢
        simp [e]
    room := fun b g hg e j hj => by
      by_cases hb : b ∈ mv
      · obtain ⟨i, hi, rfl, hp⟩ := hmem b hb
        simp only [c2, if_pos hb, hp] at e
        exact hL.le.room i g hg e j hj
      · simp only [c2, if_neg hb] at e
        exact (hhid b (by rw [e]; simp) hb).2 j hj }
  have hg2 : ∀ b, c2.gen b ≠ none → (b ∈ mv ∧ c1.gen (pos b) ≠ none ∧ c2.al b = c1.al (pos b)) ∨ (b ∉ mv ∧ c.gen b ≠ none ∧ c2.al b = c.al b) := by
    intro b hb
    by_cases hm : b ∈ mv
    · simp only [c2, if_pos hm] at hb ⊢; exact .inl ⟨hm, hb, trivial⟩
    · simp only [c2, if_neg hm] at hb ⊢; exact .inr ⟨hm, hb, trivial⟩
  have hsz : c.w.heap.size ≤ c1.w.heap.size := hL.size
  refine ⟨r0.ren f, c2, ⟨setL H.bs mv (H1.bs.map (Blk.ren f)), H1.ctr⟩, rfl, ⟨r0, H1.bs, H1.ctr, hR, hlen1, rfl, rfl⟩, ⟨hH1.ctr, ?_, ?_, ?_, ?_, ?_, ?_, hH1.fzlt, hH1.fclt, hH.globLe hle⟩, VRel.back hback _ _ hr1, ?_⟩
  · intro b hb
    have hb' : H.bs.length ≤ b := by
      have := List.getElem?_eq_none_iff.1 hb
      rwa [setL_length] at this
    have hnm : b ∉ mv := fun hm => by
      obtain ⟨i, hi, rfl, _⟩ := hmem b hm
      have := hmvb i hi
      omega
    simp only [c2, if_neg hnm]
    exact hH.out b (List.getElem?_eq_none hb')
  · intro b y hy
    by_cases hm : b ∈ mv
    · obtain ⟨i, hi, rfl, hp⟩ := hmem b hm
      simp only at hy
      rw [setL_in mv _ _ i (f i) hn (by simp; omega) (hmv i hi) (hmvb i hi), List.getElem?_map, Option.map_eq_some_iff] at hy
      obtain ⟨x, hx, rfl⟩ := hy
      have hb := hH1.blk i x hx
      have hga : c2.gen (f i) = c1.gen i ∧ c2.al (f i) = c1.al i ∧ c2.base (f i) = c1.base i ∧ c2.sz (f i) = c1.sz i ∧ c2.csz (f i) = c1.csz i := by
        simp only [c2, if_pos hm, hp]; exact ⟨trivial, trivial, trivial, trivial, trivial⟩
      obtain ⟨g1, g2, g3, g4, g5⟩ := hga
      cases x with
      | cells g sz cs =>
        obtain ⟨a1, a2, a3, arr, e, a4, a5, p0, pre, rest, a6, a7, a8⟩ := hb
        exact ⟨a1, g1.trans a2, g4.trans a3, arr, e, by rw [g2]; exact a4, g5.trans a5, p0, pre, rest, a6, a7.trans g3.symm, LRel.back hback _ _ a8⟩
      | map g ks xs =>
        obtain ⟨a1, a2, es, clock, a4, a5, a6⟩ := hb
        exact ⟨a1, g1.trans a2, es, clock, by rw [g2]; exact a4, LRel.back hback _ _ a5, LRel.back hback _ _ a6⟩
      | tail g sz =>
        obtain ⟨a1, a2, a3, arr, e, a4, a5⟩ := hb
        exact ⟨a1, g1.trans a2, g4.trans a3, arr, e, by rw [g2]; exact a4, g5.trans a5⟩
      | obj g o =>
        obtain ⟨a1, a2, a3⟩ := hb
        exact ⟨a1, g1.trans a2, by rw [g2]; exact a3⟩
      | dead => exact g1.trans hb
    · simp only at hy
      rw [setL_out mv _ _ b hm] at hy
      refine (hH.blk b y hy).mono hle (by simp only [c2, if_neg hm]) (by simp only [c2, if_neg hm]) (by simp only [c2, if_neg hm]) (by simp only [c2, if_neg hm]) (by simp only [c2, if_neg hm]) fun hd => ?_
      exact hheap b (hH.live' hy hd) hm
  · intro b hb
    rcases hg2 b hb with ⟨hm, h1, h2⟩ | ⟨hm, h1, h2⟩
    · rw [h2]; exact hH1.apart _ h1
    · rw [h2]; exact (hhid b h1 hm).1
  · intro b y hy hd ht j
    by_cases hm : b ∈ mv
    · obtain ⟨i, hi, rfl, hp⟩ := hmem b hm
      simp only at hy
      rw [setL_in mv _ _ i (f i) hn (by simp; omega) (hmv i hi) (hmvb i hi), List.getElem?_map, Option.map_eq_some_iff] at hy
      obtain ⟨x, hx, rfl⟩ := hy
      have : c2.al (f i) = c1.al i := by simp only [c2, if_pos hm, hp]
      rw [this]
      exact hH1.solid i x hx (fun e => hd (Blk.ren_dead.2 e)) (by rw [Blk.ren_tail] at ht; exact ht) j
    · simp only at hy
      rw [setL_out mv _ _ b hm] at hy
      have : c2.al b = c.al b := by simp only [c2, if_neg hm]
      rw [this]
      intro hj
      exact hH.solid b y hy hd ht j ((hhid b (hH.live' hy hd) hm).2 j hj)
  · have mixed : ∀ b b', b ∈ mv → c1.gen (pos b) ≠ none → b' ∉ mv → c.gen b' ≠ none → c1.al (pos b) ≠ c.al b' := by
      intro b b' hb h1 hb' h2 he
      rcases hL.own _ h1 with ⟨i, hi, he'⟩ | h3
      · obtain ⟨k1, k2⟩ := hfoc i hi
        have : f i = b' := hH.inj _ _ k1 h2 (show c.al (f i) = c.al b' from he' ▸ he)
        exact hb' (this ▸ k2)
      · have := hH.lt b' h2
        rw [he] at h3
        exact absurd h3 (Nat.not_le.2 this)
    intro b b' hb hb' he
    rcases hg2 b hb with ⟨hm, h1, h2⟩ | ⟨hm, h1, h2⟩ <;> rcases hg2 b' hb' with ⟨hm', h1', h2'⟩ | ⟨hm', h1', h2'⟩ <;> rw [h2, h2'] at he
    · obtain ⟨i, hi, rfl, hp⟩ := hmem b hm
      obtain ⟨j, hj, rfl, hq⟩ := hmem b' hm'
      rw [hp] at h1 he; rw [hq] at h1' he
      rw [hH1.inj i j h1 h1' he]
    · exact absurd he (mixed b b' hm h1 hm' h1')
    · exact absurd he.symm (mixed b' b hm' h1' hm h1)
    · exact hH.inj b b' h1 h1' he
  · intro b hb
    rcases hg2 b hb with ⟨hm, h1, h2⟩ | ⟨hm, h1, h2⟩
    · rw [h2]; exact hH1.lt _ h1
    · rw [h2]; exact Nat.lt_of_lt_of_le (hH.lt b h1) hsz
  · exact {
      le := hle
      os := hL.os
      tape := hL.tape
      output := hL.output
      size := hL.size
      keep := fun k hk hn' => hL.keep k hk fun i hi => hn' (f i) (hfoc i hi).1
      own := fun b hb => by
        rcases hg2 b hb with ⟨hm, h1, h2⟩ | ⟨hm, h1, h2⟩
        · rcases hL.own _ h1 with ⟨i, hi, he⟩ | h3
          · exact .inl ⟨f i, (hfoc i hi).1, h2.trans he⟩
          · exact .inr (h2 ▸ h3)
        · exact .inl ⟨b, h1, h2⟩
      fz := fun k hk => by
        rcases hL.fz k hk with h1 | h1 | ⟨i, hi, he⟩
        · exact .inl h1
        · exact .inr (.inl h1)
        · exact .inr (.inr ⟨f i, (hfoc i hi).1, he⟩)
      fc := fun k j hk => by
        rcases hL.fc k j hk with h1 | h1 | ⟨i, hi, he⟩
        · exact .inl h1
        · exact .inr (.inl h1)
        · exact .inr (.inr ⟨f i, (hfoc i hi).1, he⟩) }
end
end Go.Sc
namespace Go.Sc
open Go

/-! ### nodes -/
theorem wGet_some {x : AV} {H : AH} {K : Kt} : wGet (some x) H K ↔ K x H := ⟨fun ⟨_, h, k⟩ => by injection h with h; exact h ▸ k, fun k => ⟨x, rfl, k⟩⟩
theorem wPut_some {H : AH} {K : Kt} : wPut (some H) K ↔ K undefA H := ⟨fun ⟨_, h, k⟩ => by injection h with h; exact h ▸ k, fun k => ⟨H, rfl, k⟩⟩
theorem wDo_some {x : AV} {H : AH} {K : Kt} : wDo (some (x, H)) K ↔ K x H := ⟨fun ⟨_, _, h, k⟩ => by injection h with h; injection h with h1 h2; exact h1 ▸ h2 ▸ k, fun k => ⟨x, H, rfl, k⟩⟩
theorem wBool_some {b : Bool} {H : AH} {neg : Bool} {K : Kt} : wBool (some b) H neg K ↔ K (.val (.bool (b != neg))) H := ⟨fun ⟨_, h, k⟩ => by injection h with h; exact h ▸ k, fun k => ⟨b, rfl, k⟩⟩
theorem wAgg_some {l : List AV} {H : AH} {K : Kt} : wAgg (some l) H K ↔ K (.agg l) H := ⟨fun ⟨_, h, k⟩ => by injection h with h; exact h ▸ k, fun k => ⟨l, rfl, k⟩⟩
theorem wIf_bool {b : Bool} {t f : Prop} : wIf (.val (.bool b)) t f ↔ (b = true → t) ∧ (b = false → f) := ⟨fun ⟨_, h, k⟩ => by injection h with h; injection h with h; subst h; exact k, fun k => ⟨b, rfl, k⟩⟩
theorem wIf.dec {p : Prop} [Decidable p] {t f : Prop} (h1 : p → t) (h2 : ¬ p → f) : wIf (.val (.bool (decide p))) t f :=
  ⟨_, rfl, fun h => h1 (of_decide_eq_true h), fun h => h2 (of_decide_eq_false h)⟩
theorem wIf.bool {b : Bool} {t f : Prop} (h1 : b = true → t) (h2 : b = false → f) : wIf (.val (.bool b)) t f := ⟨_, rfl, h1, h2⟩
theorem wGuard_bool {b want : Bool} {H : AH} {m : Kt → Prop} {K : Kt} : wGuard (.val (.bool b)) want H m K ↔ (b = want → m K) ∧ (b ≠ want → K undefA H) := by
  constructor
  · rintro ⟨⟨_, h, k⟩ | ⟨h, k⟩⟩
    · injection h with h; injection h with h; subst h; exact k
    · simp [undefA] at h
  · exact fun k => ⟨.inl ⟨b, rfl, k⟩⟩
theorem wGuard_undef {want : Bool} {H : AH} {m : Kt → Prop} {K : Kt} : wGuard undefA want H m K ↔ K undefA H := by
  constructor
  · rintro ⟨⟨_, h, k⟩ | ⟨h, k⟩⟩
    · simp [undefA] at h
    · exact k
  · exact fun k => ⟨.inr ⟨rfl, k⟩⟩
theorem wIf_true {t f : Prop} : wIf (.val (.bool true)) t f ↔ t := by simp [wIf_bool]
theorem wIf_false {t f : Prop} : wIf (.val (.bool false)) t f ↔ f := by simp [wIf_bool]
theorem wGuard_ff {H : AH} {m : Kt → Prop} {K : Kt} : wGuard (.val (.bool false)) false H m K ↔ m K := by simp [wGuard_bool]
theorem wGuard_tt {H : AH} {m : Kt → Prop} {K : Kt} : wGuard (.val (.bool true)) true H m K ↔ m K := by simp [wGuard_bool]
theorem wGuard_ft {H : AH} {m : Kt → Prop} {K : Kt} : wGuard (.val (.bool false)) true H m K ↔ K undefA H := by simp [wGuard_bool]
theorem wGuard_tf {H : AH} {m : Kt → Prop} {K : Kt} : wGuard (.val (.bool true)) false H m K ↔ K undefA H := by simp [wGuard_bool]
theorem pickA_t {a b : AV} : pickA (.val (.bool true)) a b = some a := rfl
theorem pickA_f {a b : AV} : pickA (.val (.bool false)) a b = some b := rfl

/-! ### plain data -/
abbrev nilS : AV := .val (.slice none 0 0)
abbrev nilE : AV := .val .nilIface
abbrev nilP : AV := .val (.pointer none)
abbrev Z (x : Int) : AV := .val (.int .i64 x)
abbrev Bo (b : Bool) : AV := .val (.bool b)
abbrev Str := List UInt8
abbrev S (s : Str) : AV := .val (.string ⟨s.toArray⟩)
abbrev By (b : UInt8) : AV := .val (.int .u8 b.toNat)
/-- a slice of one-cell elements -/
abbrev L (cs : List AV) : AV := .slN cs cs.length

section
variable {k : IntKind} {a b : Int}
theorem binA_lss : binA .lss (.val (.int k a)) (.val (.int k b)) = some (.val (.bool (decide (a < b)))) := by simp [binA, intBin]
theorem binA_leq : binA .leq (.val (.int k a)) (.val (.int k b)) = some (.val (.bool (decide (a ≤ b)))) := by simp [binA, intBin]
theorem binA_gtr : binA .gtr (.val (.int k a)) (.val (.int k b)) = some (.val (.bool (decide (b < a)))) := by simp [binA, intBin]
theorem binA_geq : binA .geq (.val (.int k a)) (.val (.int k b)) = some (.val (.bool (decide (b ≤ a)))) := by simp [binA, intBin]
theorem binA_eql : binA .eql (.val (.int k a)) (.val (.int k b)) = some (.val (.bool (decide (a = b)))) := by
  have : (a == b) = decide (a = b) := by by_cases h : a = b <;> simp [h]
  simp [binA, intBin, this]
theorem binA_neq : binA .neq (.val (.int k a)) (.val (.int k b)) = some (.val (.bool (!decide (a = b)))) := by
  have : (a != b) = !decide (a = b) := by by_cases h : a = b <;> simp [h]
  simp [binA, intBin, this]
theorem binA_add' : binA .add (.val (.int k a)) (.val (.int k b)) = some (.val (.int k (k.wrap (a + b)))) := by simp [binA, intBin]
theorem binA_sub' : binA .sub (.val (.int k a)) (.val (.int k b)) = some (.val (.int k (k.wrap (a - b)))) := by simp [binA, intBin]
theorem binA_mul' : binA .mul (.val (.int k a)) (.val (.int k b)) = some (.val (.int k (k.wrap (a * b)))) := by simp [binA, intBin]
theorem unA_neg' : unA .neg (.val (.int k a)) = some (.val (.int k (k.wrap (0 - a)))) := rfl
end
theorem wrap_i64 {a : Int} (h : -9223372036854775808 ≤ a ∧ a ≤ 9223372036854775807) : IntKind.i64.wrap a = a := IntWalk.i64_in _ h
theorem binA_add {a b : Int} (h : -9223372036854775808 ≤ a + b ∧ a + b ≤ 9223372036854775807) : binA .add (.val (.int .i64 a)) (.val (.int .i64 b)) = some (.val (.int .i64 (a + b))) := by rw [binA_add', wrap_i64 h]
theorem binA_sub {a b : Int} (h : -9223372036854775808 ≤ a - b ∧ a - b ≤ 9223372036854775807) : binA .sub (.val (.int .i64 a)) (.val (.int .i64 b)) = some (.val (.int .i64 (a - b))) := by rw [binA_sub', wrap_i64 h]
theorem binA_mul {a b : Int} (h : -9223372036854775808 ≤ a * b ∧ a * b ≤ 9223372036854775807) : binA .mul (.val (.int .i64 a)) (.val (.int .i64 b)) = some (.val (.int .i64 (a * b))) := by rw [binA_mul', wrap_i64 h]
theorem binA_succ {i : Nat} (h : i < 4611686018427387904) : binA .add (.val (.int .i64 i)) (.val (.int .i64 1)) = some (.val (.int .i64 ((i + 1 : Nat) : Int))) := by rw [binA_add (by omega)]; simp
theorem toList_mk (s : Str) : (⟨s.toArray⟩ : ByteArray).toList = s := by
  rw [ByteArray.toList_eq]
theorem binA_seq {s t : Str} : binA .eql (S s) (S t) = some (Bo (decide (s = t))) := by
  have : (s == t) = decide (s = t) := by by_cases h : s = t <;> simp [h]
  simp only [binA, strBin, Option.map_some, toList_mk, this]
theorem binA_sne {s t : Str} : binA .neq (S s) (S t) = some (Bo (!decide (s = t))) := by
  have : (s == t) = decide (s = t) := by by_cases h : s = t <;> simp [h]
  simp only [binA, strBin, Option.map_some, toList_mk, this]
theorem unA_not {b : Bool} : unA .not (.val (.bool b)) = some (.val (.bool !b)) := rfl
theorem lenS_S {s : Str} : lenS (S s) = some (Z s.length) := by
  simp [lenS, ByteArray.size]
theorem idxS {s : Str} {i : Nat} (h : i < s.length) : idxStr (S s) (Z i) = some (By s[i]) := by
  simp only [idxStr]
  have h1 : ((i : Int) < ((⟨s.toArray⟩ : ByteArray).size : Int)) := by simp [ByteArray.size]; omega
  rw [if_pos ⟨by omega, h1⟩]
  simp [List.getD, h]
theorem extract_mk (s : Str) (i j : Nat) : (⟨s.toArray⟩ : ByteArray).extract i j = ⟨((s.take j).drop i).toArray⟩ := by
  apply ByteArray.ext
  rw [ByteArray.data_extract]
  simp only [List.extract_toArray, List.toArray_eq_iff, List.extract_eq_take_drop]
  rw [List.drop_take]
theorem sliceS_S {s : Str} {lo hi : Option AV} {l h : Int} (hl : bnd lo 0 = some l) (hh : bnd hi s.length = some h) (h0 : 0 ≤ l) (h1 : l ≤ h) (h2 : h ≤ s.length) : sliceS (S s) lo hi = some (S ((s.take h.toNat).drop l.toNat)) := by
  have hs : (⟨s.toArray⟩ : ByteArray).size = s.length := by simp [ByteArray.size]
  simp only [sliceS, hl, Option.bind_some, hs, hh]
  rw [if_pos ⟨h0, h1, h2⟩, extract_mk]
theorem bnd_none {d : Nat} : bnd none d = some d := rfl
theorem bnd_some {k : IntKind} {n : Int} {d : Nat} : bnd (some (.val (.int k n))) d = some n := rfl

/-- what lies in a block of cells -/
def blkCells (g : Nat) : Option Blk → Option (List AV)
  | some (.cells g' _ cs) => if g' = g then some cs else none
  | _ => none
def blkDo {α : Type} (g : Nat) (f : Nat → List AV → Option α) : Option Blk → Option α
  | some (.cells g' sz cs) => if g' = g then f sz cs else none
  | _ => none
theorem blkCells_self {g sz : Nat} {cs : List AV} : blkCells g (some (.cells g sz cs)) = some cs := by simp [blkCells]
theorem blkDo_self {α : Type} {g sz : Nat} {cs : List AV} {f : Nat → List AV → Option α} : blkDo g f (some (.cells g sz cs)) = f sz cs := by simp [blkDo]
theorem AH.cells_blk {H : AH} {b g : Nat} : H.cells b g = blkCells g H.bs[b]? := by
  simp only [AH.cells]; cases H.bs[b]? with
  | none => rfl
  | some x => cases x <;> rfl
theorem load1_L {b o g : Nat} {H : AH} : load1 (.ptrL b o g) H = (blkCells g H.bs[b]?).bind fun cs => cs[o]? := by simp [load1, AH.cells_blk]
theorem load1_F {l : List AV} {i : Nat} {H : AH} : load1 (.ptrF l i) H = l[i]? := rfl
theorem loadN_L {n b o g : Nat} {H : AH} : loadN n (.ptrL b o g) H = (blkCells g H.bs[b]?).bind fun cs => (subL cs o n).map .agg := by simp [loadN, AH.cells_blk]
theorem loadN_F {n : Nat} {l : List AV} {i : Nat} {H : AH} : loadN n (.ptrF l i) H = (subL l i n).map .agg := rfl
theorem store1_L {b o g : Nat} {x : AV} {H : AH} (hx : x.scalar = true) : store1 (.ptrL b o g) x H = blkDo g (fun sz cs => if o < cs.length then some ⟨H.bs.set b (.cells g sz (cs.set o x)), H.ctr⟩ else none) H.bs[b]? := by
  simp only [store1, hx, if_true, AH.cells, AH.set]
  cases hb : H.bs[b]? with
  | none => rfl
  | some y =>
    cases y with
    | cells g' sz cs =>
      simp only [blkDo]
      by_cases hg : g' = g <;> simp [hg]
    | _ => rfl
theorem storeN_L {n b o g : Nat} {xs : List AV} {H : AH} (hn : xs.length = n) (hx : xs.all AV.scalar = true) :
    storeN n (.ptrL b o g) (.agg xs) H = blkDo g (fun sz cs => (putL cs o xs).map fun cs' => ⟨H.bs.set b (.cells g sz cs'), H.ctr⟩) H.bs[b]? := by
  simp only [storeN, hn, hx, and_self, if_true, AH.cells, AH.set]
  cases hb : H.bs[b]? with
  | none => rfl
  | some y =>
    cases y with
    | cells g' sz cs =>
      simp only [blkDo]
      by_cases hg : g' = g <;> simp [hg]
    | _ => rfl
theorem faddr_L {off b o g : Nat} : faddr off (.ptrL b o g) = some (.ptrL b (o + off) g) := rfl
theorem faddr_F {off : Nat} {cs : List AV} {o : Nat} : faddr off (.ptrF cs o) = some (.ptrF cs (o + off)) := rfl
theorem extractA_tup {vs : List AV} {i : Nat} : extractA (.tup vs) i = vs[i]? := rfl
theorem lenA_N {cs : List AV} {n : Nat} : lenA (.slN cs n) = some (Z n) := rfl
theorem lenA_F {cs : List AV} {o n : Nat} : lenA (.slF cs o n) = some (Z n) := rfl
theorem lenA_L {b o n g : Nat} : lenA (.slL b o n g) = some (Z n) := rfl
theorem lenA_T {b n g : Nat} {cs : List AV} : lenA (.slT b cs n g) = some (Z n) := rfl
theorem lenA_nil : lenA nilS = some (Z 0) := rfl
theorem iaddr_N {sz : Nat} {cs : List AV} {n : Nat} {k : IntKind} {i : Int} (h : 0 ≤ i ∧ i < n) : iaddr sz (.slN cs n) (.val (.int k i)) = some (.ptrF cs (i.toNat * sz)) := by simp [iaddr, h]
theorem iaddr_F {sz : Nat} {cs : List AV} {o n : Nat} {k : IntKind} {i : Int} (h : 0 ≤ i ∧ i < n) : iaddr sz (.slF cs o n) (.val (.int k i)) = some (.ptrF cs (o + i.toNat * sz)) := by simp [iaddr, h]
theorem iaddr_L {sz b o n g : Nat} {k : IntKind} {i : Int} (h : 0 ≤ i ∧ i < n) : iaddr sz (.slL b o n g) (.val (.int k i)) = some (.ptrL b (o + i.toNat * sz) g) := by simp [iaddr, h]
theorem iaddr_T {sz : Nat} {b : Nat} {cs : List AV} {n g : Nat} {k : IntKind} {i : Int} (h : 0 ≤ i ∧ i < n) : iaddr sz (.slT b cs n g) (.val (.int k i)) = some (.ptrF cs (i.toNat * sz)) := by simp [iaddr, h]
theorem iaddr_Nn {cs : List AV} {n : Nat} {k : IntKind} {i : Nat} (h : i < n) : iaddr 1 (.slN cs n) (.val (.int k i)) = some (.ptrF cs i) := by rw [iaddr_N (by omega)]; simp
theorem iaddr_Ln {b n g : Nat} {k : IntKind} {i : Nat} (h : i < n) : iaddr 1 (.slL b 0 n g) (.val (.int k i)) = some (.ptrL b i g) := by rw [iaddr_L (by omega)]; simp
theorem iaddr_Tn {b : Nat} {cs : List AV} {n g : Nat} {k : IntKind} {i : Nat} (h : i < n) : iaddr 1 (.slT b cs n g) (.val (.int k i)) = some (.ptrF cs i) := by rw [iaddr_T (by omega)]; simp
theorem sub_two (a b : AV) : subL [a, b] 0 2 = some [a, b] := rfl
theorem sub_three (a b c : AV) : subL [a, b, c] 0 3 = some [a, b, c] := rfl
theorem sub_four (a b c d : AV) : subL [a, b, c, d] 0 4 = some [a, b, c, d] := rfl
theorem cells?_scalar {x : AV} (h : x.scalar = true) : x.cells? = some [x] := by
  cases x <;> simp_all [AV.cells?, AV.scalar]
theorem cells?_agg {cs : List AV} : (AV.agg cs).cells? = some cs := rfl
theorem fillA_nil {z : List AV} : fillA z [] = some z := rfl
theorem fillA_one {z : List AV} {o : Nat} {x : AV} {r : List (Nat × Nat × AV)} (hx : x.scalar = true) (ho : o < z.length) : fillA z ((o, 1, x) :: r) = fillA (z.set o x) r := by
  simp only [fillA, cells?_scalar hx, Option.bind_some, List.length_singleton, if_true, putL]
  rw [if_pos (by omega), Option.bind_some, List.set_eq_take_append_cons_drop, if_pos ho]
  simp
theorem fillA_agg {z : List AV} {o n : Nat} {cs : List AV} {r : List (Nat × Nat × AV)} (hn : cs.length = n) (ho : o + n ≤ z.length) : fillA z ((o, n, .agg cs) :: r) = fillA (z.take o ++ cs ++ z.drop (o + n)) r := by
  subst hn
  simp only [fillA, cells?_agg, Option.bind_some, if_true, putL]
  rw [if_pos ho, Option.bind_some]
theorem scalar_val {v : Value} (h : okCell v = true) : (AV.val v).scalar = true := by cases v <;> simp_all [okCell, AV.scalar]

theorem eqA_bool {a b : Bool} : eqA .bool (Bo a) (Bo b) = some (a == b) := rfl
theorem eqA_ifc {k : Nat} {a : AV} : eqA .iface (.ifc k a) nilE = some false := rfl
theorem eqA_nilE : eqA .iface nilE nilE = some true := rfl
theorem eqA_pF {cs : List AV} {o : Nat} : eqA .ptr (.ptrF cs o) nilP = some false := rfl
theorem eqA_pL {b o g : Nat} : eqA .ptr (.ptrL b o g) nilP = some false := rfl
theorem eqA_pN : eqA .ptr nilP nilP = some true := rfl
theorem eqA_slF {cs : List AV} {o n : Nat} : eqA .slice (.slF cs o n) nilS = some false := rfl
theorem eqA_slL {b o n g : Nat} : eqA .slice (.slL b o n g) nilS = some false := rfl
theorem eqA_slT {b n g : Nat} {cs : List AV} : eqA .slice (.slT b cs n g) nilS = some false := rfl
theorem eqA_slZ : eqA .slice nilS nilS = some true := rfl
theorem nilA_F {cs : List AV} {o : Nat} : nilA (.ptrF cs o) = some (.ptrF cs o) := rfl
theorem nilA_L {b o g : Nat} : nilA (.ptrL b o g) = some (.ptrL b o g) := rfl
theorem nilA_fn {k : Nat} {fs cs : List AV} : nilA (.fn k fs cs) = some (.fn k fs cs) := rfl
theorem flat_succ {n : Nat} {l : List AV} : (List.replicate (n + 1) l).flatten = l ++ (List.replicate n l).flatten := by simp [List.replicate_succ]
theorem flat_zero {l : List AV} : (List.replicate 0 l).flatten = [] := rfl
/-- a slice of plain data -/
abbrev Lm {α : Type} (f : α → AV) (xs : List α) : AV := .slN (xs.map f) xs.length
theorem at_mid {α β : Type} {f : α → β} {pre rest : List α} {x : α} : ((pre ++ x :: rest).map f)[pre.length]? = some (f x) := by simp
theorem lt_mid {α : Type} {pre rest : List α} {x : α} : pre.length < (pre ++ x :: rest).length := by simp
theorem len_snoc {α : Type} {pre : List α} {x : α} : (pre ++ [x]).length = pre.length + 1 := by simp
theorem iaddrArr_F {sz n : Nat} {cs : List AV} {o : Nat} {k : IntKind} {i : Int} (h : 0 ≤ i ∧ i < n) : iaddrArr sz n (.ptrF cs o) (.val (.int k i)) = some (.ptrF cs (o + i.toNat * sz)) := by simp [iaddrArr, h]
theorem iaddrArr_L {sz n b o g : Nat} {k : IntKind} {i : Int} (h : 0 ≤ i ∧ i < n) : iaddrArr sz n (.ptrL b o g) (.val (.int k i)) = some (.ptrL b (o + i.toNat * sz) g) := by simp [iaddrArr, h]
theorem convA_int {k k' : IntKind} {n : Int} : convA (.int k) (.val (.int k' n)) = some (.val (.int k (k.wrap n))) := rfl
theorem convA_str {s : ByteArray} : convA .string (.val (.string s)) = some (.val (.string s)) := rfl
theorem pickA_b {b : Bool} {x y : AV} : pickA (.val (.bool b)) x y = some (if b then x else y) := rfl
theorem closed_map {α : Type} {f : α → AV} (h : ∀ x, (f x).closed) (xs : List α) : AV.closedL (xs.map f) := AV.closedL_iff.2 fun y hy => by
  obtain ⟨x, _, rfl⟩ := List.mem_map.1 hy
  exact h x
theorem closed_map' {α : Type} {f : α → AV} {xs : List α} (h : ∀ x ∈ xs, (f x).closed) : AV.closedL (xs.map f) := AV.closedL_iff.2 fun y hy => by
  obtain ⟨x, hx, rfl⟩ := List.mem_map.1 hy
  exact h x hx
theorem closed_S (l : List Str) : AV.closedL (l.map fun s => S s) := closed_map (f := fun s => S s) (fun _ => by trivial) l
theorem closed_Z (l : List Int) : AV.closedL (l.map fun z => Z z) := closed_map (f := fun z => Z z) (fun _ => by trivial) l
theorem closed_B (l : List Bool) : AV.closedL (l.map fun b => Bo b) := closed_map (f := fun b => Bo b) (fun _ => by trivial) l

/-! ### told with less -/
theorem Sub.trans {x y z : AV} (h : Sub x y) (k : Sub y z) : Sub x z := fun E c v r => k E c v (h E c v r)
theorem Sub.junk (x : AV) : Sub x .junk := fun _ _ _ _ => by simp [VRel]
theorem Sub.F {cs cs' : List AV} {len : Nat} (h : SubL cs cs') : Sub (.slF cs 0 len) (.slN cs' len) := fun E c v r => by
  simp only [VRel] at r ⊢
  obtain ⟨p, cap, rfl, hl, r⟩ := r
  refine .inr ⟨p, cap, rfl, hl, r.imp id ?_⟩
  rintro ⟨b, o, rfl, hc⟩
  exact ⟨b, o, rfl, h.crel hc⟩
theorem Sub.Fo {cs : List AV} {off len : Nat} (k : Nat) : Sub (.slF cs off len) (.slN ((cs.drop off).take k) len) := fun E c v r => by
  simp only [VRel] at r ⊢
  obtain ⟨p, cap, rfl, hl, r⟩ := r
  refine .inr ⟨p, cap, rfl, hl, r.imp id ?_⟩
  rintro ⟨b, o, rfl, hc⟩
  exact ⟨b, o + off, rfl, (hc.drop off).take k⟩
theorem Sub.N {cs cs' : List AV} {len : Nat} (h : SubL cs cs') : Sub (.slN cs len) (.slN cs' len) := fun E c v r => by
  simp only [VRel] at r ⊢
  refine r.imp id ?_
  rintro ⟨p, cap, rfl, hl, r⟩
  refine ⟨p, cap, rfl, hl, r.imp id ?_⟩
  rintro ⟨b, o, rfl, hc⟩
  exact ⟨b, o, rfl, h.crel hc⟩
theorem Sub.T {b g : Nat} {cs cs' : List AV} {len : Nat} (h : SubL cs cs') : Sub (.slT b cs len g) (.slN cs' len) := fun E c v r => by
  simp only [VRel] at r ⊢
  obtain ⟨_, p, cap, rfl, hl, r⟩ := r
  refine .inr ⟨p, cap, rfl, hl, r.imp id ?_⟩
  rintro ⟨k, o, rfl, hc, _⟩
  exact ⟨k, o, rfl, h.crel hc⟩
theorem Sub.T' {b g : Nat} {cs : List AV} {len : Nat} : Sub (.slT b cs len g) (.slN cs len) := .T (.refl _)
theorem Sub.F' {cs : List AV} {len : Nat} : Sub (.slF cs 0 len) (.slN cs len) := .F (.refl _)
theorem Sub.nil {cs : List AV} : Sub nilS (.slN cs 0) := fun E c v r => by
  simp only [VRel] at r ⊢
  exact .inl ⟨r, trivial⟩
theorem Sub.ptr {cs cs' : List AV} {o : Nat} (h : SubL cs cs') : Sub (.ptrF cs o) (.ptrF cs' o) := fun E c v r => by
  simp only [VRel] at r ⊢
  obtain ⟨b, o, rfl, hc⟩ := r
  exact ⟨b, o, rfl, h.crel hc⟩
theorem Sub.agg {cs cs' : List AV} (h : SubL cs cs') : Sub (.agg cs) (.agg cs') := fun E c v r => by
  simp only [VRel] at r ⊢
  obtain ⟨vs, rfl, hl⟩ := r
  exact ⟨vs, rfl, h.rel hl⟩
theorem Sub.tup {cs cs' : List AV} (h : SubL cs cs') : Sub (.tup cs) (.tup cs') := fun E c v r => by
  simp only [VRel] at r ⊢
  obtain ⟨vs, rfl, hl⟩ := r
  exact ⟨vs, rfl, h.rel hl⟩
theorem Sub.ifc {k : Nat} {x y : AV} (h : Sub x y) : Sub (.ifc k x) (.ifc k y) := fun E c v r => by
  simp only [VRel] at r ⊢
  obtain ⟨u, rfl, hk, hl⟩ := r
  exact ⟨u, rfl, hk, h E c u hl⟩
theorem Sub.fn {k : Nat} {fs fs' cs cs' : List AV} (h : SubL fs fs') (h' : SubL cs cs') : Sub (.fn k fs cs) (.fn k fs' cs') := fun E c v r => by
  simp only [VRel] at r ⊢
  obtain ⟨gs, ds, rfl, h1, h2⟩ := r
  exact ⟨gs, ds, rfl, h.rel h1, h'.rel h2⟩
theorem SubL.one {x y : AV} (h : Sub x y) : SubL [x] [y] := .cons h .nil
theorem SubL.two {x y x' y' : AV} (h : Sub x y) (h' : Sub x' y') : SubL [x, x'] [y, y'] := .cons h (.one h')
theorem SubL.append : ∀ {xs xs' ys ys' : List AV}, SubL xs xs' → SubL ys ys' → SubL (xs ++ ys) (xs' ++ ys')
  | _, _, _, _, .nil, h => h
  | _, _, _, _, .cons h1 h2, h => .cons h1 (SubL.append h2 h)
theorem FkL.sub {H : AH} {S : Nat → Bool} : ∀ {xs ys : List AV}, SubL xs ys → FkL H S xs ys
  | _, _, .nil => .nil
  | _, _, .cons h1 h2 => .cons (.sub h1) (FkL.sub h2)

/-! ### new memory -/
section
variable {sz len bytes : Nat} {l : List AV} {cs : Option (List AV)} {H : AH} {K : Kt}
/-- frozen at once -/
theorem wNew.F {l' : List AV} (hc : cs = some l) (hs : SubL l l') (h : K (.ptrF l' 0) H) : wNew sz cs H K := ⟨l, _, _, hc, .frz (.ptr hs), h⟩
theorem wNew.F' (hc : cs = some l) (h : K (.ptrF l 0) H) : wNew sz cs H K := .F hc (.refl _) h
theorem wNew.L (hc : cs = some l) (h : K (.ptrL H.bs.length 0 H.ctr) ⟨H.bs ++ [.cells H.ctr sz l], H.ctr + 1⟩) : wNew sz cs H K :=
  ⟨l, _, _, hc, .live H.bs.length (.inl rfl), by simpa [AH.put] using h⟩
theorem wNew.S (b : Nat) (hc : cs = some l) (hb : H.bs[b]? = some .dead) (h : K (.ptrL b 0 H.ctr) ⟨H.bs.set b (.cells H.ctr sz l), H.ctr + 1⟩) : wNew sz cs H K :=
  ⟨l, _, _, hc, .live b (.inr hb), by
    have := lt_of_get hb
    have hne : b ≠ H.bs.length := by omega
    simpa [AH.put, hne] using h⟩
theorem wNewS.F {l' : List AV} (hc : cs = some l) (hs : SubL l l') (hl : l.length = len * sz) (h : K (.slN l' len) H) : wNewS sz len cs H K := ⟨l, _, _, hc, hl, .frz (.F hs), h⟩
theorem wNewS.F' (hc : cs = some l) (hl : l.length = len * sz) (h : K (.slN l len) H) : wNewS sz len cs H K := .F hc (.refl _) hl h
theorem wNewS.L (hc : cs = some l) (hl : l.length = len * sz) (h : K (.slL H.bs.length 0 len H.ctr) ⟨H.bs ++ [.cells H.ctr sz l], H.ctr + 1⟩) : wNewS sz len cs H K :=
  ⟨l, _, _, hc, hl, .live H.bs.length (.inl rfl), by simpa [AH.put] using h⟩
theorem wNewS.S (b : Nat) (hc : cs = some l) (hl : l.length = len * sz) (hb : H.bs[b]? = some .dead) (h : K (.slL b 0 len H.ctr) ⟨H.bs.set b (.cells H.ctr sz l), H.ctr + 1⟩) : wNewS sz len cs H K :=
  ⟨l, _, _, hc, hl, .live b (.inr hb), by
    have := lt_of_get hb
    have hne : b ≠ H.bs.length := by omega
    simpa [AH.put, hne] using h⟩
theorem wNewS.T {l' : List AV} (hc : cs = some l) (hs : SubL l l') (hl : l.length = len * sz) (h : K (.slT H.bs.length l' len H.ctr) ⟨H.bs ++ [.tail H.ctr sz], H.ctr + 1⟩) : wNewS sz len cs H K :=
  ⟨l, _, _, hc, hl, .tail H.bs.length hs (.inl rfl), by simpa [AH.put] using h⟩
theorem wNewS.TS {l' : List AV} (b : Nat) (hc : cs = some l) (hs : SubL l l') (hl : l.length = len * sz) (hb : H.bs[b]? = some .dead) (h : K (.slT b l' len H.ctr) ⟨H.bs.set b (.tail H.ctr sz), H.ctr + 1⟩) : wNewS sz len cs H K :=
  ⟨l, _, _, hc, hl, .tail b hs (.inr hb), by
    have := lt_of_get hb
    have hne : b ≠ H.bs.length := by omega
    simpa [AH.put, hne] using h⟩
theorem makeA_n {n : Nat} (h : n * bytes ≤ mostBytes ∧ n ≤ mostBytes) {k k' : IntKind} : makeA bytes (.val (.int k n)) (.val (.int k' n)) = some n := by
  simp only [makeA]; rw [if_pos]; · simp
  exact ⟨by omega, trivial, by rw [← Int.natCast_mul]; exact Int.ofNat_le.2 h.1, Int.ofNat_le.2 h.2⟩
section
variable {zero : List AV} {x y : AV} {n : Nat}
theorem wMake.F (hm : makeA bytes x y = some n) (h : K (.slN (List.replicate n zero).flatten n) H) : wMake sz bytes zero x y H K := ⟨n, _, _, hm, .frz .F', h⟩
theorem wMake.L (hm : makeA bytes x y = some n) (h : K (.slL H.bs.length 0 n H.ctr) ⟨H.bs ++ [.cells H.ctr sz (List.replicate n zero).flatten], H.ctr + 1⟩) : wMake sz bytes zero x y H K :=
  ⟨n, _, _, hm, .live H.bs.length (.inl rfl), by simpa [AH.put] using h⟩
theorem wMake.S (b : Nat) (hm : makeA bytes x y = some n) (hb : H.bs[b]? = some .dead) (h : K (.slL b 0 n H.ctr) ⟨H.bs.set b (.cells H.ctr sz (List.replicate n zero).flatten), H.ctr + 1⟩) : wMake sz bytes zero x y H K :=
  ⟨n, _, _, hm, .live b (.inr hb), by
    have := lt_of_get hb
    have hne : b ≠ H.bs.length := by omega
    simpa [AH.put, hne] using h⟩
end
end

/-! ### slices that grow -/
/-- 'x' holds 'n' elements of 'sz' cells, 'cs', and may grow at place 'b', that holds 'z' -/
def Gr (sz : Nat) (z : Blk) (b : Nat) (x : AV) (cs : List AV) (n : Nat) : Prop := (x = nilS ∧ z = .dead ∧ cs = [] ∧ n = 0) ∨ ∃ g, x = .slT b cs n g ∧ z = .tail g sz
theorem Gr.nil {sz b : Nat} : Gr sz .dead b nilS [] 0 := .inl ⟨rfl, rfl, rfl, rfl⟩
theorem Gr.mk {sz b n g : Nat} {cs : List AV} : Gr sz (.tail g sz) b (.slT b cs n g) cs n := .inr ⟨g, rfl, rfl⟩
theorem Gr.len {sz : Nat} {z : Blk} {b : Nat} {x : AV} {cs : List AV} {n : Nat} (h : Gr sz z b x cs n) : lenA x = some (Z n) := by
  rcases h with ⟨rfl, _, _, rfl⟩ | ⟨g, rfl, _⟩ <;> rfl
theorem Gr.sub {sz : Nat} {z : Blk} {b : Nat} {x : AV} {cs : List AV} {n : Nat} (h : Gr sz z b x cs n) : Sub x (.slN cs n) := by
  rcases h with ⟨rfl, _, rfl, rfl⟩ | ⟨g, rfl, _⟩
  · exact .nil
  · exact .T'
theorem Gr.subS {sz : Nat} {z : Blk} {b : Nat} {x : AV} {cs cs' : List AV} {n : Nat} (h : Gr sz z b x cs n) (hs : SubL cs cs') : Sub x (.slN cs' n) := h.sub.trans (.N hs)
theorem Gr.scalar {sz : Nat} {z : Blk} {b : Nat} {x : AV} {cs : List AV} {n : Nat} (h : Gr sz z b x cs n) : x.scalar = true := by
  rcases h with ⟨rfl, _⟩ | ⟨g, rfl, _⟩ <;> rfl
theorem Gr.at {sz : Nat} {z : Blk} {b : Nat} {x : AV} {cs : List AV} {n : Nat} (h : Gr sz z b x cs n) {k : IntKind} {i : Int} (hi : 0 ≤ i ∧ i < n) : iaddr sz x (.val (.int k i)) = some (.ptrF cs (i.toNat * sz)) := by
  rcases h with ⟨rfl, _, rfl, rfl⟩ | ⟨g, rfl, _⟩
  · omega
  · exact iaddr_T hi
theorem Gr.cells {z : Blk} {b : Nat} {x : AV} {cs : List AV} {n : Nat} {sz : Nat} (h : Gr sz z b x cs n) (hn : cs.length = n * sz) (H : AH) : cellsOfA sz x H = some (n, cs) := by
  rcases h with ⟨rfl, _, rfl, rfl⟩ | ⟨g, rfl, _⟩
  · rfl
  · simp [cellsOfA, subL, ← hn]
theorem cellsOfA_len {sz m : Nat} {y : AV} {H : AH} {new : List AV} (hc : cellsOfA sz y H = some (m, new)) : new.length = m * sz := by
  have sub : ∀ {cs l : List AV} {o n : Nat}, subL cs o n = some l → l.length = n := fun h => by
    obtain ⟨h1, rfl⟩ := subL_some h
    simp; omega
  unfold cellsOfA at hc
  split at hc
  · injection hc with hc; injection hc with h1 hc; subst h1 hc; simp
  · simp only [Option.map_eq_some_iff, Prod.mk.injEq] at hc
    obtain ⟨l, h1, rfl, rfl⟩ := hc
    exact sub h1
  · simp only [Option.bind_eq_some_iff, Option.map_eq_some_iff, Prod.mk.injEq] at hc
    obtain ⟨_, _, l, h1, rfl, rfl⟩ := hc
    exact sub h1
  · simp only [Option.map_eq_some_iff, Prod.mk.injEq] at hc
    obtain ⟨l, h1, rfl, rfl⟩ := hc
    exact sub h1
  · simp only [Option.map_eq_some_iff, Prod.mk.injEq] at hc
    obtain ⟨l, h1, rfl, rfl⟩ := hc
    exact sub h1
  · split at hc
    · rename_i h1
      subst h1
      injection hc with hc; injection hc with h1 hc
      subst h1 hc
      rw [List.length_map, Nat.mul_one]
      exact Array.length_toList
    · cases hc
  · cases hc
theorem wApp.gr {sz bytes : Nat} {z : Blk} {b : Nat} {x y : AV} {cs new new' : List AV} {n m : Nat} {H : AH} {K : Kt} (hg : Gr sz z b x cs n) (hz : H.bs[b]? = some z) (hn : cs.length = n * sz) (hc : cellsOfA sz y H = some (m, new)) (hs : SubL new new')
    (hsc : new.all AV.scalar = true) (hb : (n + m) * bytes ≤ mostBytes ∧ n + m ≤ mostBytes) (hk : ∀ z' x' c', Gr sz z' b x' (cs ++ new') (n + m) → K x' ⟨H.bs.set b z', c'⟩) : wApp sz bytes x y H K := by
  have hbl := lt_of_get hz
  rcases hg with ⟨rfl, rfl, rfl, rfl⟩ | ⟨g, rfl, rfl⟩
  · by_cases hm : m = 0
    · subst hm
      have hnew : new = [] := List.eq_nil_of_length_eq_zero (by simpa using cellsOfA_len hc)
      subst hnew
      have : new' = [] := by
        have := hs.length
        exact List.eq_nil_of_length_eq_zero (by simpa using this.symm)
      subst this
      have := hk .dead nilS H.ctr (.inl ⟨rfl, rfl, rfl, rfl⟩)
      have hset : H.bs.set b .dead = H.bs := by
        have : H.bs[b] = .dead := by rw [List.getElem?_eq_getElem hbl] at hz; injection hz
        rw [← this]; simp
      rw [hset] at this
      exact ⟨nilS, H, .old (by simp [appendA, hc]), this⟩
    · refine ⟨_, _, .first b rfl (.inr hz) hc hm hs (by simpa using hb.1) (by simpa using hb.2), ?_⟩
      have hne : b ≠ H.bs.length := by omega
      simp only [AH.put, hne, if_false]
      have := hk (.tail H.ctr sz) (.slT b new' m H.ctr) (H.ctr + 1) (.inr ⟨_, by simp, rfl⟩)
      exact this
  · exact ⟨_, _, .grow rfl hz hn hc hs hsc hb.1 hb.2, hk _ _ _ (.inr ⟨_, rfl, rfl⟩)⟩
/-- one element of one cell more -/
theorem wApp.one {bytes : Nat} {z : Blk} {b : Nat} {x y y' : AV} {cs : List AV} {n : Nat} {H : AH} {K : Kt} (hg : Gr 1 z b x cs n) (hz : H.bs[b]? = some z) (hn : cs.length = n) (hs : Sub y y') (hsc : y.scalar = true) (hb : (n + 1) * bytes ≤ mostBytes ∧ n + 1 ≤ mostBytes)
    (hk : ∀ z' x' c', Gr 1 z' b x' (cs ++ [y']) (n + 1) → K x' ⟨H.bs.set b z', c'⟩) : wApp 1 bytes x (.slN [y] 1) H K :=
  wApp.gr hg hz (by simpa using hn) (new := [y]) (m := 1) rfl (.one hs) (by simpa using hsc) hb hk

/-! ### contracts -/
section
variable {E : Env} {P : Program}
/-- a call of frozen arguments: its result -/
structure FX (E : Env) (P : Program) (k : Nat) (args : List AV) (r : AV) : Prop where
  ok : ∀ n, ACalls E P k args ⟨[], n⟩ fun x _ => x = r
  ca : AV.closedL args
  cr : r.closed
theorem FX.of {k : Nat} {args : List AV} {r : AV} (ca : AV.closedL args) (cr : r.closed) (h : ∀ n (R : Kt), (∀ x H, Fk H S0 x r → R x H) → ACalls E P k args ⟨[], n⟩ R) : FX E P k args r where
  ok := fun n => (h n (fun x H => Fk H S0 x r) fun _ _ hx => hx).mono fun _ H hx => ⟨r, ⟨[], H.ctr⟩, ghost_all (.cons hx .nil), rfl⟩
  ca := ca
  cr := cr
theorem FX.of' {k : Nat} {args : List AV} {r : AV} (ca : AV.closedL args) (cr : r.closed) (h : ∀ n (R : Kt), (∀ x H, x = r → R x H) → ACalls E P k args ⟨[], n⟩ R) : FX E P k args r :=
  .of ca cr fun n R hR => h n R fun x H e => hR x H (e ▸ .same _)
/-- told by a relation -/
structure FR (E : Env) (P : Program) (k : Nat) (args : List AV) (R0 : AV → Prop) : Prop where
  ok : ∀ n, ACalls E P k args ⟨[], n⟩ fun x _ => R0 x
  ca : AV.closedL args
  cr : ∀ r, R0 r → r.closed
theorem FR.of {k : Nat} {args : List AV} {R0 : AV → Prop} (ca : AV.closedL args) (cr : ∀ r, R0 r → r.closed) (h : ∀ n (R : Kt), (∀ x r H, Fk H S0 x r → R0 r → R x H) → ACalls E P k args ⟨[], n⟩ R) : FR E P k args R0 where
  ok := fun n => (h n (fun x H => ∃ r, Fk H S0 x r ∧ R0 r) fun _ r _ hx hr => ⟨r, hx, hr⟩).mono fun _ H ⟨r, hx, hr⟩ => ⟨r, ⟨[], H.ctr⟩, ghost_all (.cons hx .nil), hr⟩
  ca := ca
  cr := cr
theorem FX.fr {k : Nat} {args : List AV} {r : AV} (h : FX E P k args r) : FR E P k args (fun x => x = r) := ⟨h.ok, h.ca, fun _ e => e ▸ h.cr⟩

theorem FR.lift {k : Nat} {args : List AV} {R0 : AV → Prop} (h : FR E P k args R0) (H : AH) : ACalls E P k args H fun r H' => R0 r ∧ ∃ n, H' = ⟨H.bs, n⟩ := by
  have := ACalls.frame (mv := []) (B := []) (args0 := args) (args := args) (H := H) (R0 := fun r _ => R0 r) (fun n => (h.ok n).mono fun r H' hr => ⟨r, ⟨[], H'.ctr⟩, by
      refine ghost_all (.cons (.same _) .nil), hr, rfl⟩) (by simp) rfl (by simp) (by rw [AV.renL_closed _ h.ca])
  refine this.mono fun r H' ⟨r0, B', n, h1, h2, h3, h4⟩ => ⟨r, H', .refl _ _, ?_, n, ?_⟩
  · rw [h3, AV.ren_closed _ (h.cr _ h1)]; exact h1
  · have hB : B' = [] := List.eq_nil_of_length_eq_zero h2
    rw [h4, hB]; simp [setL]
theorem wCall.fr {k : Nat} {args args' : List AV} {R0 : AV → Prop} {H : AH} {K : Kt} (h : FR E P k args' R0) (hs : SubL args args') (hK : ∀ r n, R0 r → K r ⟨H.bs, n⟩) : wCall E P k args H K :=
  ⟨_, ACalls.args (ghost_sub hs) (h.lift H), fun r _ ⟨h1, n, h2⟩ => h2 ▸ hK r n h1⟩
theorem wCall.fx {k : Nat} {args : List AV} {r : AV} {H : AH} {K : Kt} (h : FX E P k args r) (hK : ∀ n, K r ⟨H.bs, n⟩) : wCall E P k args H K :=
  .fr h.fr (.refl _) fun _ n e => e ▸ hK n
theorem wCall.fxs {k : Nat} {args args' : List AV} {r : AV} {H : AH} {K : Kt} (h : FX E P k args' r) (hs : SubL args args') (hK : ∀ n, K r ⟨H.bs, n⟩) : wCall E P k args H K :=
  .fr h.fr hs fun _ n e => e ▸ hK n
end
end Go.Sc
namespace Go.Sc
open Go

def gh0 (I : AH → Prop) : AH → Prop := fun H => KN.gh 0 I H
def back0 (I : Nat → AH → Prop) (m : Nat) : AH → Prop := fun H => ∃ m', m' < m ∧ gh0 (I m') H
theorem gh0.of {I : AH → Prop} {H H' : AH} (hg : Ghost [] H [] H') (h : I H') : gh0 I H := ⟨[], H', rfl, hg, h⟩
theorem gh0.mk {I : AH → Prop} {H : AH} (h : I H) : gh0 I H := gh0.of (.refl _ _) h
theorem back0.of {I : Nat → AH → Prop} {m : Nat} (m' : Nat) (hm : m' < m) {H H' : AH} (hg : Ghost [] H [] H') (h : I m' H') : back0 I m H := ⟨m', hm, gh0.of hg h⟩
theorem back0.mk {I : Nat → AH → Prop} {m : Nat} (m' : Nat) (hm : m' < m) {H : AH} (h : I m' H) : back0 I m H := back0.of m' hm (.refl _ _) h
theorem wLoop.zero {init : KN 0 → Prop} {body : KN 0 → KN 0} (I : Nat → AH → Prop) (m0 : Nat) (hi : init (gh0 (I m0))) (hb : ∀ m H, I m H → body (back0 I m) H) : wLoop 0 init body := ⟨I, ⟨m0, hi⟩, hb⟩
theorem wJoin.zero {m : KN 0 → Prop} {k : KN 0} (J : AH → Prop) (hm : m (gh0 J)) (hk : ∀ H, J H → k H) : wJoin 0 m k := ⟨J, hm, hk⟩

def gh1 (I : AV → AH → Prop) : AV → AH → Prop := fun x0 H => KN.gh 1 I x0 H
def back1 (I : Nat → AV → AH → Prop) (m : Nat) : AV → AH → Prop := fun x0 H => ∃ m', m' < m ∧ gh1 (I m') x0 H
theorem gh1.of {I : AV → AH → Prop} {x0 x0' : AV} {H H' : AH} (hg : Ghost [x0] H [x0'] H') (h : I x0' H') : gh1 I x0 H := ⟨[x0'], H', rfl, hg, h⟩
theorem gh1.mk {I : AV → AH → Prop} {x0 : AV} {H : AH} (h : I x0 H) : gh1 I x0 H := gh1.of (.refl _ _) h
theorem back1.of {I : Nat → AV → AH → Prop} {m : Nat} (m' : Nat) (hm : m' < m) {x0 x0' : AV} {H H' : AH} (hg : Ghost [x0] H [x0'] H') (h : I m' x0' H') : back1 I m x0 H := ⟨m', hm, gh1.of hg h⟩
theorem back1.mk {I : Nat → AV → AH → Prop} {m : Nat} (m' : Nat) (hm : m' < m) {x0 : AV} {H : AH} (h : I m' x0 H) : back1 I m x0 H := back1.of m' hm (.refl _ _) h
theorem wLoop.one {init : KN 1 → Prop} {body : KN 1 → KN 1} (I : Nat → AV → AH → Prop) (m0 : Nat) (hi : init (gh1 (I m0))) (hb : ∀ m x0 H, I m x0 H → body (back1 I m) x0 H) : wLoop 1 init body := ⟨I, ⟨m0, hi⟩, hb⟩
theorem wJoin.one {m : KN 1 → Prop} {k : KN 1} (J : AV → AH → Prop) (hm : m (gh1 J)) (hk : ∀ x0 H, J x0 H → k x0 H) : wJoin 1 m k := ⟨J, hm, hk⟩

def gh2 (I : AV → AV → AH → Prop) : AV → AV → AH → Prop := fun x0 x1 H => KN.gh 2 I x0 x1 H
def back2 (I : Nat → AV → AV → AH → Prop) (m : Nat) : AV → AV → AH → Prop := fun x0 x1 H => ∃ m', m' < m ∧ gh2 (I m') x0 x1 H
theorem gh2.of {I : AV → AV → AH → Prop} {x0 x1 x0' x1' : AV} {H H' : AH} (hg : Ghost [x0, x1] H [x0', x1'] H') (h : I x0' x1' H') : gh2 I x0 x1 H := ⟨[x0', x1'], H', rfl, hg, h⟩
theorem gh2.mk {I : AV → AV → AH → Prop} {x0 x1 : AV} {H : AH} (h : I x0 x1 H) : gh2 I x0 x1 H := gh2.of (.refl _ _) h
theorem back2.of {I : Nat → AV → AV → AH → Prop} {m : Nat} (m' : Nat) (hm : m' < m) {x0 x1 x0' x1' : AV} {H H' : AH} (hg : Ghost [x0, x1] H [x0', x1'] H') (h : I m' x0' x1' H') : back2 I m x0 x1 H := ⟨m', hm, gh2.of hg h⟩
theorem back2.mk {I : Nat → AV → AV → AH → Prop} {m : Nat} (m' : Nat) (hm : m' < m) {x0 x1 : AV} {H : AH} (h : I m' x0 x1 H) : back2 I m x0 x1 H := back2.of m' hm (.refl _ _) h
theorem wLoop.two {init : KN 2 → Prop} {body : KN 2 → KN 2} (I : Nat → AV → AV → AH → Prop) (m0 : Nat) (hi : init (gh2 (I m0))) (hb : ∀ m x0 x1 H, I m x0 x1 H → body (back2 I m) x0 x1 H) : wLoop 2 init body := ⟨I, ⟨m0, hi⟩, hb⟩
theorem wJoin.two {m : KN 2 → Prop} {k : KN 2} (J : AV → AV → AH → Prop) (hm : m (gh2 J)) (hk : ∀ x0 x1 H, J x0 x1 H → k x0 x1 H) : wJoin 2 m k := ⟨J, hm, hk⟩

def gh3 (I : AV → AV → AV → AH → Prop) : AV → AV → AV → AH → Prop := fun x0 x1 x2 H => KN.gh 3 I x0 x1 x2 H
def back3 (I : Nat → AV → AV → AV → AH → Prop) (m : Nat) : AV → AV → AV → AH → Prop := fun x0 x1 x2 H => ∃ m', m' < m ∧ gh3 (I m') x0 x1 x2 H
theorem gh3.of {I : AV → AV → AV → AH → Prop} {x0 x1 x2 x0' x1' x2' : AV} {H H' : AH} (hg : Ghost [x0, x1, x2] H [x0', x1', x2'] H') (h : I x0' x1' x2' H') : gh3 I x0 x1 x2 H := ⟨[x0', x1', x2'], H', rfl, hg, h⟩
theorem gh3.mk {I : AV → AV → AV → AH → Prop} {x0 x1 x2 : AV} {H : AH} (h : I x0 x1 x2 H) : gh3 I x0 x1 x2 H := gh3.of (.refl _ _) h
theorem back3.of {I : Nat → AV → AV → AV → AH → Prop} {m : Nat} (m' : Nat) (hm : m' < m) {x0 x1 x2 x0' x1' x2' : AV} {H H' : AH} (hg : Ghost [x0, x1, x2] H [x0', x1', x2'] H') (h : I m' x0' x1' x2' H') : back3 I m x0 x1 x2 H := ⟨m', hm, gh3.of hg h⟩
theorem back3.mk {I : Nat → AV → AV → AV → AH → Prop} {m : Nat} (m' : Nat) (hm : m' < m) {x0 x1 x2 : AV} {H : AH} (h : I m' x0 x1 x2 H) : back3 I m x0 x1 x2 H := back3.of m' hm (.refl _ _) h
theorem wLoop.three {init : KN 3 → Prop} {body : KN 3 → KN 3} (I : Nat → AV → AV → AV → AH → Prop) (m0 : Nat) (hi : init (gh3 (I m0))) (hb : ∀ m x0 x1 x2 H, I m x0 x1 x2 H → body (back3 I m) x0 x1 x2 H) : wLoop 3 init body := ⟨I, ⟨m0, hi⟩, hb⟩
theorem wJoin.three {m : KN 3 → Prop} {k : KN 3} (J : AV → AV → AV → AH → Prop) (hm : m (gh3 J)) (hk : ∀ x0 x1 x2 H, J x0 x1 x2 H → k x0 x1 x2 H) : wJoin 3 m k := ⟨J, hm, hk⟩

def gh4 (I : AV → AV → AV → AV → AH → Prop) : AV → AV → AV → AV → AH → Prop := fun x0 x1 x2 x3 H => KN.gh 4 I x0 x1 x2 x3 H
def back4 (I : Nat → AV → AV → AV → AV → AH → Prop) (m : Nat) : AV → AV → AV → AV → AH → Prop := fun x0 x1 x2 x3 H => ∃ m', m' < m ∧ gh4 (I m') x0 x1 x2 x3 H
theorem gh4.of {I : AV → AV → AV → AV → AH → Prop} {x0 x1 x2 x3 x0' x1' x2' x3' : AV} {H H' : AH} (hg : Ghost [x0, x1, x2, x3] H [x0', x1', x2', x3'] H') (h : I x0' x1' x2' x3' H') : gh4 I x0 x1 x2 x3 H := ⟨[x0', x1', x2', x3'], H', rfl, hg, h⟩
theorem gh4.mk {I : AV → AV → AV → AV → AH → Prop} {x0 x1 x2 x3 : AV} {H : AH} (h : I x0 x1 x2 x3 H) : gh4 I x0 x1 x2 x3 H := gh4.of (.refl _ _) h
theorem back4.of {I : Nat → AV → AV → AV → AV → AH → Prop} {m : Nat} (m' : Nat) (hm : m' < m) {x0 x1 x2 x3 x0' x1' x2' x3' : AV} {H H' : AH} (hg : Ghost [x0, x1, x2, x3] H [x0', x1', x2', x3'] H') (h : I m' x0' x1' x2' x3' H') : back4 I m x0 x1 x2 x3 H := ⟨m', hm, gh4.of hg h⟩
theorem back4.mk {I : Nat → AV → AV → AV → AV → AH → Prop} {m : Nat} (m' : Nat) (hm : m' < m) {x0 x1 x2 x3 : AV} {H : AH} (h : I m' x0 x1 x2 x3 H) : back4 I m x0 x1 x2 x3 H := back4.of m' hm (.refl _ _) h
theorem wLoop.four {init : KN 4 → Prop} {body : KN 4 → KN 4} (I : Nat → AV → AV → AV → AV → AH → Prop) (m0 : Nat) (hi : init (gh4 (I m0))) (hb : ∀ m x0 x1 x2 x3 H, I m x0 x1 x2 x3 H → body (back4 I m) x0 x1 x2 x3 H) : wLoop 4 init body := ⟨I, ⟨m0, hi⟩, hb⟩
theorem wJoin.four {m : KN 4 → Prop} {k : KN 4} (J : AV → AV → AV → AV → AH → Prop) (hm : m (gh4 J)) (hk : ∀ x0 x1 x2 x3 H, J x0 x1 x2 x3 H → k x0 x1 x2 x3 H) : wJoin 4 m k := ⟨J, hm, hk⟩

def gh5 (I : AV → AV → AV → AV → AV → AH → Prop) : AV → AV → AV → AV → AV → AH → Prop := fun x0 x1 x2 x3 x4 H => KN.gh 5 I x0 x1 x2 x3 x4 H
def back5 (I : Nat → AV → AV → AV → AV → AV → AH → Prop) (m : Nat) : AV → AV → AV → AV → AV → AH → Prop := fun x0 x1 x2 x3 x4 H => ∃ m', m' < m ∧ gh5 (I m') x0 x1 x2 x3 x4 H
theorem gh5.of {I : AV → AV → AV → AV → AV → AH → Prop} {x0 x1 x2 x3 x4 x0' x1' x2' x3' x4' : AV} {H H' : AH} (hg : Ghost [x0, x1, x2, x3, x4] H [x0', x1', x2', x3', x4'] H') (h : I x0' x1' x2' x3' x4' H') : gh5 I x0 x1 x2 x3 x4 H := ⟨[x0', x1', x2', x3', x4'], H', rfl, hg, h⟩
theorem gh5.mk {I : AV → AV → AV → AV → AV → AH → Prop} {x0 x1 x2 x3 x4 : AV} {H : AH} (h : I x0 x1 x2 x3 x4 H) : gh5 I x0 x1 x2 x3 x4 H := gh5.of (.refl _ _) h
theorem back5.of {I : Nat → AV → AV → AV → AV → AV → AH → Prop} {m : Nat} (m' : Nat) (hm : m' < m) {x0 x1 x2 x3 x4 x0' x1' x2' x3' x4' : AV} {H H' : AH} (hg : Ghost [x0, x1, x2, x3, x4] H [x0', x1', x2', x3', x4'] H') (h : I m' x0' x1' x2' x3' x4' H') : back5 I m x0 x1 x2 x3 x4 H := ⟨m', hm, gh5.of hg h⟩
theorem back5.mk {I : Nat → AV → AV → AV → AV → AV → AH → Prop} {m : Nat} (m' : Nat) (hm : m' < m) {x0 x1 x2 x3 x4 : AV} {H : AH} (h : I m' x0 x1 x2 x3 x4 H) : back5 I m x0 x1 x2 x3 x4 H := back5.of m' hm (.refl _ _) h
theorem wLoop.five {init : KN 5 → Prop} {body : KN 5 → KN 5} (I : Nat → AV → AV → AV → AV → AV → AH → Prop) (m0 : Nat) (hi : init (gh5 (I m0))) (hb : ∀ m x0 x1 x2 x3 x4 H, I m x0 x1 x2 x3 x4 H → body (back5 I m) x0 x1 x2 x3 x4 H) : wLoop 5 init body := ⟨I, ⟨m0, hi⟩, hb⟩
theorem wJoin.five {m : KN 5 → Prop} {k : KN 5} (J : AV → AV → AV → AV → AV → AH → Prop) (hm : m (gh5 J)) (hk : ∀ x0 x1 x2 x3 x4 H, J x0 x1 x2 x3 x4 H → k x0 x1 x2 x3 x4 H) : wJoin 5 m k := ⟨J, hm, hk⟩

def gh6 (I : AV → AV → AV → AV → AV → AV → AH → Prop) : AV → AV → AV → AV → AV → AV → AH → Prop := fun x0 x1 x2 x3 x4 x5 H => KN.gh 6 I x0 x1 x2 x3 x4 x5 H
def back6 (I : Nat → AV → AV → AV → AV → AV → AV → AH → Prop) (m : Nat) : AV → AV → AV → AV → AV → AV → AH → Prop := fun x0 x1 x2 x3 x4 x5 H => ∃ m', m' < m ∧ gh6 (I m') x0 x1 x2 x3 x4 x5 H
theorem gh6.of {I : AV → AV → AV → AV → AV → AV → AH → Prop} {x0 x1 x2 x3 x4 x5 x0' x1' x2' x3' x4' x5' : AV} {H H' : AH} (hg : Ghost [x0, x1, x2, x3, x4, x5] H [x0', x1', x2', x3', x4', x5'] H') (h : I x0' x1' x2' x3' x4' x5' H') : gh6 I x0 x1 x2 x3 x4 x5 H := ⟨[x0', x1', x2', x3', x4', x5'], H', rfl, hg, h⟩
theorem gh6.mk {I : AV → AV → AV → AV → AV → AV → AH → Prop} {x0 x1 x2 x3 x4 x5 : AV} {H : AH} (h : I x0 x1 x2 x3 x4 x5 H) : gh6 I x0 x1 x2 x3 x4 x5 H := gh6.of (.refl _ _) h
theorem back6.of {I : Nat → AV → AV → AV → AV → AV → AV → AH → Prop} {m : Nat} (m' : Nat) (hm : m' < m) {x0 x1 x2 x3 x4 x5 x0' x1' x2' x3' x4' x5' : AV} {H H' : AH} (hg : Ghost [x0, x1, x2, x3, x4, x5] H [x0', x1', x2', x3', x4', x5'] H') (h : I m' x0' x1' x2' x3' x4' x5' H') : back6 I m x0 x1 x2 x3 x4 x5 H := ⟨m', hm, gh6.of hg h⟩
theorem back6.mk {I : Nat → AV → AV → AV → AV → AV → AV → AH → Prop} {m : Nat} (m' : Nat) (hm : m' < m) {x0 x1 x2 x3 x4 x5 : AV} {H : AH} (h : I m' x0 x1 x2 x3 x4 x5 H) : back6 I m x0 x1 x2 x3 x4 x5 H := back6.of m' hm (.refl _ _) h
theorem wLoop.six {init : KN 6 → Prop} {body : KN 6 → KN 6} (I : Nat → AV → AV → AV → AV → AV → AV → AH → Prop) (m0 : Nat) (hi : init (gh6 (I m0))) (hb : ∀ m x0 x1 x2 x3 x4 x5 H, I m x0 x1 x2 x3 x4 x5 H → body (back6 I m) x0 x1 x2 x3 x4 x5 H) : wLoop 6 init body := ⟨I, ⟨m0, hi⟩, hb⟩
theorem wJoin.six {m : KN 6 → Prop} {k : KN 6} (J : AV → AV → AV → AV → AV → AV → AH → Prop) (hm : m (gh6 J)) (hk : ∀ x0 x1 x2 x3 x4 x5 H, J x0 x1 x2 x3 x4 x5 H → k x0 x1 x2 x3 x4 x5 H) : wJoin 6 m k := ⟨J, hm, hk⟩

def gh7 (I : AV → AV → AV → AV → AV → AV → AV → AH → Prop) : AV → AV → AV → AV → AV → AV → AV → AH → Prop := fun x0 x1 x2 x3 x4 x5 x6 H => KN.gh 7 I x0 x1 x2 x3 x4 x5 x6 H
def back7 (I : Nat → AV → AV → AV → AV → AV → AV → AV → AH → Prop) (m : Nat) : AV → AV → AV → AV → AV → AV → AV → AH → Prop := fun x0 x1 x2 x3 x4 x5 x6 H => ∃ m', m' < m ∧ gh7 (I m') x0 x1 x2 x3 x4 x5 x6 H
theorem gh7.of {I : AV → AV → AV → AV → AV → AV → AV → AH → Prop} {x0 x1 x2 x3 x4 x5 x6 x0' x1' x2' x3' x4' x5' x6' : AV} {H H' : AH} (hg : Ghost [x0, x1, x2, x3, x4, x5, x6] H [x0', x1', x2', x3', x4', x5', x6'] H') (h : I x0' x1' x2' x3' x4' x5' x6' H') : gh7 I x0 x1 x2 x3 x4 x5 x6 H := ⟨[x0', x1', x2', x3', x4', x5', x6'], H', rfl, hg, h⟩
theorem gh7.mk {I : AV → AV → AV → AV → AV → AV → AV → AH → Prop} {x0 x1 x2 x3 x4 x5 x6 : AV} {H : AH} (h : I x0 x1 x2 x3 x4 x5 x6 H) : gh7 I x0 x1 x2 x3 x4 x5 x6 H := gh7.of (.refl _ _) h
theorem back7.of {I : Nat → AV → AV → AV → AV → AV → AV → AV → AH → Prop} {m : Nat} (m' : Nat) (hm : m' < m) {x0 x1 x2 x3 x4 x5 x6 x0' x1' x2' x3' x4' x5' x6' : AV} {H H' : AH} (hg : Ghost [x0, x1, x2, x3, x4, x5, x6] H [x0', x1', x2', x3', x4', x5', x6'] H') (h : I m' x0' x1' x2' x3' x4' x5' x6' H') : back7 I m x0 x1 x2 x3 x4 x5 x6 H := ⟨m', hm, gh7.of hg h⟩
theorem back7.mk {I : Nat → AV → AV → AV → AV → AV → AV → AV → AH → Prop} {m : Nat} (m' : Nat) (hm : m' < m) {x0 x1 x2 x3 x4 x5 x6 : AV} {H : AH} (h : I m' x0 x1 x2 x3 x4 x5 x6 H) : back7 I m x0 x1 x2 x3 x4 x5 x6 H := back7.of m' hm (.refl _ _) h
theorem wLoop.seven {init : KN 7 → Prop} {body : KN 7 → KN 7} (I : Nat → AV → AV → AV → AV → AV → AV → AV → AH → Prop) (m0 : Nat) (hi : init (gh7 (I m0))) (hb : ∀ m x0 x1 x2 x3 x4 x5 x6 H, I m x0 x1 x2 x3 x4 x5 x6 H → body (back7 I m) x0 x1 x2 x3 x4 x5 x6 H) : wLoop 7 init body := ⟨I, ⟨m0, hi⟩, hb⟩
theorem wJoin.seven {m : KN 7 → Prop} {k : KN 7} (J : AV → AV → AV → AV → AV → AV → AV → AH → Prop) (hm : m (gh7 J)) (hk : ∀ x0 x1 x2 x3 x4 x5 x6 H, J x0 x1 x2 x3 x4 x5 x6 H → k x0 x1 x2 x3 x4 x5 x6 H) : wJoin 7 m k := ⟨J, hm, hk⟩

def gh8 (I : AV → AV → AV → AV → AV → AV → AV → AV → AH → Prop) : AV → AV → AV → AV → AV → AV → AV → AV → AH → Prop := fun x0 x1 x2 x3 x4 x5 x6 x7 H => KN.gh 8 I x0 x1 x2 x3 x4 x5 x6 x7 H
def back8 (I : Nat → AV → AV → AV → AV → AV → AV → AV → AV → AH → Prop) (m : Nat) : AV → AV → AV → AV → AV → AV → AV → AV → AH → Prop := fun x0 x1 x2 x3 x4 x5 x6 x7 H => ∃ m', m' < m ∧ gh8 (I m') x0 x1 x2 x3 x4 x5 x6 x7 H
theorem gh8.of {I : AV → AV → AV → AV → AV → AV → AV → AV → AH → Prop} {x0 x1 x2 x3 x4 x5 x6 x7 x0' x1' x2' x3' x4' x5' x6' x7' : AV} {H H' : AH} (hg : Ghost [x0, x1, x2, x3, x4, x5, x6, x7] H [x0', x1', x2', x3', x4', x5', x6', x7'] H') (h : I x0' x1' x2' x3' x4' x5' x6' x7' H') : gh8 I x0 x1 x2 x3 x4 x5 x6 x7 H := ⟨[x0', x1', x2', x3', x4', x5', x6', x7'], H', rfl, hg, h⟩
theorem gh8.mk {I : AV → AV → AV → AV → AV → AV → AV → AV → AH → Prop} {x0 x1 x2 x3 x4 x5 x6 x7 : AV} {H : AH} (h : I x0 x1 x2 x3 x4 x5 x6 x7 H) : gh8 I x0 x1 x2 x3 x4 x5 x6 x7 H := gh8.of (.refl _ _) h
theorem back8.of {I : Nat → AV → AV → AV → AV → AV → AV → AV → AV → AH → Prop} {m : Nat} (m' : Nat) (hm : m' < m) {x0 x1 x2 x3 x4 x5 x6 x7 x0' x1' x2' x3' x4' x5' x6' x7' : AV} {H H' : AH} (hg : Ghost [x0, x1, x2, x3, x4, x5, x6, x7] H [x0', x1', x2', x3', x4', x5', x6', x7'] H') (h : I m' x0' x1' x2' x3' x4' x5' x6' x7' H') : back8 I m x0 x1 x2 x3 x4 x5 x6 x7 H := ⟨m', hm, gh8.of hg h⟩
theorem back8.mk {I : Nat → AV → AV → AV → AV → AV → AV → AV → AV → AH → Prop} {m : Nat} (m' : Nat) (hm : m' < m) {x0 x1 x2 x3 x4 x5 x6 x7 : AV} {H : AH} (h : I m' x0 x1 x2 x3 x4 x5 x6 x7 H) : back8 I m x0 x1 x2 x3 x4 x5 x6 x7 H := back8.of m' hm (.refl _ _) h
theorem wLoop.eight {init : KN 8 → Prop} {body : KN 8 → KN 8} (I : Nat → AV → AV → AV → AV → AV → AV → AV → AV → AH → Prop) (m0 : Nat) (hi : init (gh8 (I m0))) (hb : ∀ m x0 x1 x2 x3 x4 x5 x6 x7 H, I m x0 x1 x2 x3 x4 x5 x6 x7 H → body (back8 I m) x0 x1 x2 x3 x4 x5 x6 x7 H) : wLoop 8 init body := ⟨I, ⟨m0, hi⟩, hb⟩
theorem wJoin.eight {m : KN 8 → Prop} {k : KN 8} (J : AV → AV → AV → AV → AV → AV → AV → AV → AH → Prop) (hm : m (gh8 J)) (hk : ∀ x0 x1 x2 x3 x4 x5 x6 x7 H, J x0 x1 x2 x3 x4 x5 x6 x7 H → k x0 x1 x2 x3 x4 x5 x6 x7 H) : wJoin 8 m k := ⟨J, hm, hk⟩


/-- room for new blocks -/
theorem ghost_room {bs : List Blk} {n : Nat} {xs : List AV} (ds : List Blk) (hd : ∀ x ∈ ds, x = .dead) : Ghost xs ⟨bs, n⟩ xs ⟨bs ++ ds, n⟩ := by
  refine ghost_kill (H := ⟨bs, n⟩) (H' := ⟨bs ++ ds, n⟩) (S := fun _ => false) rfl ?_ (FkL.same xs)
  have : ∀ (i : Nat) (l : List Blk), KBL ⟨bs, n⟩ (fun _ => false) i l (l ++ ds) := by
    intro i l
    induction l generalizing i with
    | nil => exact .room hd
    | cons x l ih => exact .keep rfl (KB.same x) (ih _)
  exact this 0 bs

section
variable {E : Env} {P : Program}
/-- a call that looks into memory of one's own, and whose results have no memory -/
theorem FR.borrow {k : Nat} {args args' : List AV} {R0 : AV → Prop} {H : AH} (h : FR E P k args' R0) (ha : FkL H S0 args args') (hr : ∀ r, R0 r → r.flat) : ACalls E P k args H fun r H' => R0 r ∧ ∃ n, H' = ⟨H.bs, n⟩ := by
  intro c vs hH hv o a next Q hn
  have hgh := ghost_all ha E c hH
  let c0 := c.kill S0
  have hH0 : HRel E c0 ⟨[], c.ctr⟩ := by
    refine ⟨rfl, fun b _ => by simp [c0, Cx.kill, S0], by simp, fun b hb => absurd (by simp [c0, Cx.kill, S0]) hb, by simp, fun b _ hb => absurd (by simp [c0, Cx.kill, S0]) hb, fun b hb => absurd (by simp [c0, Cx.kill, S0]) hb, ?_, hH.fclt, hH.globLe (c.kill_le S0)⟩
    rintro k (hk | ⟨b, hb, _, he⟩)
    · exact hH.fzlt k hk
    · rw [← he]; exact hH.lt b hb
  refine h.ok c.ctr c0 vs hH0 (ha.rel hH hv) o a next Q fun v w' hvw => hn v w' ?_
  obtain ⟨r, c1, H1, rfl, hr0, hH1, hv1, hL⟩ := hvw
  have hg0 : ∀ b, c0.gen b = none := fun b => by simp [c0, Cx.kill, S0]
  have hheap : ∀ k, k < c.w.heap.size → c1.w.heap[k]? = c.w.heap[k]? := fun k hk => hL.keep k hk fun b hb => absurd (hg0 b) hb
  let c2 : Cx := { w := c1.w, al := c.al, base := c.base, gen := c.gen, sz := c.sz, csz := c.csz, fz := fun k => c1.fz k ∧ ∀ b, c.gen b ≠ none → c.al b ≠ k, fc := fun k j => c.fc k j ∨ (c1.fc k j ∧ ∀ b, c.gen b ≠ none → c.al b ≠ k), ctr := c1.ctr }
  have hle : c.le c2 := {
    ctr := hL.le.ctr
    fz := fun k hk => ⟨⟨(hL.le.fz k (.inl hk)).1, fun b hb he => hH.apart b hb (he ▸ hk)⟩, hheap k (hH.fzlt k hk)⟩
    fc := fun k j hk => ⟨.inr (.inl hk), cell_of_heap (hheap k (hH.fclt k j hk)) _ _⟩
    gen := fun b g _ e => ⟨e, rfl, rfl, rfl, rfl⟩
    room := fun b g _ e j hj => by
      rcases hj with hj | ⟨_, hj⟩
      · exact hj
      · exact absurd rfl (hj b (by rw [show c.gen b = some g from e]; simp)) }
  have hsz : c.w.heap.size ≤ c1.w.heap.size := hL.size
  refine ⟨r, c2, ⟨H.bs, c1.ctr⟩, rfl, ⟨hr0, c1.ctr, rfl⟩, ⟨rfl, hH.out, fun b x hb => (hH.blk b x hb).mono hle rfl rfl rfl rfl rfl (fun hd => hheap _ (hH.lt b (hH.live' hb hd))), fun b hb hk => hk.2 b hb rfl, ?_, hH.inj, fun b hb => Nat.lt_of_lt_of_le (hH.lt b hb) hsz, fun k hk => hH1.fzlt k hk.1, ?_, hH.globLe hle⟩, VRel.ofFlat r v (hr r hr0) hv1, ?_⟩
  · intro b x hb hd ht j hj
    rcases hj with hj | ⟨_, hj⟩
    · exact hH.solid b x hb hd ht j hj
    · exact hj b (hH.live' hb hd) rfl
  · intro k j hk
    rcases hk with hk | ⟨hk, _⟩
    · exact Nat.lt_of_lt_of_le (hH.fclt k j hk) hsz
    · exact hH1.fclt k j hk
  · exact {
      le := hle
      os := hL.os
      tape := hL.tape
      output := hL.output
      size := hL.size
      keep := fun k hk _ => hheap k hk
      own := fun b hb => .inl ⟨b, hb, rfl⟩
      fz := fun k hk => by
        rcases hL.fz k hk.1 with (h1 | ⟨b, hb, _, he⟩) | h1 | ⟨b, hb, _⟩
        · exact .inl h1
        · exact absurd he (hk.2 b hb)
        · exact .inr (.inl h1)
        · exact absurd (hg0 b) hb
      fc := fun k j hk => by
        rcases hk with hk | ⟨hk, _⟩
        · exact .inl hk
        · rcases hL.fc k j hk with h1 | h1 | ⟨b, hb, _⟩
          · exact .inl h1
          · exact .inr (.inl h1)
          · exact absurd (hg0 b) hb }

theorem wCall.bo {k : Nat} {args args' : List AV} {r : AV} {H : AH} {K : Kt} (h : FX E P k args' r) (hr : r.flat) (ha : FkL H S0 args args') (hK : ∀ n, K r ⟨H.bs, n⟩) : wCall E P k args H K :=
  ⟨_, h.fr.borrow ha (fun _ e => e ▸ hr), fun x _ ⟨h1, n, h2⟩ => by subst h1; subst h2; exact hK n⟩
/-- frozen for good: by a step of the proof alone -/
theorem wCall.gh {k : Nat} {args args' : List AV} {R0 : AV → Prop} {H H' : AH} {K : Kt} (hg : Ghost args H args' H') (h : FR E P k args' R0) (hK : ∀ r n, R0 r → K r ⟨H'.bs, n⟩) : wCall E P k args H K :=
  ⟨_, ACalls.args hg (h.lift H'), fun r _ ⟨h1, n, h2⟩ => h2 ▸ hK r n h1⟩
theorem wCallV.fr {k : Nat} {fs args cs args' : List AV} {R0 : AV → Prop} {H : AH} {K : Kt} (h : FR E P k args' R0) (hs : SubL (fs ++ args ++ cs) args') (hK : ∀ r n, R0 r → K r ⟨H.bs, n⟩) : wCallV E P (.fn k fs cs) args H K :=
  ⟨k, fs, cs, rfl, _, ACalls.args (ghost_sub hs) (h.lift H), fun r _ ⟨h1, n, h2⟩ => h2 ▸ hK r n h1⟩
theorem wCallV.fx {k : Nat} {fs args cs : List AV} {r : AV} {H : AH} {K : Kt} (h : FX E P k (fs ++ args ++ cs) r) (hK : ∀ n, K r ⟨H.bs, n⟩) : wCallV E P (.fn k fs cs) args H K :=
  .fr h.fr (.refl _) fun _ n e => e ▸ hK n
theorem wCallV.bo {k : Nat} {fs args cs args' : List AV} {r : AV} {H : AH} {K : Kt} (h : FX E P k args' r) (hr : r.flat) (ha : FkL H S0 (fs ++ args ++ cs) args') (hK : ∀ n, K r ⟨H.bs, n⟩) : wCallV E P (.fn k fs cs) args H K :=
  ⟨k, fs, cs, rfl, _, h.fr.borrow ha (fun _ e => e ▸ hr), fun x _ ⟨h1, n, h2⟩ => by subst h1; subst h2; exact hK n⟩
theorem wInv.fr {f k : Nat} {a : AV} {name : String} {args args' : List AV} {R0 : AV → Prop} {H : AH} {K : Kt} (hm : MethodIs E P k name f) (h : FR E P f args' R0) (hs : SubL (a :: args) args') (hK : ∀ r n, R0 r → K r ⟨H.bs, n⟩) : wInv E P (.ifc k a) name args H K :=
  ⟨k, a, f, rfl, hm, _, ACalls.args (ghost_sub hs) (h.lift H), fun r _ ⟨h1, n, h2⟩ => h2 ▸ hK r n h1⟩
theorem wInv.fx {f k : Nat} {a : AV} {name : String} {args : List AV} {r : AV} {H : AH} {K : Kt} (hm : MethodIs E P k name f) (h : FX E P f (a :: args) r) (hK : ∀ n, K r ⟨H.bs, n⟩) : wInv E P (.ifc k a) name args H K :=
  .fr hm h.fr (.refl _) fun _ n e => e ▸ hK n

/-- a call that writes blocks of the caller's -/
theorem wCall.lc {k : Nat} {B : List Blk} {args args0 : List AV} {R0 : AV → List Blk → Prop} {H : AH} {K : Kt} (mv : List Nat) (h : LC E P k B args0 R0) (hn : mv.Nodup) (hl : mv.length = B.length)
    (hB : ∀ (i : Nat) b x, mv[i]? = some b → B[i]? = some x → H.bs[b]? = some (x.ren (rmap mv H.bs.length))) (ha : SubL args (AV.renL (rmap mv H.bs.length) args0))
    (hK : ∀ r B' n, R0 r B' → B'.length = B.length → K (r.ren (rmap mv H.bs.length)) ⟨setL H.bs mv (B'.map (Blk.ren (rmap mv H.bs.length))), n⟩) : wCall E P k args H K :=
  ⟨_, ACalls.args (ghost_sub ha) (ACalls.frame h.ok hn hl hB rfl), fun r _ ⟨r0, B', n, h1, h2, h3, h4⟩ => by subst h3; subst h4; exact hK r0 B' n h1 h2⟩
theorem wCallV.lc {k : Nat} {B : List Blk} {fs args cs args0 : List AV} {R0 : AV → List Blk → Prop} {H : AH} {K : Kt} (mv : List Nat) (h : LC E P k B args0 R0) (hn : mv.Nodup) (hl : mv.length = B.length)
    (hB : ∀ (i : Nat) b x, mv[i]? = some b → B[i]? = some x → H.bs[b]? = some (x.ren (rmap mv H.bs.length))) (ha : SubL (fs ++ args ++ cs) (AV.renL (rmap mv H.bs.length) args0))
    (hK : ∀ r B' n, R0 r B' → B'.length = B.length → K (r.ren (rmap mv H.bs.length)) ⟨setL H.bs mv (B'.map (Blk.ren (rmap mv H.bs.length))), n⟩) : wCallV E P (.fn k fs cs) args H K :=
  ⟨k, fs, cs, rfl, _, ACalls.args (ghost_sub ha) (ACalls.frame h.ok hn hl hB rfl), fun r _ ⟨r0, B', n, h1, h2, h3, h4⟩ => by subst h3; subst h4; exact hK r0 B' n h1 h2⟩
/-- of a body: nothing new is left -/
theorem LC.of0 {k : Nat} {B : List Blk} {args : List AV} {R0 : AV → List Blk → Prop} (h : ∀ n (R : Kt), (∀ r B' n', R0 r B' → B'.length = B.length → R r ⟨B', n'⟩) → ACalls E P k args ⟨B, n⟩ R) : LC E P k B args R0 where
  ok := fun n => h n _ fun _ _ _ h1 h2 => ⟨h1, h2⟩
end

/-! ### what is told of frozen memory -/
theorem FkL.length {H : AH} {S : Nat → Bool} : ∀ {xs ys : List AV}, FkL H S xs ys → xs.length = ys.length
  | _, _, .nil => rfl
  | _, _, .cons _ h => by simp [FkL.length h]
theorem FkL.crel {H : AH} {S : Nat → Bool} {E : Env} {c : Cx} (hH : HRel E c H) : ∀ {xs ys : List AV}, FkL H S xs ys → ∀ {b o : Nat}, CRel E c xs b o → CRel E (c.kill S) ys b o
  | _, _, .nil, _, _, _ => by simp [CRel]
  | _, _, .cons h1 h2, b, o, r => by
    simp only [CRel] at r ⊢
    obtain ⟨⟨hf, u, hu, hv⟩, r⟩ := r
    refine ⟨⟨hf.imp (fun h => .inl h) id, u, hu, h1 E c hH u hv⟩, FkL.crel hH h2 r⟩
theorem Fk.slN {H : AH} {S : Nat → Bool} {cs cs' : List AV} {len : Nat} (h : FkL H S cs cs') : Fk H S (.slN cs len) (.slN cs' len) := fun E c hH v r => by
  simp only [VRel] at r ⊢
  refine r.imp id ?_
  rintro ⟨p, cap, rfl, hl, r⟩
  refine ⟨p, cap, rfl, hl, r.imp id ?_⟩
  rintro ⟨b, o, rfl, hc⟩
  exact ⟨b, o, rfl, h.crel hH hc⟩
theorem Fk.slT {H : AH} {S : Nat → Bool} {b g : Nat} {cs cs' : List AV} {len : Nat} (h : FkL H S cs cs') : Fk H S (.slT b cs len g) (.slT b cs' len g) := fun E c hH v r => by
  simp only [VRel] at r ⊢
  obtain ⟨hg, p, cap, rfl, hl, r⟩ := r
  refine ⟨hg, p, cap, rfl, hl, r.imp id ?_⟩
  rintro ⟨k, o, rfl, hc, hr⟩
  refine ⟨k, o, rfl, h.crel hH hc, fun e => ?_⟩
  have e' : c.gen b = some g := by
    simp only [Cx.kill] at e
    split at e
    · cases e
    · exact e
  obtain ⟨h1, h2, h3⟩ := hr e'
  exact ⟨h1, fun j hj => h2 j (by rw [h.length]; exact hj), h3⟩
theorem Fk.ptrFF {H : AH} {S : Nat → Bool} {cs cs' : List AV} {o : Nat} (h : FkL H S cs cs') : Fk H S (.ptrF cs o) (.ptrF cs' o) := fun E c hH v r => by
  simp only [VRel] at r ⊢
  obtain ⟨b, p, rfl, hc⟩ := r
  exact ⟨b, p, rfl, h.crel hH hc⟩
theorem Gr.fk {H : AH} {S : Nat → Bool} {sz : Nat} {z : Blk} {b : Nat} {x : AV} {cs cs' : List AV} {n : Nat} (hg : Gr sz z b x cs n) (h : FkL H S cs cs') : ∃ x', Gr sz z b x' cs' n ∧ Fk H S x x' := by
  rcases hg with ⟨rfl, rfl, rfl, rfl⟩ | ⟨g, rfl, rfl⟩
  · cases h
    exact ⟨nilS, .nil, .same _⟩
  · exact ⟨_, .mk, .slT h⟩

/-! ### open orders -/
theorem wOne.mk {op : AH → Kt → Prop} {H : AH} {K : Kt} (x : AV) (h : ∀ n (K' : Kt), (∀ n', K' x ⟨H.bs, n'⟩) → op ⟨H.bs, n⟩ K') (k : K x H) : wOne op H K := ⟨x, h, k⟩
theorem wAll.mk {H : AH} {k : AH → Prop} (h : ∀ n, k ⟨H.bs, n⟩) : wAll H k := h

/-- a law's call: bodies -/
abbrev Body0 (E : Env) (P : Program) (k : Nat) (F : Env → Program → AH → Kt → Prop) : Prop := ∀ H R, F E P H R → ACalls E P k [] H R
abbrev Body1 (E : Env) (P : Program) (k : Nat) (F : Env → Program → AV → AH → Kt → Prop) : Prop := ∀ a H R, F E P a H R → ACalls E P k [a] H R
abbrev Body2 (E : Env) (P : Program) (k : Nat) (F : Env → Program → AV → AV → AH → Kt → Prop) : Prop := ∀ a b H R, F E P a b H R → ACalls E P k [a, b] H R
abbrev Body3 (E : Env) (P : Program) (k : Nat) (F : Env → Program → AV → AV → AV → AH → Kt → Prop) : Prop := ∀ a b c H R, F E P a b c H R → ACalls E P k [a, b, c] H R
abbrev Body4 (E : Env) (P : Program) (k : Nat) (F : Env → Program → AV → AV → AV → AV → AH → Kt → Prop) : Prop := ∀ a b c d H R, F E P a b c d H R → ACalls E P k [a, b, c, d] H R
abbrev Body5 (E : Env) (P : Program) (k : Nat) (F : Env → Program → AV → AV → AV → AV → AV → AH → Kt → Prop) : Prop := ∀ a b c d e H R, F E P a b c d e H R → ACalls E P k [a, b, c, d, e] H R
end Go.Sc
