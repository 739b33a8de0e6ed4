/-
  HOW A STATE OF ABSTRACT VALUES STANDS TO A FRAME AND A WORLD; WHAT A STEP MAY TURN ('Later').
-/
import Derived.Test.YtdhcpnachceklaaDoorScA
namespace Go.Sc
open Go

/-- A block of the call's own, as it lies in the world. -/
def BRel (E : Env) (c : Cx) (b : Nat) : Blk → Prop
  | .cells g sz cs => g < c.ctr ∧ c.gen b = some g ∧ c.sz b = sz ∧ ∃ (arr : List Value) (e : TypeId), c.w.heap[c.al b]? = some (.cells arr.toArray e (0, 0)) ∧ c.csz b = arr.length ∧
      ∃ p0 pre rest, arr = p0 ++ pre ++ rest ∧ p0.length = c.base b ∧ LRel E c cs pre
  | .map g ks xs => g < c.ctr ∧ c.gen b = some g ∧ ∃ es clock, c.w.heap[c.al b]? = some (.map es clock) ∧ LRel E c ks (es.toList.map (·.key)) ∧ LRel E c xs (es.toList.map (·.val))
  | .tail g sz => g < c.ctr ∧ c.gen b = some g ∧ c.sz b = sz ∧ ∃ (arr : List Value) (e : TypeId), c.w.heap[c.al b]? = some (.cells arr.toArray e (0, 0)) ∧ c.csz b = arr.length
  | .obj g o => g < c.ctr ∧ c.gen b = some g ∧ c.w.heap[c.al b]? = some o
  | .dead => c.gen b = none

structure HRel (E : Env) (c : Cx) (H : AH) : Prop where
  ctr : c.ctr = H.ctr
  out : ∀ b, H.bs[b]? = none → c.gen b = none
  blk : ∀ b x, H.bs[b]? = some x → BRel E c b x
  apart : ∀ b, c.gen b ≠ none → ¬ c.fz (c.al b)
  solid : ∀ b x, H.bs[b]? = some x → x ≠ .dead → x.isTail = false → ∀ j, ¬ c.fc (c.al b) j
  inj : ∀ b b', c.gen b ≠ none → c.gen b' ≠ none → c.al b = c.al b' → b = b'
  lt : ∀ b, c.gen b ≠ none → c.al b < c.w.heap.size
  fzlt : ∀ b, c.fz b → b < c.w.heap.size
  fclt : ∀ b j, c.fc b j → b < c.w.heap.size
  glob : ∀ g cs, E.gl g = some cs → AV.closedL cs ∧ CRel E c cs (E.gn g) 0

/-- variables stay -/
theorem HRel.globLe {E : Env} {c c' : Cx} {H : AH} (h : HRel E c H) (hle : c.le c') : ∀ g cs, E.gl g = some cs → AV.closedL cs ∧ CRel E c' cs (E.gn g) 0 := fun g cs e => ⟨(h.glob g cs e).1, CRel.le hle cs _ 0 (h.glob g cs e).2⟩

/-- What a step may turn: blocks of the call's own, and new ones. -/
structure Later (c c' : Cx) : Prop where
  le : c.le c'
  os : c'.w.os = c.w.os
  tape : c'.w.tape = c.w.tape
  output : c'.w.output = c.w.output
  size : c.w.heap.size ≤ c'.w.heap.size
  keep : ∀ k, k < c.w.heap.size → (∀ b, c.gen b ≠ none → c.al b ≠ k) → c'.w.heap[k]? = c.w.heap[k]?
  own : ∀ b, c'.gen b ≠ none → (∃ b0, c.gen b0 ≠ none ∧ c'.al b = c.al b0) ∨ c.w.heap.size ≤ c'.al b
  fz : ∀ k, c'.fz k → c.fz k ∨ c.w.heap.size ≤ k ∨ ∃ b, c.gen b ≠ none ∧ c.al b = k
  fc : ∀ k j, c'.fc k j → c.fc k j ∨ c.w.heap.size ≤ k ∨ ∃ b, c.gen b ≠ none ∧ c.al b = k

theorem Cx.le.refl (c : Cx) : c.le c := ⟨Nat.le_refl _, fun _ h => ⟨h, rfl⟩, fun _ _ h => ⟨.inr h, rfl⟩, fun _ _ _ h => ⟨h, rfl, rfl, rfl, rfl⟩, fun _ _ _ _ _ h => h⟩
theorem Later.refl (c : Cx) : Later c c where
  le := .refl c
  os := rfl
  tape := rfl
  output := rfl
  size := Nat.le_refl _
  keep := fun _ _ _ => rfl
  own := fun b h => .inl ⟨b, h, rfl⟩
  fz := fun _ h => .inl h
  fc := fun _ _ h => .inl h

theorem Cx.le.trans {a b c : Cx} (h : a.le b) (k : b.le c) : a.le c where
  ctr := Nat.le_trans h.ctr k.ctr
  fz := fun x hx => ⟨(k.fz x (h.fz x hx).1).1, by rw [(k.fz x (h.fz x hx).1).2, (h.fz x hx).2]⟩
  fc := fun x o hx => by
    obtain ⟨h1, h2⟩ := h.fc x o hx
    obtain ⟨k1, k2⟩ := k.cell h1
    exact ⟨k1, k2.trans h2⟩
  gen := fun x g hg e => by
    obtain ⟨e1, e2, e3, e4, e5⟩ := k.gen x g (Nat.lt_of_lt_of_le hg h.ctr) e
    obtain ⟨f1, f2, f3, f4, f5⟩ := h.gen x g hg e1
    exact ⟨f1, e2.trans f2, e3.trans f3, e4.trans f4, e5.trans f5⟩
  room := fun x g hg e j hj => by
    obtain ⟨e1, e2, -⟩ := k.gen x g (Nat.lt_of_lt_of_le hg h.ctr) e
    obtain ⟨f1, f2, -⟩ := h.gen x g hg e1
    refine h.room x g hg e1 j ?_
    have := k.room x g (Nat.lt_of_lt_of_le hg h.ctr) e j
    rw [f2] at this
    exact this hj

theorem Later.trans {a b c : Cx} (h : Later a b) (k : Later b c) : Later a c where
  le := h.le.trans k.le
  os := k.os.trans h.os
  tape := k.tape.trans h.tape
  output := k.output.trans h.output
  size := Nat.le_trans h.size k.size
  keep := fun i hi hn => by
    rw [k.keep i (Nat.lt_of_lt_of_le hi h.size), h.keep i hi hn]
    intro x hx e
    rcases h.own x hx with ⟨y, h1, h2⟩ | h2
    · exact hn y h1 (h2 ▸ e)
    · omega
  own := fun x hx => by
    rcases k.own x hx with ⟨y, h1, h2⟩ | h2
    · rcases h.own y h1 with ⟨z, h3, h4⟩ | h4
      · exact .inl ⟨z, h3, h2.trans h4⟩
      · exact .inr (by omega)
    · exact .inr (Nat.le_trans h.size h2)
  fz := fun i hi => by
    rcases k.fz i hi with h1 | h1 | ⟨x, h1, h2⟩
    · exact h.fz i h1
    · exact .inr (.inl (Nat.le_trans h.size h1))
    · rcases h.own x h1 with ⟨z, h3, h4⟩ | h4
      · exact .inr (.inr ⟨z, h3, by omega⟩)
      · exact .inr (.inl (by omega))
  fc := fun i j hi => by
    rcases k.fc i j hi with h1 | h1 | ⟨x, h1, h2⟩
    · exact h.fc i j h1
    · exact .inr (.inl (Nat.le_trans h.size h1))
    · rcases h.own x h1 with ⟨z, h3, h4⟩ | h4
      · exact .inr (.inr ⟨z, h3, by omega⟩)
      · exact .inr (.inl (by omega))

/-- A step of the proof alone: the same world, told otherwise. -/
def Ghost (xs : List AV) (H : AH) (xs' : List AV) (H' : AH) : Prop :=
  ∀ (E : Env) (c : Cx), HRel E c H → ∃ c', c'.w = c.w ∧ Later c c' ∧ HRel E c' H' ∧ ∀ vs, LRel E c xs vs → LRel E c' xs' vs
theorem Ghost.refl (xs : List AV) (H : AH) : Ghost xs H xs H := fun _ c h => ⟨c, rfl, Later.refl c, h, fun _ r => r⟩
theorem Ghost.trans {xs ys zs : List AV} {H H' H'' : AH} (h : Ghost xs H ys H') (k : Ghost ys H' zs H'') : Ghost xs H zs H'' := fun E c hc => by
  obtain ⟨c1, a1, a2, a3, a4⟩ := h E c hc
  obtain ⟨c2, b1, b2, b3, b4⟩ := k E c1 a3
  exact ⟨c2, b1.trans a1, a2.trans b2, b3, fun vs r => b4 vs (a4 vs r)⟩

/-- The state of a frame. -/
structure SRel (E : Env) (c : Cx) (ts : List AV) (H : AH) (a : Act) (w : World) : Prop where
  w : c.w = w
  heap : HRel E c H
  tmps : LRel E c ts a.tmps.toList
  defers : a.defers = []

theorem LRel.length {E : Env} {c : Cx} : ∀ {xs : List AV} {vs : List Value}, LRel E c xs vs → xs.length = vs.length
  | [], vs, h => by simp [LRel] at h; simp [h]
  | x :: xs, vs, h => by
    simp only [LRel] at h
    obtain ⟨u, us, rfl, _, h⟩ := h
    simp [LRel.length h]

theorem LRel.get {E : Env} {c : Cx} : ∀ {xs : List AV} {vs : List Value}, LRel E c xs vs → ∀ {i : Nat} {x : AV}, xs[i]? = some x → ∃ v, vs[i]? = some v ∧ VRel E c x v
  | [], vs, h, i, x, e => by simp at e
  | y :: xs, vs, h, i, x, e => by
    simp only [LRel] at h
    obtain ⟨u, us, rfl, hu, h⟩ := h
    cases i with
    | zero => simp at e; subst e; exact ⟨u, by simp, hu⟩
    | succ i => simpa using LRel.get h (by simpa using e)

theorem LRel.set {E : Env} {c : Cx} : ∀ {xs : List AV} {vs : List Value}, LRel E c xs vs → ∀ (i : Nat) {x : AV} {v : Value}, VRel E c x v → LRel E c (xs.set i x) (vs.set i v)
  | [], vs, h, i, x, v, hv => by simp [LRel] at h; subst h; simp [LRel]
  | y :: xs, vs, h, i, x, v, hv => by
    simp only [LRel] at h
    obtain ⟨u, us, rfl, hu, h⟩ := h
    cases i with
    | zero => simp only [List.set_cons_zero, LRel]; exact ⟨v, us, rfl, hv, h⟩
    | succ i => simp only [List.set_cons_succ, LRel]; exact ⟨u, _, rfl, hu, LRel.set h i hv⟩

theorem LRel.append {E : Env} {c : Cx} : ∀ {xs ys : List AV} {vs us : List Value}, LRel E c xs vs → LRel E c ys us → LRel E c (xs ++ ys) (vs ++ us)
  | [], ys, vs, us, h, k => by simp [LRel] at h; subst h; simpa using k
  | x :: xs, ys, vs, us, h, k => by
    simp only [LRel] at h
    obtain ⟨u, us', rfl, hu, h⟩ := h
    simp only [List.cons_append, LRel]
    exact ⟨u, _, rfl, hu, LRel.append h k⟩

theorem LRel.split {E : Env} {c : Cx} : ∀ {xs ys : List AV} {vs : List Value}, LRel E c (xs ++ ys) vs → ∃ us ws, vs = us ++ ws ∧ LRel E c xs us ∧ LRel E c ys ws
  | [], ys, vs, h => ⟨[], vs, rfl, by simp [LRel], by simpa using h⟩
  | x :: xs, ys, vs, h => by
    simp only [List.cons_append, LRel] at h
    obtain ⟨u, us, rfl, hu, h⟩ := h
    obtain ⟨a, b, rfl, h1, h2⟩ := LRel.split h
    exact ⟨u :: a, b, rfl, by simp only [LRel]; exact ⟨u, a, rfl, hu, h1⟩, h2⟩

theorem LRel.drop {E : Env} {c : Cx} {xs : List AV} {vs : List Value} (h : LRel E c xs vs) (n : Nat) : LRel E c (xs.drop n) (vs.drop n) := by
  induction n generalizing xs vs with
  | zero => simpa using h
  | succ n ih =>
    cases xs with
    | nil => simp [LRel] at h; subst h; simp [LRel]
    | cons x xs =>
      simp only [LRel] at h
      obtain ⟨u, us, rfl, _, h⟩ := h
      simpa using ih h

theorem LRel.take {E : Env} {c : Cx} {xs : List AV} {vs : List Value} (h : LRel E c xs vs) (n : Nat) : LRel E c (xs.take n) (vs.take n) := by
  induction n generalizing xs vs with
  | zero => simp [LRel]
  | succ n ih =>
    cases xs with
    | nil => simp [LRel] at h; subst h; simp [LRel]
    | cons x xs =>
      simp only [LRel] at h
      obtain ⟨u, us, rfl, hu, h⟩ := h
      simp only [List.take_succ_cons, LRel]
      exact ⟨u, _, rfl, hu, ih h⟩

theorem LRel.replicate {E : Env} {c : Cx} {x : AV} {v : Value} (h : VRel E c x v) : ∀ n, LRel E c (List.replicate n x) (List.replicate n v)
  | 0 => by simp [LRel]
  | n + 1 => by simp only [List.replicate_succ, LRel]; exact ⟨v, _, rfl, h, LRel.replicate h n⟩

theorem CRel.get {E : Env} {c : Cx} : ∀ {xs : List AV} {b o : Nat}, CRel E c xs b o → ∀ {i : Nat} {x : AV}, xs[i]? = some x → ∃ v, c.w.cell? ⟨b, o + i, none⟩ = some v ∧ VRel E c x v
  | [], b, o, h, i, x, e => by simp at e
  | y :: xs, b, o, h, i, x, e => by
    simp only [CRel] at h
    obtain ⟨⟨_, u, h1, h2⟩, h⟩ := h
    cases i with
    | zero => simp at e; subst e; exact ⟨u, by simpa using h1, h2⟩
    | succ i =>
      obtain ⟨v, h3, h4⟩ := CRel.get h (by simpa using e : xs[i]? = some x)
      exact ⟨v, by rw [← h3]; congr 2; omega, h4⟩
theorem CRel.frz {E : Env} {c : Cx} : ∀ {xs : List AV} {b o : Nat}, CRel E c xs b o → ∀ {i : Nat}, i < xs.length → c.fz b ∨ c.fc b (o + i)
  | [], b, o, h, i, e => by simp at e
  | y :: xs, b, o, h, i, e => by
    simp only [CRel] at h
    obtain ⟨⟨h0, _⟩, h⟩ := h
    cases i with
    | zero => simpa using h0
    | succ i =>
      have := CRel.frz h (i := i) (by simpa using e)
      rwa [show o + 1 + i = o + (i + 1) by omega] at this
theorem CRel.of {E : Env} {c : Cx} {b : Nat} : ∀ {xs : List AV} {o : Nat}, (∀ (i : Nat) x, xs[i]? = some x → (c.fz b ∨ c.fc b (o + i)) ∧ ∃ u, c.w.cell? ⟨b, o + i, none⟩ = some u ∧ VRel E c x u) → CRel E c xs b o
  | [], _, _ => by simp [CRel]
  | x :: xs, o, h => by
    simp only [CRel]
    refine ⟨by simpa using h 0 x rfl, CRel.of fun i y hy => ?_⟩
    have := h (i + 1) y (by simpa using hy)
    rwa [show o + (i + 1) = o + 1 + i by omega] at this
theorem CRel.append {E : Env} {c : Cx} : ∀ {xs ys : List AV} {b o : Nat}, CRel E c xs b o → CRel E c ys b (o + xs.length) → CRel E c (xs ++ ys) b o
  | [], ys, b, o, _, k => by simpa using k
  | x :: xs, ys, b, o, h, k => by
    simp only [List.cons_append, CRel] at h ⊢
    exact ⟨h.1, CRel.append h.2 (by rwa [show o + 1 + xs.length = o + (x :: xs).length by simp; omega])⟩
theorem CRel.drop {E : Env} {c : Cx} : ∀ (n : Nat) {xs : List AV} {b o : Nat}, CRel E c xs b o → CRel E c (xs.drop n) b (o + n)
  | 0, xs, b, o, h => by simpa using h
  | n + 1, [], b, o, h => by simp [CRel]
  | n + 1, x :: xs, b, o, h => by
    simp only [CRel] at h
    have := CRel.drop n h.2
    rw [List.drop_succ_cons, show o + (n + 1) = o + 1 + n by omega]; exact this
theorem CRel.take {E : Env} {c : Cx} : ∀ (n : Nat) {xs : List AV} {b o : Nat}, CRel E c xs b o → CRel E c (xs.take n) b o
  | 0, xs, b, o, h => by simp [CRel]
  | n + 1, [], b, o, h => by simp [CRel]
  | n + 1, x :: xs, b, o, h => by
    simp only [List.take_succ_cons, CRel] at h ⊢
    exact ⟨h.1, CRel.take n h.2⟩
end Go.Sc
