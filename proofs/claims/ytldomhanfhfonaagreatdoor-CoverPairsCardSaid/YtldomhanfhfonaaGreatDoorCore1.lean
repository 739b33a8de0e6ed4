/- THE ABSTRACT VALUES, AND HOW THEY STAND TO THE MODEL's VALUES: no dump, no seat.
  'AV': what a value is, without addresses: frozen memory (what nobody writes any more) stands in the value itself, memory of the call's own stands in a list of blocks ('AH').
  'VRel': which values of the model an abstract one stands for, in a context 'Cx' (a world, the blocks' places in it, what is frozen). HOW A STATE OF ABSTRACT VALUES STANDS TO A FRAME AND A WORLD; WHAT A STEP MAY TURN ('Later'). WHAT A FUNCTION'S CODE COMES TO ON ABSTRACT VALUES: 'wpC', a statement out of the code, of nodes that stand for the model's operations. HOW A CONTEXT GOES ON: a new block, a store, an append. (of the seat YtldomhanfhfonaaGreatDoor) -/
import Derived.Calls
import Derived.StillTail
import Derived.Laws.Cells
import Derived.Laws.CopyRow
namespace Go.Sc
open Go
/-- An abstract value. -/
inductive AV where
  | junk
  | val (v : Value)
  | ptrL (b off g : Nat)
  | ptrF (cs : List AV) (off : Nat)
  | slL (b off len g : Nat)
  | slF (cs : List AV) (off len : Nat)
  /-- a frozen slice that may be nil -/
  | slN (cs : List AV) (len : Nat)
  /-- a slice whose contents are frozen, and that may grow: while block 'b' is '.tail g' -/
  | slT (b : Nat) (cs : List AV) (len g : Nat)
  | agg (cs : List AV)
  | tup (vs : List AV)
  | ifc (k : Nat) (a : AV)
  | fn (k : Nat) (fs cs : List AV)
  | mapL (b g : Nat)
  | mapF (ks vs : List AV)
  deriving Inhabited

/-- A block of the call's own. -/
inductive Blk where
  | cells (g sz : Nat) (cs : List AV)
  | map (g : Nat) (ks vs : List AV)
  /-- room behind a slice that grows -/
  | tail (g sz : Nat)
  /-- an object of the model's (an iterator) -/
  | obj (g : Nat) (o : Obj)
  | dead
  deriving Inhabited
def Blk.g : Blk → Nat
  | .cells g _ _ => g
  | .map g _ _ => g
  | .tail g _ => g
  | .obj g _ => g
  | .dead => 0
def Blk.isTail : Blk → Bool
  | .tail _ _ => true
  | _ => false

/-- Memory of the call's own. -/
structure AH where
  bs : List Blk
  ctr : Nat
  deriving Inhabited

/-- How a seat's numbers stand to ours. -/
structure Env where
  ty : Nat → Nat
  tk : Nat → Nat
  fn : Nat → Nat
  fk : Nat → Nat
  gn : Nat → Nat := id
  gk : Nat → Nat := id
  /-- package-level variables whose contents are known -/
  gl : Nat → Option (List AV) := fun _ => none

/-! ### values without blocks of the call's own -/
mutual
def AV.closed : AV → Prop
  | .junk => True
  | .val _ => True
  | .ptrL _ _ _ => False
  | .ptrF cs _ => AV.closedL cs
  | .slL _ _ _ _ => False
  | .slF cs _ _ => AV.closedL cs
  | .slN cs _ => AV.closedL cs
  | .slT _ _ _ _ => False
  | .agg cs => AV.closedL cs
  | .tup cs => AV.closedL cs
  | .ifc _ a => AV.closed a
  | .fn _ fs cs => AV.closedL fs ∧ AV.closedL cs
  | .mapL _ _ => False
  | .mapF ks vs => AV.closedL ks ∧ AV.closedL vs
def AV.closedL : List AV → Prop
  | [] => True
  | x :: xs => AV.closed x ∧ AV.closedL xs
end
/-- A context. -/
structure Cx where
  w : World
  al : Nat → Nat
  base : Nat → Nat
  gen : Nat → Option Nat
  sz : Nat → Nat
  csz : Nat → Nat
  /-- frozen blocks -/
  fz : Nat → Prop
  /-- frozen cells -/
  fc : Nat → Nat → Prop
  ctr : Nat

mutual
def VRel (E : Env) (c : Cx) : AV → Value → Prop
  | .junk, _ => True
  | .val u, v => v = u
  | .ptrL b off g, v => g < c.ctr ∧ ∃ p, v = .pointer (some p) ∧ (c.gen b = some g → p = ⟨c.al b, c.base b + off, none⟩)
  | .ptrF cs off, v => ∃ b o, v = .pointer (some ⟨b, o + off, none⟩) ∧ CRel E c cs b o
  | .slL b off len g, v => g < c.ctr ∧ ∃ p cap, v = .slice (some p) len cap ∧ len ≤ cap ∧ (c.gen b = some g → cap = 0 ∨ (p = ⟨c.al b, c.base b + off, none⟩ ∧ c.base b + off + cap * c.sz b = c.csz b))
  | .slF cs off len, v => ∃ p cap, v = .slice (some p) len cap ∧ len ≤ cap ∧ (cap = 0 ∨ ∃ b o, p = ⟨b, o + off, none⟩ ∧ CRel E c cs b o)
  | .slN cs len, v => (v = .slice none 0 0 ∧ len = 0) ∨ ∃ p cap, v = .slice (some p) len cap ∧ len ≤ cap ∧ (cap = 0 ∨ ∃ b o, p = ⟨b, o, none⟩ ∧ CRel E c cs b o)
  | .slT b cs len g, v => g < c.ctr ∧ ∃ p cap, v = .slice (some p) len cap ∧ len ≤ cap ∧ (cap = 0 ∨ ∃ k o, p = ⟨k, o, none⟩ ∧ CRel E c cs k o ∧
      (c.gen b = some g → k = c.al b ∧ (∀ j, o + cs.length ≤ j → ¬ c.fc k j) ∧ o + cap * c.sz b = c.csz b))
  | .agg cs, v => ∃ vs : List Value, v = .agg vs.toArray ∧ LRel E c cs vs
  | .tup xs, v => ∃ vs : List Value, v = .tuple vs.toArray ∧ LRel E c xs vs
  | .ifc k a, v => ∃ u, v = .iface (E.ty k) u ∧ E.tk (E.ty k) = k ∧ VRel E c a u
  | .fn k fs cs, v => ∃ gs ds : List Value, v = .func (.func (E.fn k)) gs.toArray ds.toArray ∧ LRel E c fs gs ∧ LRel E c cs ds
  | .mapL b g, v => g < c.ctr ∧ ∃ r, v = .map (some r) ∧ (c.gen b = some g → r = c.al b)
  | .mapF ks xs, v => ∃ r es clock, v = .map (some r) ∧ c.fz r ∧ c.w.heap[r]? = some (.map es clock) ∧ LRel E c ks (es.toList.map (·.key)) ∧ LRel E c xs (es.toList.map (·.val))
def LRel (E : Env) (c : Cx) : List AV → List Value → Prop
  | [], vs => vs = []
  | x :: xs, vs => ∃ u us, vs = u :: us ∧ VRel E c x u ∧ LRel E c xs us
/-- frozen cells -/
def CRel (E : Env) (c : Cx) : List AV → Nat → Nat → Prop
  | [], _, _ => True
  | x :: xs, b, o => ((c.fz b ∨ c.fc b o) ∧ ∃ u, c.w.cell? ⟨b, o, none⟩ = some u ∧ VRel E c x u) ∧ CRel E c xs b (o + 1)
end
/-- What stood keeps standing. -/
structure Cx.le (c c' : Cx) : Prop where
  ctr : c.ctr ≤ c'.ctr
  fz : ∀ b, c.fz b → c'.fz b ∧ c'.w.heap[b]? = c.w.heap[b]?
  fc : ∀ b o, c.fc b o → (c'.fz b ∨ c'.fc b o) ∧ c'.w.cell? ⟨b, o, none⟩ = c.w.cell? ⟨b, o, none⟩
  gen : ∀ b g, g < c.ctr → c'.gen b = some g → c.gen b = some g ∧ c'.al b = c.al b ∧ c'.base b = c.base b ∧ c'.sz b = c.sz b ∧ c'.csz b = c.csz b
  /-- no cell behind what stands of a slice that may grow becomes frozen, unless the slice grows (and is of another generation) -/
  room : ∀ b g, g < c.ctr → c'.gen b = some g → ∀ j, c'.fc (c.al b) j → c.fc (c.al b) j

theorem cell_of_heap {w w' : World} {b : Nat} (h : w'.heap[b]? = w.heap[b]?) (o : Nat) (s : Option Nat) : w'.cell? ⟨b, o, s⟩ = w.cell? ⟨b, o, s⟩ := by
  simp [World.cell?, h]
theorem Cx.le.cell {c c' : Cx} (h : c.le c') {b o : Nat} (hf : c.fz b ∨ c.fc b o) : (c'.fz b ∨ c'.fc b o) ∧ c'.w.cell? ⟨b, o, none⟩ = c.w.cell? ⟨b, o, none⟩ := by
  rcases hf with hf | hf
  · exact ⟨.inl (h.fz b hf).1, cell_of_heap (h.fz b hf).2 _ _⟩
  · exact h.fc b o hf

mutual
theorem VRel.le {E : Env} {c c' : Cx} (h : c.le c') : ∀ (a : AV) (v : Value), VRel E c a v → VRel E c' a v
  | .junk, _, _ => by simp [VRel]
  | .val u, v, r => by simpa [VRel] using r
  | .ptrL b off g, v, r => by
    simp only [VRel] at r ⊢
    obtain ⟨hg, p, rfl, r⟩ := r
    exact ⟨Nat.lt_of_lt_of_le hg h.ctr, p, rfl, fun e => by obtain ⟨e1, e2, e3, -⟩ := h.gen b g hg e; rw [e2, e3]; exact r e1⟩
  | .ptrF cs off, v, r => by
    simp only [VRel] at r ⊢
    obtain ⟨b, o, rfl, hc⟩ := r
    exact ⟨b, o, rfl, CRel.le h cs b o hc⟩
  | .slL b off len g, v, r => by
    simp only [VRel] at r ⊢
    obtain ⟨hg, p, cap, rfl, hl, r⟩ := r
    exact ⟨Nat.lt_of_lt_of_le hg h.ctr, p, cap, rfl, hl, fun e => by obtain ⟨e1, e2, e3, e4, e5⟩ := h.gen b g hg e; rw [e2, e3, e4, e5]; exact r e1⟩
  | .slF cs off len, v, r => by
    simp only [VRel] at r ⊢
    obtain ⟨p, cap, rfl, hl, r⟩ := r
    refine ⟨p, cap, rfl, hl, r.imp id ?_⟩
    rintro ⟨b, o, rfl, hc⟩
    exact ⟨b, o, rfl, CRel.le h cs b o hc⟩
  | .slN cs len, v, r => by
    simp only [VRel] at r ⊢
    refine r.imp id ?_
    rintro ⟨p, cap, rfl, hl, r⟩
    refine ⟨p, cap, rfl, hl, r.imp id ?_⟩
    rintro ⟨b, o, rfl, hc⟩
    exact ⟨b, o, rfl, CRel.le h cs b o hc⟩
  | .slT b cs len g, v, r => by
    simp only [VRel] at r ⊢
    obtain ⟨hg, p, cap, rfl, hl, r⟩ := r
    refine ⟨Nat.lt_of_lt_of_le hg h.ctr, p, cap, rfl, hl, r.imp id ?_⟩
    rintro ⟨k, o, rfl, hc, r⟩
    refine ⟨k, o, rfl, CRel.le h cs k o hc, fun e => ?_⟩
    obtain ⟨e1, e2, e3, e4, e5⟩ := h.gen b g hg e
    obtain ⟨r1, r2, r3⟩ := r e1
    refine ⟨r1.trans e2.symm, fun j hj hf => r2 j hj ?_, by rw [e4, e5]; exact r3⟩
    rw [r1] at hf ⊢
    exact h.room b g hg e j hf
  | .agg cs, v, r => by
    simp only [VRel] at r ⊢
    obtain ⟨vs, rfl, hl⟩ := r
    exact ⟨vs, rfl, LRel.le h cs vs hl⟩
  | .tup cs, v, r => by
    simp only [VRel] at r ⊢
    obtain ⟨vs, rfl, hl⟩ := r
    exact ⟨vs, rfl, LRel.le h cs vs hl⟩
  | .ifc k a, v, r => by
    simp only [VRel] at r ⊢
    obtain ⟨u, rfl, hk, hl⟩ := r
    exact ⟨u, rfl, hk, VRel.le h a u hl⟩
  | .fn k fs cs, v, r => by
    simp only [VRel] at r ⊢
    obtain ⟨gs, ds, rfl, h1, h2⟩ := r
    exact ⟨gs, ds, rfl, LRel.le h fs gs h1, LRel.le h cs ds h2⟩
  | .mapL b g, v, r => by
    simp only [VRel] at r ⊢
    obtain ⟨hg, p, rfl, r⟩ := r
    exact ⟨Nat.lt_of_lt_of_le hg h.ctr, p, rfl, fun e => by obtain ⟨e1, e2, -⟩ := h.gen b g hg e; rw [e2]; exact r e1⟩
  | .mapF ks xs, v, r => by
    simp only [VRel] at r ⊢
    obtain ⟨m, es, clock, rfl, hf, hm, h1, h2⟩ := r
    exact ⟨m, es, clock, rfl, (h.fz m hf).1, by rw [(h.fz m hf).2]; exact hm, LRel.le h ks _ h1, LRel.le h xs _ h2⟩
theorem LRel.le {E : Env} {c c' : Cx} (h : c.le c') : ∀ (xs : List AV) (vs : List Value), LRel E c xs vs → LRel E c' xs vs
  | [], vs, r => by simpa [LRel] using r
  | x :: xs, vs, r => by
    simp only [LRel] at r ⊢
    obtain ⟨u, us, rfl, h1, h2⟩ := r
    exact ⟨u, us, rfl, VRel.le h x u h1, LRel.le h xs us h2⟩
theorem CRel.le {E : Env} {c c' : Cx} (h : c.le c') : ∀ (xs : List AV) (b o : Nat), CRel E c xs b o → CRel E c' xs b o
  | [], _, _, _ => by simp [CRel]
  | x :: xs, b, o, r => by
    simp only [CRel] at r ⊢
    obtain ⟨⟨hf, u, h1, h2⟩, h3⟩ := r
    obtain ⟨k1, k2⟩ := h.cell hf
    exact ⟨⟨k1, u, by rw [k2]; exact h1, VRel.le h x u h2⟩, CRel.le h xs b (o + 1) h3⟩
end
end Go.Sc
namespace Go.Sc
open Go
/-- A block of the call's own, as it lies in the world. -/
def BRel (E : Env) (c : Cx) (b : Nat) : Blk → Prop
  | .cells g sz cs => g < c.ctr ∧ c.gen b = some g ∧ c.sz b = sz ∧ ∃ (arr : List Value) (e : TypeId), c.w.heap[c.al b]? = some (.cells arr.toArray e (0, 0)) ∧ c.csz b = arr.length ∧
      ∃ p0 pre rest, arr = p0 ++ pre ++ rest ∧ p0.length = c.base b ∧ LRel E c cs pre
  | .map g ks xs => g < c.ctr ∧ c.gen b = some g ∧ ∃ es clock, c.w.heap[c.al b]? = some (.map es clock) ∧ LRel E c ks (es.toList.map (·.key)) ∧ LRel E c xs (es.toList.map (·.val))
  | .tail g sz => g < c.ctr ∧ c.gen b = some g ∧ c.sz b = sz ∧ ∃ (arr : List Value) (e : TypeId), c.w.heap[c.al b]? = some (.cells arr.toArray e (0, 0)) ∧ c.csz b = arr.length
  | .obj g o => g < c.ctr ∧ c.gen b = some g ∧ c.w.heap[c.al b]? = some o
  | .dead => c.gen b = none

structure HRel (E : Env) (c : Cx) (H : AH) : Prop where
  ctr : c.ctr = H.ctr
  out : ∀ b, H.bs[b]? = none → c.gen b = none
  blk : ∀ b x, H.bs[b]? = some x → BRel E c b x
  apart : ∀ b, c.gen b ≠ none → ¬ c.fz (c.al b)
  solid : ∀ b x, H.bs[b]? = some x → x ≠ .dead → x.isTail = false → ∀ j, ¬ c.fc (c.al b) j
  inj : ∀ b b', c.gen b ≠ none → c.gen b' ≠ none → c.al b = c.al b' → b = b'
  lt : ∀ b, c.gen b ≠ none → c.al b < c.w.heap.size
  fzlt : ∀ b, c.fz b → b < c.w.heap.size
  fclt : ∀ b j, c.fc b j → b < c.w.heap.size
  glob : ∀ g cs, E.gl g = some cs → AV.closedL cs ∧ CRel E c cs (E.gn g) 0

/-- variables stay -/
theorem HRel.globLe {E : Env} {c c' : Cx} {H : AH} (h : HRel E c H) (hle : c.le c') : ∀ g cs, E.gl g = some cs → AV.closedL cs ∧ CRel E c' cs (E.gn g) 0 := fun g cs e => ⟨(h.glob g cs e).1, CRel.le hle cs _ 0 (h.glob g cs e).2⟩

/-- What a step may turn: blocks of the call's own, and new ones. -/
structure Later (c c' : Cx) : Prop where
  le : c.le c'
  os : c'.w.os = c.w.os
  tape : c'.w.tape = c.w.tape
  output : c'.w.output = c.w.output
  size : c.w.heap.size ≤ c'.w.heap.size
  keep : ∀ k, k < c.w.heap.size → (∀ b, c.gen b ≠ none → c.al b ≠ k) → c'.w.heap[k]? = c.w.heap[k]?
  own : ∀ b, c'.gen b ≠ none → (∃ b0, c.gen b0 ≠ none ∧ c'.al b = c.al b0) ∨ c.w.heap.size ≤ c'.al b
  fz : ∀ k, c'.fz k → c.fz k ∨ c.w.heap.size ≤ k ∨ ∃ b, c.gen b ≠ none ∧ c.al b = k
  fc : ∀ k j, c'.fc k j → c.fc k j ∨ c.w.heap.size ≤ k ∨ ∃ b, c.gen b ≠ none ∧ c.al b = k

theorem Cx.le.refl (c : Cx) : c.le c := ⟨Nat.le_refl _, fun _ h => ⟨h, rfl⟩, fun _ _ h => ⟨.inr h, rfl⟩, fun _ _ _ h => ⟨h, rfl, rfl, rfl, rfl⟩, fun _ _ _ _ _ h => h⟩
theorem Later.refl (c : Cx) : Later c c where
  le := .refl c
  os := rfl
  tape := rfl
  output := rfl
  size := Nat.le_refl _
  keep := fun _ _ _ => rfl
  own := fun b h => .inl ⟨b, h, rfl⟩
  fz := fun _ h => .inl h
  fc := fun _ _ h => .inl h

theorem Cx.le.trans {a b c : Cx} (h : a.le b) (k : b.le c) : a.le c where
  ctr := Nat.le_trans h.ctr k.ctr
  fz := fun x hx => ⟨(k.fz x (h.fz x hx).1).1, by rw [(k.fz x (h.fz x hx).1).2, (h.fz x hx).2]⟩
  fc := fun x o hx => by
    obtain ⟨h1, h2⟩ := h.fc x o hx
    obtain ⟨k1, k2⟩ := k.cell h1
    exact ⟨k1, k2.trans h2⟩
  gen := fun x g hg e => by
    obtain ⟨e1, e2, e3, e4, e5⟩ := k.gen x g (Nat.lt_of_lt_of_le hg h.ctr) e
    obtain ⟨f1, f2, f3, f4, f5⟩ := h.gen x g hg e1
    exact ⟨f1, e2.trans f2, e3.trans f3, e4.trans f4, e5.trans f5⟩
  room := fun x g hg e j hj => by
    obtain ⟨e1, e2, -⟩ := k.gen x g (Nat.lt_of_lt_of_le hg h.ctr) e
    obtain ⟨f1, f2, -⟩ := h.gen x g hg e1
    refine h.room x g hg e1 j ?_
    have := k.room x g (Nat.lt_of_lt_of_le hg h.ctr) e j
    rw [f2] at this
    exact this hj

theorem Later.trans {a b c : Cx} (h : Later a b) (k : Later b c) : Later a c where
  le := h.le.trans k.le
  os := k.os.trans h.os
  tape := k.tape.trans h.tape
  output := k.output.trans h.output
  size := Nat.le_trans h.size k.size
  keep := fun i hi hn => by
    rw [k.keep i (Nat.lt_of_lt_of_le hi h.size), h.keep i hi hn]
    intro x hx e
    rcases h.own x hx with ⟨y, h1, h2⟩ | h2
    · exact hn y h1 (h2 ▸ e)
    · omega
  own := fun x hx => by
    rcases k.own x hx with ⟨y, h1, h2⟩ | h2
    · rcases h.own y h1 with ⟨z, h3, h4⟩ | h4
      · exact .inl ⟨z, h3, h2.trans h4⟩
      · exact .inr (by omega)
    · exact .inr (Nat.le_trans h.size h2)
  fz := fun i hi => by
    rcases k.fz i hi with h1 | h1 | ⟨x, h1, h2⟩
    · exact h.fz i h1
    · exact .inr (.inl (Nat.le_trans h.size h1))
    · rcases h.own x h1 with ⟨z, h3, h4⟩ | h4
      · exact .inr (.inr ⟨z, h3, by omega⟩)
      · exact .inr (.inl (by omega))
  fc := fun i j hi => by
    rcases k.fc i j hi with h1 | h1 | ⟨x, h1, h2⟩
    · exact h.fc i j h1
    · exact .inr (.inl (Nat.le_trans h.size h1))
    · rcases h.own x h1 with ⟨z, h3, h4⟩ | h4
      · exact .inr (.inr ⟨z, h3, by omega⟩)
      · exact .inr (.inl (by omega))

/-- A step of the proof alone: the same world, told otherwise. -/
def Ghost (xs : List AV) (H : AH) (xs' : List AV) (H' : AH) : Prop :=
  ∀ (E : Env) (c : Cx), HRel E c H → ∃ c', c'.w = c.w ∧ Later c c' ∧ HRel E c' H' ∧ ∀ vs, LRel E c xs vs → LRel E c' xs' vs
theorem Ghost.refl (xs : List AV) (H : AH) : Ghost xs H xs H := fun _ c h => ⟨c, rfl, Later.refl c, h, fun _ r => r⟩
theorem Ghost.trans {xs ys zs : List AV} {H H' H'' : AH} (h : Ghost xs H ys H') (k : Ghost ys H' zs H'') : Ghost xs H zs H'' := fun E c hc => by
  obtain ⟨c1, a1, a2, a3, a4⟩ := h E c hc
  obtain ⟨c2, b1, b2, b3, b4⟩ := k E c1 a3
  exact ⟨c2, b1.trans a1, a2.trans b2, b3, fun vs r => b4 vs (a4 vs r)⟩

theorem LRel.length {E : Env} {c : Cx} : ∀ {xs : List AV} {vs : List Value}, LRel E c xs vs → xs.length = vs.length
  | [], vs, h => by simp [LRel] at h; simp [h]
  | x :: xs, vs, h => by
    simp only [LRel] at h
    obtain ⟨u, us, rfl, _, h⟩ := h
    simp [LRel.length h]

theorem LRel.get {E : Env} {c : Cx} : ∀ {xs : List AV} {vs : List Value}, LRel E c xs vs → ∀ {i : Nat} {x : AV}, xs[i]? = some x → ∃ v, vs[i]? = some v ∧ VRel E c x v
  | [], vs, h, i, x, e => by simp at e
  | y :: xs, vs, h, i, x, e => by
    simp only [LRel] at h
    obtain ⟨u, us, rfl, hu, h⟩ := h
    cases i with
    | zero => simp at e; subst e; exact ⟨u, by simp, hu⟩
    | succ i => simpa using LRel.get h (by simpa using e)

theorem LRel.set {E : Env} {c : Cx} : ∀ {xs : List AV} {vs : List Value}, LRel E c xs vs → ∀ (i : Nat) {x : AV} {v : Value}, VRel E c x v → LRel E c (xs.set i x) (vs.set i v)
  | [], vs, h, i, x, v, hv => by simp [LRel] at h; subst h; simp [LRel]
  | y :: xs, vs, h, i, x, v, hv => by
    simp only [LRel] at h
    obtain ⟨u, us, rfl, hu, h⟩ := h
    cases i with
    | zero => simp only [List.set_cons_zero, LRel]; exact ⟨v, us, rfl, hv, h⟩
    | succ i => simp only [List.set_cons_succ, LRel]; exact ⟨u, _, rfl, hu, LRel.set h i hv⟩

theorem LRel.append {E : Env} {c : Cx} : ∀ {xs ys : List AV} {vs us : List Value}, LRel E c xs vs → LRel E c ys us → LRel E c (xs ++ ys) (vs ++ us)
  | [], ys, vs, us, h, k => by simp [LRel] at h; subst h; simpa using k
  | x :: xs, ys, vs, us, h, k => by
    simp only [LRel] at h
    obtain ⟨u, us', rfl, hu, h⟩ := h
    simp only [List.cons_append, LRel]
    exact ⟨u, _, rfl, hu, LRel.append h k⟩

theorem LRel.split {E : Env} {c : Cx} : ∀ {xs ys : List AV} {vs : List Value}, LRel E c (xs ++ ys) vs → ∃ us ws, vs = us ++ ws ∧ LRel E c xs us ∧ LRel E c ys ws
  | [], ys, vs, h => ⟨[], vs, rfl, by simp [LRel], by simpa using h⟩
  | x :: xs, ys, vs, h => by
    simp only [List.cons_append, LRel] at h
    obtain ⟨u, us, rfl, hu, h⟩ := h
    obtain ⟨a, b, rfl, h1, h2⟩ := LRel.split h
    exact ⟨u :: a, b, rfl, by simp only [LRel]; exact ⟨u, a, rfl, hu, h1⟩, h2⟩

theorem LRel.drop {E : Env} {c : Cx} {xs : List AV} {vs : List Value} (h : LRel E c xs vs) (n : Nat) : LRel E c (xs.drop n) (vs.drop n) := by
  induction n generalizing xs vs with
  | zero => simpa using h
  | succ n ih =>
    cases xs with
    | nil => simp [LRel] at h; subst h; simp [LRel]
    | cons x xs =>
      simp only [LRel] at h
      obtain ⟨u, us, rfl, _, h⟩ := h
      simpa using ih h

theorem LRel.take {E : Env} {c : Cx} {xs : List AV} {vs : List Value} (h : LRel E c xs vs) (n : Nat) : LRel E c (xs.take n) (vs.take n) := by
  induction n generalizing xs vs with
  | zero => simp [LRel]
  | succ n ih =>
    cases xs with
    | nil => simp [LRel] at h; subst h; simp [LRel]
    | cons x xs =>
      simp only [LRel] at h
      obtain ⟨u, us, rfl, hu, h⟩ := h
      simp only [List.take_succ_cons, LRel]
      exact ⟨u, _, rfl, hu, ih h⟩

theorem LRel.replicate {E : Env} {c : Cx} {x : AV} {v : Value} (h : VRel E c x v) : ∀ n, LRel E c (List.replicate n x) (List.replicate n v)
  | 0 => by simp [LRel]
  | n + 1 => by simp only [List.replicate_succ, LRel]; exact ⟨v, _, rfl, h, LRel.replicate h n⟩

theorem CRel.get {E : Env} {c : Cx} : ∀ {xs : List AV} {b o : Nat}, CRel E c xs b o → ∀ {i : Nat} {x : AV}, xs[i]? = some x → ∃ v, c.w.cell? ⟨b, o + i, none⟩ = some v ∧ VRel E c x v
  | [], b, o, h, i, x, e => by simp at e
  | y :: xs, b, o, h, i, x, e => by
    simp only [CRel] at h
    obtain ⟨⟨_, u, h1, h2⟩, h⟩ := h
    cases i with
    | zero => simp at e; subst e; exact ⟨u, by simpa using h1, h2⟩
    | succ i =>
      obtain ⟨v, h3, h4⟩ := CRel.get h (by simpa using e : xs[i]? = some x)
      exact ⟨v, by rw [← h3]; congr 2; omega, h4⟩
theorem CRel.frz {E : Env} {c : Cx} : ∀ {xs : List AV} {b o : Nat}, CRel E c xs b o → ∀ {i : Nat}, i < xs.length → c.fz b ∨ c.fc b (o + i)
  | [], b, o, h, i, e => by simp at e
  | y :: xs, b, o, h, i, e => by
    simp only [CRel] at h
    obtain ⟨⟨h0, _⟩, h⟩ := h
    cases i with
    | zero => simpa using h0
    | succ i =>
      have := CRel.frz h (i := i) (by simpa using e)
      rwa [show o + 1 + i = o + (i + 1) by omega] at this
theorem CRel.of {E : Env} {c : Cx} {b : Nat} : ∀ {xs : List AV} {o : Nat}, (∀ (i : Nat) x, xs[i]? = some x → (c.fz b ∨ c.fc b (o + i)) ∧ ∃ u, c.w.cell? ⟨b, o + i, none⟩ = some u ∧ VRel E c x u) → CRel E c xs b o
  | [], _, _ => by simp [CRel]
  | x :: xs, o, h => by
    simp only [CRel]
    refine ⟨by simpa using h 0 x rfl, CRel.of fun i y hy => ?_⟩
    have := h (i + 1) y (by simpa using hy)
    rwa [show o + (i + 1) = o + 1 + i by omega] at this
theorem CRel.append {E : Env} {c : Cx} : ∀ {xs ys : List AV} {b o : Nat}, CRel E c xs b o → CRel E c ys b (o + xs.length) → CRel E c (xs ++ ys) b o
  | [], ys, b, o, _, k => by simpa using k
  | x :: xs, ys, b, o, h, k => by
    simp only [List.cons_append, CRel] at h ⊢
    exact ⟨h.1, CRel.append h.2 (by rwa [show o + 1 + xs.length = o + (x :: xs).length by simp; omega])⟩
theorem CRel.drop {E : Env} {c : Cx} : ∀ (n : Nat) {xs : List AV} {b o : Nat}, CRel E c xs b o → CRel E c (xs.drop n) b (o + n)
  | 0, xs, b, o, h => by simpa using h
  | n + 1, [], b, o, h => by simp [CRel]
  | n + 1, x :: xs, b, o, h => by
    simp only [CRel] at h
    have := CRel.drop n h.2
    rw [List.drop_succ_cons, show o + (n + 1) = o + 1 + n by omega]; exact this
theorem CRel.take {E : Env} {c : Cx} : ∀ (n : Nat) {xs : List AV} {b o : Nat}, CRel E c xs b o → CRel E c (xs.take n) b o
  | 0, xs, b, o, h => by simp [CRel]
  | n + 1, [], b, o, h => by simp [CRel]
  | n + 1, x :: xs, b, o, h => by
    simp only [List.take_succ_cons, CRel] at h ⊢
    exact ⟨h.1, CRel.take n h.2⟩
end Go.Sc
namespace Go.Sc
open Go
abbrev Kt := AV → AH → Prop

def undefA : AV := .val (.tuple #[])
abbrev nilSA : AV := .val (.slice none 0 0)

/-- a package-level number that may be any -/
structure Mx where
  v : Int

/-! ### plain functions on abstract values -/
/-- of one cell -/
def AV.scalar : AV → Bool
  | .agg _ | .junk | .tup _ | .val (.agg _) | .val (.tuple _) => false
  | _ => true
def AV.cells? (a : AV) : Option (List AV) :=
  match a with
  | .agg cs => some cs
  | a => if a.scalar then some [a] else none

def AH.cells (H : AH) (b g : Nat) : Option (List AV) :=
  match H.bs[b]? with
  | some (.cells g' _ cs) => if g' = g then some cs else none
  | _ => none
/-- the cells of an element of a live block -/
def AH.esz (H : AH) (b g : Nat) : Option Nat :=
  match H.bs[b]? with
  | some (.cells g' sz _) => if g' = g then some sz else none
  | _ => none
/-- the cells of an element of a slice that may grow -/
def AH.tsz (H : AH) (b g : Nat) : Option Nat :=
  match H.bs[b]? with
  | some (.tail g' sz) => if g' = g then some sz else none
  | _ => none
def AH.set (H : AH) (b : Nat) (cs : List AV) : AH :=
  match H.bs[b]? with
  | some (.cells g sz _) => ⟨H.bs.set b (.cells g sz cs), H.ctr⟩
  | _ => H
def AH.push (H : AH) (sz : Nat) (cs : List AV) : AH := ⟨H.bs ++ [.cells H.ctr sz cs], H.ctr + 1⟩

def subL (cs : List AV) (o n : Nat) : Option (List AV) := if o + n ≤ cs.length then some ((cs.drop o).take n) else none

def load1 (a : AV) (H : AH) : Option AV :=
  match a with
  | .ptrF cs o => cs[o]?
  | .ptrL b o g => (H.cells b g).bind fun cs => cs[o]?
  | _ => none
def loadN (n : Nat) (a : AV) (H : AH) : Option AV :=
  match a with
  | .ptrF cs o => (subL cs o n).map .agg
  | .ptrL b o g => (H.cells b g).bind fun cs => (subL cs o n).map .agg
  | _ => none

/-- put 'xs' into 'cs' from 'o' on -/
def putL (cs : List AV) (o : Nat) (xs : List AV) : Option (List AV) := if o + xs.length ≤ cs.length then some (cs.take o ++ xs ++ cs.drop (o + xs.length)) else none

def store1 (a x : AV) (H : AH) : Option AH :=
  match a with
  | .ptrL b o g => if x.scalar then (H.cells b g).bind fun cs => if o < cs.length then some (H.set b (cs.set o x)) else none else none
  | _ => none
def storeN (n : Nat) (a x : AV) (H : AH) : Option AH :=
  match a, x with
  | .ptrL b o g, .agg xs => if xs.length = n ∧ xs.all AV.scalar = true then (H.cells b g).bind fun cs => (putL cs o xs).map fun cs' => H.set b cs' else none
  | _, _ => none

def fieldA (off n : Nat) (isAgg : Bool) (x : AV) : Option AV :=
  match x with
  | .agg cs => if isAgg then (subL cs off n).map .agg else cs[off]?
  | _ => none
def faddr (off : Nat) (a : AV) : Option AV :=
  match a with
  | .ptrL b o g => some (.ptrL b (o + off) g)
  | .ptrF cs o => some (.ptrF cs (o + off))
  | _ => none
def iaddr (sz : Nat) (s i : AV) : Option AV :=
  match s, i with
  | .slF cs off len, .val (.int _ n) => if 0 ≤ n ∧ n < len then some (.ptrF cs (off + n.toNat * sz)) else none
  | .slL b off len g, .val (.int _ n) => if 0 ≤ n ∧ n < len then some (.ptrL b (off + n.toNat * sz) g) else none
  | .slN cs len, .val (.int _ n) => if 0 ≤ n ∧ n < len then some (.ptrF cs (n.toNat * sz)) else none
  | .slT _ cs len _, .val (.int _ n) => if 0 ≤ n ∧ n < len then some (.ptrF cs (n.toNat * sz)) else none
  | _, _ => none
/-- the place of an array's element -/
def iaddrArr (sz len : Nat) (a i : AV) : Option AV :=
  match a, i with
  | .ptrF cs off, .val (.int _ n) => if 0 ≤ n ∧ n < len then some (.ptrF cs (off + n.toNat * sz)) else none
  | .ptrL b off g, .val (.int _ n) => if 0 ≤ n ∧ n < len then some (.ptrL b (off + n.toNat * sz) g) else none
  | _, _ => none
def idxStr (s i : AV) : Option AV :=
  match s, i with
  | .val (.string s), .val (.int _ n) => if 0 ≤ n ∧ n < s.size then some (.val (.int .u8 (s.data.toList.getD n.toNat 0).toNat)) else none
  | _, _ => none
def idxArr (sz len : Nat) (isAgg : Bool) (x i : AV) : Option AV :=
  match x, i with
  | .agg cs, .val (.int _ n) => if 0 ≤ n ∧ n < len then (if isAgg then (subL cs (n.toNat * sz) sz).map .agg else cs[n.toNat * sz]?) else none
  | _, _ => none
def lenA : AV → Option AV
  | .slF _ _ n => some (.val (.int .i64 n))
  | .slL _ _ n _ => some (.val (.int .i64 n))
  | .slN _ n => some (.val (.int .i64 n))
  | .slT _ _ n _ => some (.val (.int .i64 n))
  | .val (.slice _ n _) => some (.val (.int .i64 n))
  | _ => none
def lenS : AV → Option AV
  | .val (.string s) => some (.val (.int .i64 s.size))
  | _ => none

def intBin (op : BinOp) (k : IntKind) (a b : Int) : Option Value :=
  match op with
  | .add => some (.int k (k.wrap (a + b)))
  | .sub => some (.int k (k.wrap (a - b)))
  | .mul => some (.int k (k.wrap (a * b)))
  | .quo => if b = 0 then none else some (.int k (k.wrap (a.tdiv b)))
  | .rem => if b = 0 then none else some (.int k (a.tmod b))
  | .and => some (.int k (k.wrap (BitVec.ofInt k.bits a &&& BitVec.ofInt k.bits b).toNat))
  | .or => some (.int k (k.wrap (BitVec.ofInt k.bits a ||| BitVec.ofInt k.bits b).toNat))
  | .xor => some (.int k (k.wrap (BitVec.ofInt k.bits a ^^^ BitVec.ofInt k.bits b).toNat))
  | .andNot => some (.int k (k.wrap (BitVec.ofInt k.bits a &&& ~~~(BitVec.ofInt k.bits b)).toNat))
  | .eql => some (.bool (a == b))
  | .neq => some (.bool (a != b))
  | .lss => some (.bool (a < b))
  | .leq => some (.bool (a ≤ b))
  | .gtr => some (.bool (a > b))
  | .geq => some (.bool (a ≥ b))
  | _ => none
def strBin (op : BinOp) (x y : ByteArray) : Option Value :=
  match op with
  | .add => if ((x.size + y.size : Nat) : Int) > IntKind.i64.max then none else some (.string (x ++ y))
  | .eql => some (.bool (x.toList == y.toList))
  | .neq => some (.bool !(x.toList == y.toList))
  | .lss => some (.bool (Op.bytesLess x.toList y.toList))
  | .leq => some (.bool (Op.bytesLess x.toList y.toList || x.toList == y.toList))
  | .gtr => some (.bool !(Op.bytesLess x.toList y.toList || x.toList == y.toList))
  | .geq => some (.bool !(Op.bytesLess x.toList y.toList))
  | _ => none
/-- numbers and texts -/
def binA (op : BinOp) (x y : AV) : Option AV :=
  match x, y with
  | .val (.int k a), .val (.int k' b) =>
    match op with
    | .shl => if b < 0 then none else some (.val (.int k (k.wrap (a * 2 ^ (min b.toNat k.bits)))))
    | .shr => if b < 0 then none else some (.val (.int k (a.fdiv (2 ^ (min b.toNat k.bits)))))
    | _ => if k = k' then (intBin op k a b).map .val else none
  | .val (.string a), .val (.string b) => (strBin op a b).map .val
  | _, _ => none
/-- shapes of types that '==' asks -/
inductive Shp where | bool | ptr | slice | iface | func
  deriving DecidableEq
def eqA (s : Shp) (x y : AV) : Option Bool :=
  match s, x, y with
  | .bool, .val (.bool a), .val (.bool b) => some (a == b)
  | .ptr, .val (.pointer none), .val (.pointer none) => some true
  | .ptr, .ptrF _ _, .val (.pointer none) => some false
  | .ptr, .val (.pointer none), .ptrF _ _ => some false
  | .ptr, .ptrL _ _ _, .val (.pointer none) => some false
  | .ptr, .val (.pointer none), .ptrL _ _ _ => some false
  | .slice, .val (.slice none _ _), .val (.slice none _ _) => some true
  | .slice, .slF _ _ _, .val (.slice none _ _) => some false
  | .slice, .val (.slice none _ _), .slF _ _ _ => some false
  | .slice, .slL _ _ _ _, .val (.slice none _ _) => some false
  | .slice, .slT _ _ _ _, .val (.slice none _ _) => some false
  | .slice, .val (.slice none _ _), .slL _ _ _ _ => some false
  | .iface, .val .nilIface, .val .nilIface => some true
  | .iface, .ifc _ _, .val .nilIface => some false
  | .iface, .val .nilIface, .ifc _ _ => some false
  | .func, .val .nilFunc, .val .nilFunc => some true
  | .func, .fn _ _ _, .val .nilFunc => some false
  | .func, .val .nilFunc, .fn _ _ _ => some false
  | _, _, _ => none
def unA (op : UnOp) (x : AV) : Option AV :=
  match op, x with
  | .neg, .val (.int k n) => some (.val (.int k (k.wrap (0 - n))))
  | .not, .val (.bool b) => some (.val (.bool !b))
  | _, _ => none
def pickA (c a b : AV) : Option AV :=
  match c with
  | .val (.bool t) => some (if t then a else b)
  | _ => none
def extractA (t : AV) (i : Nat) : Option AV :=
  match t with
  | .tup vs => vs[i]?
  | _ => none
/-- asked for a type: 'k' -/
def assertA (k : Nat) (z x : AV) : Option AV :=
  match x with
  | .ifc k' a => if k' = k then some (.tup [a, .val (.bool true)]) else some (.tup [z, .val (.bool false)])
  | .val .nilIface => some (.tup [z, .val (.bool false)])
  | _ => none
def assert1 (k : Nat) (x : AV) : Option AV :=
  match x with
  | .ifc k' a => if k' = k then some a else none
  | _ => none
/-! ### maps: keys that are compared at once (numbers, texts, truths) -/
def keyEq : AV → AV → Option Bool
  | .val (.int k a), .val (.int k' b) => if k = k' then some (a == b) else none
  | .val (.string a), .val (.string b) => some (a == b)
  | .val (.bool a), .val (.bool b) => some (a == b)
  | _, _ => none
def findK (k : AV) : List AV → Nat → Option (Option Nat)
  | [], _ => some none
  | x :: xs, i => match keyEq k x with
    | some true => some (some i)
    | some false => findK k xs (i + 1)
    | none => none
def keyIs : TypeDesc → AV → Bool
  | .int k, .val (.int k' _) => decide (k = k')
  | .string, .val (.string _) => true
  | .bool, .val (.bool _) => true
  | _, _ => false
def AH.maps (H : AH) (b g : Nat) : Option (List AV × List AV) :=
  match H.bs[b]? with
  | some (.map g' ks vs) => if g' = g then some (ks, vs) else none
  | _ => none
def mapGet (z : AV) (ok : Bool) (k : AV) (ks vs : List AV) : Option AV :=
  match findK k ks 0 with
  | some (some i) => vs[i]?.map fun v => if ok then .tup [v, .val (.bool true)] else v
  | some none => some (if ok then .tup [z, .val (.bool false)] else z)
  | none => none
def lookupA (d : TypeDesc) (z : AV) (ok : Bool) (m k : AV) (H : AH) : Option AV :=
  if keyIs d k = true then (match m with
    | .val (.map none) => mapGet z ok k [] []
    | .mapL b g => (H.maps b g).bind fun p => mapGet z ok k p.1 p.2
    | .mapF ks vs => mapGet z ok k ks vs
    | _ => none) else none
def insertA (d : TypeDesc) (m k v : AV) (H : AH) : Option AH :=
  if keyIs d k = true then (match m with
    | .mapL b g => (H.maps b g).bind fun p => match findK k p.1 0 with
      | some (some i) => some ⟨H.bs.set b (.map g p.1 (p.2.set i v)), H.ctr⟩
      | some none => some ⟨H.bs.set b (.map g (p.1 ++ [k]) (p.2 ++ [v])), H.ctr⟩
      | none => none
    | _ => none) else none
def mapB (P : Program) (t : TypeId) : Option (TypeDesc × TypeId) := match P.underlying t with
  | some (.map k e) => (P.underlying k).map fun d => (d, e)
  | _ => none
def minA (mx : Bool) (x y : AV) : Option AV :=
  match x, y with
  | .val (.int k a), .val (.int k' b) => if k = k' then some (.val (.int k (if mx then (if b > a then b else a) else (if b < a then b else a)))) else none
  | _, _ => none
def nilA (x : AV) : Option AV :=
  match x with
  | .ptrL _ _ _ => some x
  | .ptrF _ _ => some x
  | .fn _ _ _ => some x
  | _ => none

/-! ### structs that are compared: of each field where it lies, and its type -/
def eqS : List (Nat × TypeDesc) → List AV → List AV → Option Bool
  | [], _, _ => some true
  | (i, d) :: l, xs, ys => match xs[i]?, ys[i]? with
    | some x, some y => if (keyIs d x && keyIs d y) = true then (match keyEq x y with
      | some true => eqS l xs ys
      | some false => some false
      | none => none) else none
    | _, _ => none
def eqSA (l : List (Nat × TypeDesc)) (neg : Bool) (x y : AV) : Option AV :=
  match x, y with
  | .agg xs, .agg ys => (eqS l xs ys).map fun b => .val (.bool (b != neg))
  | _, _ => none

/-- slices of slices and texts: 'lo' and 'hi' are numbers, or none -/
def bnd (x : Option AV) (d : Nat) : Option Int :=
  match x with
  | none => some d
  | some (.val (.int _ n)) => some n
  | _ => none
def sliceA (sz : Nat) (s : AV) (lo hi : Option AV) (H : AH) : Option AV :=
  match s with
  | .slF cs off len => (bnd lo 0).bind fun l => (bnd hi len).bind fun h => if 0 ≤ l ∧ l ≤ h ∧ h ≤ len then some (.slF cs (off + l.toNat * sz) (h.toNat - l.toNat)) else none
  | .slL b off len g => (bnd lo 0).bind fun l => (bnd hi len).bind fun h => if H.esz b g = some sz ∧ 0 ≤ l ∧ l ≤ h ∧ h ≤ len then some (.slL b (off + l.toNat * sz) (h.toNat - l.toNat) g) else none
  | .slN cs len => (bnd lo 0).bind fun l => (bnd hi len).bind fun h => if 0 ≤ l ∧ l ≤ h ∧ h ≤ len then some (.slN ((cs.drop (l.toNat * sz)).take ((h.toNat - l.toNat) * sz)) (h.toNat - l.toNat)) else none
  | .slT b cs len g => (bnd lo 0).bind fun l => (bnd hi len).bind fun h => if H.tsz b g = some sz ∧ 0 ≤ l ∧ l ≤ h ∧ h ≤ len ∧ cs.length = len * sz then (if h = len then some (.slT b (cs.drop (l.toNat * sz)) (len - l.toNat) g) else some (.slN ((cs.drop (l.toNat * sz)).take ((h.toNat - l.toNat) * sz)) (h.toNat - l.toNat))) else none
  | .val (.slice none 0 0) => (bnd lo 0).bind fun l => (bnd hi 0).bind fun h => if l = 0 ∧ h = 0 then some (.val (.slice none 0 0)) else none
  | _ => none
def sliceS (s : AV) (lo hi : Option AV) : Option AV :=
  match s with
  | .val (.string s) => (bnd lo 0).bind fun l => (bnd hi s.size).bind fun h => if 0 ≤ l ∧ l ≤ h ∧ h ≤ s.size then some (.val (.string (s.extract l.toNat h.toNat))) else none
  | _ => none

/-- the cells of what is appended -/
def cellsOfA (sz : Nat) (x : AV) (H : AH) : Option (Nat × List AV) :=
  match x with
  | .val (.slice none 0 0) => some (0, [])
  | .slF cs off len => (subL cs off (len * sz)).map fun l => (len, l)
  | .slL b off len g => (H.cells b g).bind fun cs => (subL cs off (len * sz)).map fun l => (len, l)
  | .slN cs len => (subL cs 0 (len * sz)).map fun l => (len, l)
  | .slT _ cs len _ => (subL cs 0 (len * sz)).map fun l => (len, l)
  | .val (.string s) => if sz = 1 then some (s.size, s.data.toList.map fun b => .val (.int .u8 b.toNat)) else none
  | _ => none
/-- the first 'n' of a slice -/
def shortA (n : Nat) : AV → Option AV
  | .val (.slice none 0 0) => if n = 0 then some nilSA else none
  | .slF cs off len => if n ≤ len then some (.slF cs off n) else none
  | .slL b off len g => if n ≤ len then some (.slL b off n g) else none
  | .slN cs len => if n ≤ len then some (.slN cs n) else none
  | .slT b cs len g => if n ≤ len then some (.slT b cs n g) else none
  | _ => none
/-- copy: into a slice of the call's own -/
def copyA (sz : Nat) (d s : AV) (H : AH) : Option (AV × AH) :=
  match d, lenA s with
  | .slL b off len g, some (.val (.int _ m)) =>
    (shortA (min m.toNat len) s).bind fun y => (cellsOfA sz y H).bind fun p =>
      if p.2.all AV.scalar = true then
        if min m.toNat len = 0 then some (.val (.int .i64 0), H)
        else (storeN (min m.toNat len * sz) (.ptrL b off g) (.agg p.2) H).map fun H' => (.val (.int .i64 (min m.toNat len : Nat)), H')
      else none
  | _, _ => none
/-- how great an append may be -/
def mostBytes : Nat := 2 ^ 46
def appendA (sz bytes : Nat) (s x : AV) (H : AH) : Option (AV × AH) :=
  (cellsOfA sz x H).bind fun (n, new) =>
  match s with
  | .val (.slice none 0 0) =>
    if n = 0 then some (s, H) else
    if n * bytes ≤ mostBytes ∧ n ≤ mostBytes then some (.slL H.bs.length 0 n H.ctr, H.push sz new) else none
  | .slL b off len g =>
    (H.cells b g).bind fun cs =>
      if H.esz b g = some sz ∧ off + len * sz = cs.length ∧ (len + n) * bytes ≤ mostBytes ∧ len + n ≤ mostBytes ∧ new.all AV.scalar = true then
        if n = 0 then some (s, H) else
        some (.slL b 0 (len + n) H.ctr, ⟨H.bs.set b (.cells H.ctr sz (cs.drop off ++ new)), H.ctr + 1⟩)
      else none
  | _ => none
def makeA (bytes : Nat) (l c : AV) : Option Nat :=
  match l, c with
  | .val (.int _ n), .val (.int _ m) => if 0 ≤ n ∧ n = m ∧ n * bytes ≤ mostBytes ∧ n ≤ mostBytes then some n.toNat else none
  | _, _ => none
/-- the parts of a struct (or an array, or a slice) laid over noughts: offset, size, part -/
def fillA (zero : List AV) : List (Nat × Nat × AV) → Option (List AV)
  | [] => some zero
  | (off, n, x) :: rest => (x.cells?).bind fun cs => if cs.length = n then (putL zero off cs).bind fun z => fillA z rest else none

/-! ### contracts -/
/-- what a call of a function comes to, wherever it is made -/
def CallsN (P : Program) (f : FuncId) (args : Array Value) (w : World) (R : Value → World → Prop) : Prop :=
  ∀ (o : Oper) (a : Act) (next : Act → World → Prop) (Q : Exit → Act → World → Prop), (∀ v w', R v w' → next (a.put o.dst v) w') → o.upon P a next Q ((callFunc f args).run P w)
def ACalls (E : Env) (P : Program) (k : Nat) (args : List AV) (H : AH) (R : Kt) : Prop :=
  ∀ (c : Cx) (vs : List Value), HRel E c H → LRel E c args vs →
    CallsN P (E.fn k) vs.toArray c.w fun v w' => ∃ r c' H', c'.w = w' ∧ R r H' ∧ HRel E c' H' ∧ VRel E c' r v ∧ Later c c'

/-! ### choices -/
/-- told otherwise: with less -/
def Sub (x y : AV) : Prop := ∀ (E : Env) (c : Cx) (v : Value), VRel E c x v → VRel E c y v
inductive SubL : List AV → List AV → Prop where
  | nil : SubL [] []
  | cons {x y : AV} {xs ys : List AV} : Sub x y → SubL xs ys → SubL (x :: xs) (y :: ys)
/-- a place for a new block: one that is dead, or a new one -/
def AH.free (H : AH) (b : Nat) : Prop := b = H.bs.length ∨ H.bs[b]? = some .dead
def AH.put (H : AH) (b : Nat) (x : Blk) : AH := ⟨if b = H.bs.length then H.bs ++ [x] else H.bs.set b x, H.ctr + 1⟩
inductive NewR (sz : Nat) (l : List AV) (H : AH) : AV → AH → Prop where
  | frz {x : AV} : Sub (.ptrF l 0) x → NewR sz l H x H
  | live (b : Nat) : H.free b → NewR sz l H (.ptrL b 0 H.ctr) (H.put b (.cells H.ctr sz l))
inductive NewSR (sz len : Nat) (l : List AV) (H : AH) : AV → AH → Prop where
  | frz {x : AV} : Sub (.slF l 0 len) x → NewSR sz len l H x H
  | live (b : Nat) : H.free b → NewSR sz len l H (.slL b 0 len H.ctr) (H.put b (.cells H.ctr sz l))
  | tail (b : Nat) {l' : List AV} : SubL l l' → H.free b → NewSR sz len l H (.slT b l' len H.ctr) (H.put b (.tail H.ctr sz))
inductive AppR (sz bytes : Nat) (s x : AV) (H : AH) : AV → AH → Prop where
  | old {r : AV} {H' : AH} : appendA sz bytes s x H = some (r, H') → AppR sz bytes s x H r H'
  | grow {b len g m : Nat} {cs new new' : List AV} : s = .slT b cs len g → H.bs[b]? = some (.tail g sz) → cs.length = len * sz → cellsOfA sz x H = some (m, new) → SubL new new' → new.all AV.scalar = true →
      (len + m) * bytes ≤ mostBytes → len + m ≤ mostBytes → AppR sz bytes s x H (.slT b (cs ++ new') (len + m) H.ctr) ⟨H.bs.set b (.tail H.ctr sz), H.ctr + 1⟩
  | first (b : Nat) {m : Nat} {new new' : List AV} : s = .val (.slice none 0 0) → H.free b → cellsOfA sz x H = some (m, new) → m ≠ 0 → SubL new new' →
      m * bytes ≤ mostBytes → m ≤ mostBytes → AppR sz bytes s x H (.slT b new' m H.ctr) (H.put b (.tail H.ctr sz))

/-! ### nodes -/
structure wGet (r : Option AV) (H : AH) (K : Kt) : Prop where ok : ∃ x, r = some x ∧ K x H
structure wPut (r : Option AH) (K : Kt) : Prop where ok : ∃ H, r = some H ∧ K undefA H
structure wDo (r : Option (AV × AH)) (K : Kt) : Prop where ok : ∃ x H, r = some (x, H) ∧ K x H
structure wBool (r : Option Bool) (H : AH) (neg : Bool) (K : Kt) : Prop where ok : ∃ b, r = some b ∧ K (.val (.bool (b != neg))) H
structure wNew (sz : Nat) (cs : Option (List AV)) (H : AH) (K : Kt) : Prop where ok : ∃ l x H', cs = some l ∧ NewR sz l H x H' ∧ K x H'
structure wNewS (sz len : Nat) (cs : Option (List AV)) (H : AH) (K : Kt) : Prop where ok : ∃ l x H', cs = some l ∧ l.length = len * sz ∧ NewSR sz len l H x H' ∧ K x H'
structure wMake (sz bytes : Nat) (zero : List AV) (l c : AV) (H : AH) (K : Kt) : Prop where ok : ∃ n x H', makeA bytes l c = some n ∧ NewSR sz n (List.replicate n zero).flatten H x H' ∧ K x H'
structure wMapN (H : AH) (K : Kt) : Prop where ok : ∃ b, H.free b ∧ K (.mapL b H.ctr) (H.put b (.map H.ctr [] []))
structure wApp (sz bytes : Nat) (s x : AV) (H : AH) (K : Kt) : Prop where ok : ∃ r H', AppR sz bytes s x H r H' ∧ K r H'
structure wAgg (cs : Option (List AV)) (H : AH) (K : Kt) : Prop where ok : ∃ l, cs = some l ∧ K (.agg l) H
structure wIf (c : AV) (t f : Prop) : Prop where ok : ∃ b, c = .val (.bool b) ∧ (b = true → t) ∧ (b = false → f)
structure wGuard (x : AV) (want : Bool) (H : AH) (m : Kt → Prop) (K : Kt) : Prop where
  ok : (∃ b, x = .val (.bool b) ∧ (b = want → m K) ∧ (b ≠ want → K undefA H)) ∨ (x = undefA ∧ K undefA H)
structure wCall (E : Env) (P : Program) (k : Nat) (args : List AV) (H : AH) (K : Kt) : Prop where
  ok : ∃ R, ACalls E P k args H R ∧ ∀ r H', R r H' → K r H'
structure wCallV (E : Env) (P : Program) (f : AV) (args : List AV) (H : AH) (K : Kt) : Prop where
  ok : ∃ k fs cs, f = .fn k fs cs ∧ ∃ R, ACalls E P k (fs ++ args ++ cs) H R ∧ ∀ r H', R r H' → K r H'

/-- a type's method -/
def MethodIs (E : Env) (P : Program) (k : Nat) (name : String) (f : Nat) : Prop := ∀ v w, (Go.method (P.types.size + Made.depth) (E.ty k) v name).run P w = .ok (E.fn f, v) w
structure wInv (E : Env) (P : Program) (x : AV) (name : String) (args : List AV) (H : AH) (K : Kt) : Prop where
  ok : ∃ k a f, x = .ifc k a ∧ MethodIs E P k name f ∧ ∃ R, ACalls E P f (a :: args) H R ∧ ∀ r H', R r H' → K r H'
/-- has a type the methods of another one? -/
def HasM (E : Env) (P : Program) (kt k : Nat) (b : Bool) : Prop := ∀ want, P.underlying (E.ty kt) = some (.interface want) → ∃ i, P.info? (E.ty k) = some i ∧ (Instr.missingMethod want i.methods).isNone = b
structure wAsI (E : Env) (P : Program) (kt : Nat) (x : AV) (H : AH) (K : Kt) : Prop where
  ok : (x = .val .nilIface ∧ K (.tup [.val .nilIface, .val (.bool false)]) H) ∨ ∃ k a b, x = .ifc k a ∧ HasM E P kt k b ∧ K (if b then .tup [x, .val (.bool true)] else .tup [.val .nilIface, .val (.bool false)]) H

/-! ### joins and loops -/
def KN : Nat → Type
  | 0 => AH → Prop
  | n + 1 => AV → KN n
def KN.of : (n : Nat) → (List AV → AH → Prop) → KN n
  | 0, f => f []
  | n + 1, f => fun x => KN.of n fun xs => f (x :: xs)
def KN.app : (n : Nat) → KN n → List AV → AH → Prop
  | 0, k, _ => k
  | n + 1, k, x :: xs => KN.app n (k x) xs
  | _ + 1, _, [] => fun _ => False
def KN.le : (n : Nat) → KN n → KN n → Prop
  | 0, j, k => ∀ H, j H → k H
  | n + 1, j, k => ∀ x, KN.le n (j x) (k x)
/-- as told otherwise -/
def KN.gh (n : Nat) (k : KN n) : KN n := KN.of n fun xs H => ∃ xs' H', xs'.length = n ∧ Ghost xs H xs' H' ∧ KN.app n k xs' H'
structure wJoin (n : Nat) (m : KN n → Prop) (k : KN n) : Prop where ok : ∃ J : KN n, m (KN.gh n J) ∧ KN.le n J k
structure wLoop (n : Nat) (init : KN n → Prop) (body : KN n → KN n) : Prop where
  ok : ∃ I : Nat → KN n, (∃ m, init (KN.gh n (I m))) ∧ ∀ m, KN.le n (I m) (body (KN.of n fun xs H => ∃ m', m' < m ∧ KN.app n (KN.gh n (I m')) xs H))

inductive AX where
  | normal
  | exit (id : Nat)
  | ret

inductive Ann where
  | leaf
  | draw
  | free
  | seq (j : Option (List Nat)) (a b : Ann)
  | one (a : Ann)
  | two (a b : Ann)
  | loop (l : List Nat) (a : Ann)

def opWrites (ops : Array Oper) : List Nat := ops.toList.filterMap (·.dst)
def Code.writes : Code → List Nat
  | .region _ ops _ => opWrites ops
  | .seq a b => Code.writes a ++ Code.writes b
  | .cond _ a b => Code.writes a ++ Code.writes b
  | .block _ a => Code.writes a
  | .loop a => Code.writes a
  | .scope a => Code.writes a
  | _ => []
/-- the temporaries where ways meet: those that may have been written are forgotten, but for those of 'l', which are 'xs' -/
def junkL : List AV → List Nat → List AV
  | ts, [] => ts
  | ts, t :: W => junkL (ts.set t .junk) W
/-- as 'fillL', of those alone that may have been written -/
def fillW (W : List Nat) : List AV → List Nat → List AV → List AV
  | ts, t :: l, x :: xs => fillW W (cond (W.contains t) (ts.set t x) ts) l xs
  | ts, _, _ => ts
def looks (ts : List AV) (l : List Nat) : List AV := l.map fun t => ts.getD t undefA

/-- a constant -/
def constA : Value → AV
  | .agg cs => .agg (cs.toList.map .val)
  | v => .val v
def gptr (E : Env) (k : Nat) : AV := match E.gl k with
  | some cs => .ptrF cs 0
  | none => .junk
def ev (E : Env) (ts : List AV) : Operand → AV
  | .tmp t => ts.getD t undefA
  | .const v => constA v
  | .global g => if E.gn (E.gk g) = g then gptr E (E.gk g) else .junk
  | .func f => if E.fn (E.fk f) = f then .fn (E.fk f) [] [] else .junk
def putT (ts : List AV) (d : Option Tmp) (x : AV) : List AV :=
  match d with
  | some d => ts.set d x
  | none => ts

/-- of a type: is it a struct or an array; how many cells -/
def tyB (P : Program) (t : TypeId) : Option (Bool × Nat) :=
  match P.underlying t, P.info? t with
  | some d, some i => some (match d with | .struct _ => true | .array _ _ => true | _ => false, i.size)
  | _, _ => none
def okCell : Value → Bool
  | .agg _ | .tuple _ => false
  | _ => true
/-- a type's noughts -/
def zeroB (P : Program) (t : TypeId) : Option (List AV) :=
  match (P.info? t).bind (·.zero) with
  | some v => if v.cells.toList.all okCell && some v.cells.size == (tyB P t).map (·.2) then some (v.cells.toList.map .val) else none
  | none => none
def zeroV (P : Program) (t : TypeId) : Option AV := ((P.info? t).bind (·.zero)).map constA
def shpB (P : Program) (t : TypeId) : Option Shp := match P.underlying t with
  | some .bool => some .bool
  | some (.pointer _) => some .ptr
  | some (.slice _) => some .slice
  | some (.interface _) => some .iface
  | some (.func ..) => some .func
  | _ => none
/-- a struct whose fields may be compared at once -/
def strF (P : Program) : List Field → Option (List (Nat × TypeDesc))
  | [] => some []
  | f :: fs => if f.name = "_" then none else match tyB P f.type, P.underlying f.type, strF P fs with
    | some (false, _), some d, some l => some ((f.offset, d) :: l)
    | _, _, _ => none
def strB (P : Program) (t : TypeId) : Option (List (Nat × TypeDesc)) := match P.underlying t with
  | some (.struct fs) => if (P.stoodInHeld t || P.eqGuardType P.depth t) = true then none else strF P fs.toList
  | _ => none
/-- a slice's elements: their type, cells, bytes -/
def elemB (P : Program) (t : TypeId) : Option (TypeId × Nat × Nat) := match P.underlying t with
  | some (.slice e) => (P.info? e).map fun i => (e, i.size, i.bytes)
  | _ => none
def isConstO : Operand → Bool
  | .const _ => true
  | _ => false
/-- a struct's field: its place, is it a struct or an array, its cells -/
def fieldB (P : Program) (t : TypeId) (f : Nat) : Option (Nat × Bool × Nat) := match P.underlying t with
  | some (.struct fs) => (fs[f]?).bind fun x => (tyB P x.type).map fun (a, n) => (x.offset, a, n)
  | _ => none
/-- the parts of a literal: where, and what -/
def partsP (E : Env) (ts : List AV) (place : Nat → Option (Nat × Nat)) : List (Nat × Operand) → Option (List (Nat × Nat × AV))
  | [] => some []
  | (i, x) :: rest => match place i, partsP E ts place rest with
    | some (off, n), some l => some ((off, n, ev E ts x) :: l)
    | _, _ => none
def partsB (E : Env) (P : Program) (ts : List AV) (t : TypeId) (parts : List (Nat × Operand)) : Option (List (Nat × Nat × AV)) :=
  match P.underlying t with
  | some (.struct fs) => match fs.toList.mapM (fun f => (P.info? f.type).map fun i => (f.offset, i.size)) with
    | some places => partsP E ts (places.toArray[·]?) parts
    | none => none
  | some (.array _ e) => match P.info? e with
    | some ie => partsP E ts (fun i => some (i * ie.size, ie.size)) parts
    | none => none
  | _ => none
def convA (d : TypeDesc) (x : AV) : Option AV :=
  match d, x with
  | .int k, .val (.int _ n) => some (.val (.int k (k.wrap n)))
  | .string, .val (.string s) => some (.val (.string s))
  | .string, .val (.int _ n) => some (.val (.string (Utf8.encode n)))
  | _, _ => none

/-- an operation -/
def opW (E : Env) (P : Program) (o : Oper) (ts : List AV) (H : AH) (K : Kt) : Prop :=
  match o.op with
  | .move x => K (ev E ts x) H
  | .assign x => K (ev E ts x) H
  | .pick c a b => wGet (pickA (ev E ts c) (ev E ts a) (ev E ts b)) H K
  | .alloc t => match tyB P t with
    | some (_, n) => wNew n (zeroB P t) H K
    | none => False
  | .box t x => match tyB P t with
    | some (_, n) => wNew n (ev E ts x).cells? H K
    | none => False
  | .build t parts => match partsB E P ts t parts.toList, zeroB P t with
    | some l, some z => wAgg (fillA z l) H K
    | _, _ => False
  | .buildSlice t len parts => match elemB P t with
    | some (e, n, _) => match zeroB P e, partsP E ts (fun i => some (i * n, n)) parts.toList with
      | some z, some l => if len * n ≤ 2 ^ 24 then wNewS n len (fillA (List.replicate len z).flatten l) H K else False
      | _, _ => False
    | none => False
  | .load t a => match tyB P t with
    | some (true, n) => wGet (loadN n (ev E ts a) H) H K
    | some (false, _) => wGet (load1 (ev E ts a) H) H K
    | none => False
  | .store t a x => match tyB P t with
    | some (true, n) => wPut (storeN n (ev E ts a) (ev E ts x) H) K
    | some (false, n) => if n = 1 then wPut (store1 (ev E ts a) (ev E ts x) H) K else False
    | none => False
  | .nilCheck x => wGet (nilA (ev E ts x)) H K
  | .binOp op t x y _ => match shpB P t with
    | some s => match op with
      | .eql => if s = .iface ∧ !(isConstO x || isConstO y) then False else wBool (eqA s (ev E ts x) (ev E ts y)) H false K
      | .neq => if s = .iface ∧ !(isConstO x || isConstO y) then False else wBool (eqA s (ev E ts x) (ev E ts y)) H true K
      | _ => False
    | none => match strB P t with
      | some l => match op with
        | .eql => wGet (eqSA l false (ev E ts x) (ev E ts y)) H K
        | .neq => wGet (eqSA l true (ev E ts x) (ev E ts y)) H K
        | _ => False
      | none => wGet (binA op (ev E ts x) (ev E ts y)) H K
  | .unOp op _ x => wGet (unA op (ev E ts x)) H K
  | .convert s t x => match P.underlying s, P.underlying t with
    | some _, some d => wGet (convA d (ev E ts x)) H K
    | _, _ => False
  | .makeInterface t x => match P.underlying t with
    | some (.interface _) => False
    | some _ => if E.ty (E.tk t) = t then K (.ifc (E.tk t) (ev E ts x)) H else False
    | none => False
  | .makeFunc f fs cs => match f with
    | .func f => if E.fn (E.fk f) = f then K (.fn (E.fk f) (fs.toList.map (ev E ts)) (cs.toList.map (ev E ts))) H else False
    | _ => False
  | .slice t x lo hi m => match m with
    | some _ => False
    | none => match P.underlying t with
      | some .string => wGet (sliceS (ev E ts x) (lo.map (ev E ts)) (hi.map (ev E ts))) H K
      | some (.slice _) => match elemB P t with
        | some (_, n, _) => wGet (sliceA n (ev E ts x) (lo.map (ev E ts)) (hi.map (ev E ts)) H) H K
        | none => False
      | _ => False
  | .fieldAddr t x f => match fieldB P t f with
    | some (off, _, n) => if n = 0 then False else wGet (faddr off (ev E ts x)) H K
    | none => False
  | .field t x f => match fieldB P t f with
    | some (off, a, n) => wGet (fieldA off n a (ev E ts x)) H K
    | none => False
  | .indexAddr t x i => match P.underlying t with
    | some (.slice e) => match tyB P e with
      | some (_, n) => wGet (iaddr n (ev E ts x) (ev E ts i)) H K
      | none => False
    | some (.array len e) => match tyB P e with
      | some (_, n) => wGet (iaddrArr n len (ev E ts x) (ev E ts i)) H K
      | none => False
    | _ => False
  | .index t x i => match P.underlying t with
    | some .string => wGet (idxStr (ev E ts x) (ev E ts i)) H K
    | some (.array len e) => match tyB P e with
      | some (a, n) => wGet (idxArr n len a (ev E ts x) (ev E ts i)) H K
      | none => False
    | _ => False
  | .extract t i => wGet (extractA (ev E ts t) i) H K
  | .typeAssert x _ t ok => match P.underlying t with
    | some (.interface _) => match (P.info? t).bind (·.zero) with
      | some .nilIface => if E.ty (E.tk t) = t ∧ ok = true then wAsI E P (E.tk t) (ev E ts x) H K else False
      | _ => False
    | some _ => match ok with
      | true => match zeroV P t with
        | some z => if E.ty (E.tk t) = t then wGet (assertA (E.tk t) z (ev E ts x)) H K else False
        | none => False
      | false => if E.ty (E.tk t) = t then wGet (assert1 (E.tk t) (ev E ts x)) H K else False
    | none => False
  | .makeSlice t l c => match elemB P t with
    | some (e, n, b) => match zeroB P e with
      | some z => wMake n b z (ev E ts l) (ev E ts c) H K
      | none => False
    | none => False
  | .makeMap _ r => match r with
    | none => wMapN H K
    | some _ => False
  | .insert t m k v => match mapB P t with
    | some (d, _) => wPut (insertA d (ev E ts m) (ev E ts k) (ev E ts v) H) K
    | none => False
  | .mapUpdate t m k v => match mapB P t with
    | some (d, _) => wPut (insertA d (ev E ts m) (ev E ts k) (ev E ts v) H) K
    | none => False
  | .lookup t m k ok => match mapB P t with
    | some (d, e) => match zeroV P e with
      | some z => wGet (lookupA d z ok (ev E ts m) (ev E ts k) H) H K
      | none => False
    | none => False
  | .call c => match c.callee with
    | .value (.func f) => if E.fn (E.fk f) = f then wCall E P (E.fk f) (c.args.toList.map (ev E ts)) H K else False
    | .value x => wCallV E P (ev E ts x) (c.args.toList.map (ev E ts)) H K
    | .builtin .len => match (c.argTypes[0]?).bind P.underlying, c.args.toList with
      | some .string, [x] => wGet (lenS (ev E ts x)) H K
      | some (.slice _), [x] => wGet (lenA (ev E ts x)) H K
      | _, _ => False
    | .invoke r m => wInv E P (ev E ts r) m (c.args.toList.map (ev E ts)) H K
    | .builtin .max => match c.args.toList with
      | [x, y] => wGet (minA true (ev E ts x) (ev E ts y)) H K
      | _ => False
    | .builtin .min => match c.args.toList with
      | [x, y] => wGet (minA false (ev E ts x) (ev E ts y)) H K
      | _ => False
    | .builtin .copy => match (c.argTypes[0]?).bind (elemB P), c.args.toList with
      | some (_, n, _), [d, x] => wDo (copyA n (ev E ts d) (ev E ts x) H) K
      | _, _ => False
    | .builtin .append => match (c.argTypes[0]?).bind (elemB P), (c.argTypes[1]?).bind P.underlying, c.args.toList with
      | some (e, n, b), some (.slice _), [s, x] => if (zeroB P e).isSome then wApp n b (ev E ts s) (ev E ts x) H K else False
      | some (e, n, b), some .string, [s, x] => if (zeroB P e).isSome then wApp n b (ev E ts s) (ev E ts x) H K else False
      | _, _, _ => False
    | _ => False
  | _ => False

/-- operations that only look -/
def readOp : Op → Bool
  | .move _ | .assign _ | .pick .. | .build .. | .load .. | .nilCheck _ | .binOp .. | .unOp .. | .convert .. | .makeInterface .. | .makeFunc .. | .slice .. | .fieldAddr .. | .field .. | .indexAddr .. | .index .. | .extract .. => true
  | .call c => match c.callee with
    | .builtin .len => true
    | _ => false
  | _ => false

/-- the operations of a region, in the text's order -/
def opsW (E : Env) (P : Program) (all : Array Oper) : List Oper → List AV → AH → (List AV → AH → Prop) → Prop
  | [], ts, H, K => K ts H
  | o :: rest, ts, H, K =>
    match o.guard with
    | none => opW E P o ts H fun x H => opsW E P all rest (putT ts o.dst x) H K
    | some (j, want) => match (all[j]?).bind (·.dst) with
      | some d => wGuard (ts.getD d undefA) want H (fun k => opW E P o ts H k) fun x H => opsW E P all rest (putT ts o.dst x) H K
      | none => False

/-- an operation of a region under its guard -/
def opG (E : Env) (P : Program) (all : Array Oper) (o : Oper) (ts : List AV) (H : AH) (K : Kt) : Prop :=
  match o.guard with
  | none => opW E P o ts H K
  | some (j, want) => match (all[j]?).bind (·.dst) with
    | some d => wGuard (ts.getD d undefA) want H (fun k => opW E P o ts H k) K
    | none => False

/-- what only looks, and writes a temporary that nobody else writes -/
def lookOp : Op → Bool
  | .assign _ => false
  | o => readOp o
/-- does an operation that only looks look into memory? -/
def heapOp : Op → Bool
  | .load .. | .slice .. => true
  | _ => false
/-- on which operations one waits, and those on which these wait -/
def anc (ops : Array Oper) : Nat → Nat → List Nat
  | 0, _ => []
  | f + 1, i => match ops[i]? with
    | some o => (o.after.toList.filter (Region.binds .any)).flatMap fun e => e.on :: anc ops f e.on
    | none => []
/-- which operations that have looked are asked again behind operation 'i' -/
def again (ops : Array Oper) (done : Array Bool) (i : Nat) : List Nat :=
  (List.range ops.size).filter fun j => done.getD j false && (match ops[j]? with | some o => lookOp o.op && heapOp o.op | none => false) && !(anc ops ops.size i).contains j
def againW (E : Env) (P : Program) (ops : Array Oper) (ts : List AV) (H : AH) : List Nat → Prop → Prop
  | [], p => p
  | j :: l, p => match ops[j]? with
    | some o => match o.dst with
      | some d => opG E P ops o ts H (fun y H' => y = ts.getD d undefA ∧ H' = H) ∧ againW E P ops ts H l p
      | none => againW E P ops ts H l p
    | none => againW E P ops ts H l p
def firstRead (ops : Array Oper) : List Nat → Option Nat
  | [] => none
  | i :: l => match ops[i]? with
    | some o => if lookOp o.op then some i else firstRead ops l
    | none => firstRead ops l
def allW : List Prop → Prop
  | [] => False
  | [p] => p
  | p :: l => p ∧ allW l
/-- a region whose order is open: what only looks as soon as it may; all else in each order -/
def drawW (E : Env) (P : Program) (ops : Array Oper) : Nat → Array Bool → List AV → AH → (List AV → AH → Prop) → Prop
  | 0, done, ts, H, K => if Region.ready .any ops done = [] then K ts H else False
  | f + 1, done, ts, H, K =>
    match firstRead ops (Region.ready .any ops done) with
    | some i => match ops[i]? with
      | some o => opG E P ops o ts H fun x H' => drawW E P ops f (done.setIfInBounds i true) (putT ts o.dst x) H' K
      | none => False
    | none => match Region.ready .any ops done with
      | [] => K ts H
      | l => allW (l.map fun i => match ops[i]? with
        | some o => opG E P ops o ts H fun x H' => againW E P ops (putT ts o.dst x) H' (again ops done i) (drawW E P ops f (done.setIfInBounds i true) (putT ts o.dst x) H' K)
        | none => False)
def waits (y : Oper) (i : Nat) : Bool := y.after.any fun e => Region.binds .any e && e.on == i
/-- what only looks writes a temporary of its own; who looks at it waits for it; and nobody writes what it looks at but in an order -/
def pairsOk (ops : Array Oper) : Bool :=
  (List.range ops.size).all fun i => match ops[i]? with
    | none => true
    | some x => (x.after.all fun e => !Region.binds .any e || decide (e.on < i)) &&
      (if lookOp x.op then (match x.dst with
          | none => false
          | some d => !(x.looksAt ops).contains d && (List.range ops.size).all fun j => i == j || match ops[j]? with
            | none => true
            | some y => y.dst != some d && (!(y.looksAt ops).contains d || waits y i))
        else (match x.dst with
          | none => true
          | some d => (List.range ops.size).all fun j => i == j || match ops[j]? with
            | none => true
            | some y => !lookOp y.op || !(y.looksAt ops).contains d || waits y i || waits x j))
def drawOk (P : Program) (ops : Array Oper) (n : Nat) : Bool :=
  P.follows .mixedOrders && Region.noSelect ops && pairsOk ops && ops.toList.all fun o => match o.dst with
    | some d => decide (d < n)
    | none => true

/-- a step that leaves memory as it is, and comes to one value -/
def wOne (op : AH → Kt → Prop) (H : AH) (K : Kt) : Prop := ∃ x, (∀ n K', (∀ n', K' x ⟨H.bs, n'⟩) → op ⟨H.bs, n⟩ K') ∧ K x H
def wAll (H : AH) (k : AH → Prop) : Prop := ∀ n, k ⟨H.bs, n⟩
/-- a region whose order is open, of steps that leave memory as it is: one order is enough -/
def freeW (E : Env) (P : Program) (ops : Array Oper) : List Oper → List AV → AH → (List AV → AH → Prop) → Prop
  | [], ts, H, K => wAll H fun H => K ts H
  | o :: rest, ts, H, K =>
    if lookOp o.op then opG E P ops o ts H fun x H' => freeW E P ops rest (putT ts o.dst x) H' K
    else wOne (fun H k => opG E P ops o ts H k) H fun x H' => freeW E P ops rest (putT ts o.dst x) H' K
/-- each writes a temporary of its own, and who looks at it waits for it -/
def freeOk (ops : Array Oper) : Bool :=
  (List.range ops.size).all fun i => match ops[i]? with
    | none => true
    | some x => match x.dst with
      | none => true
      | some d => !(x.looksAt ops).contains d && (List.range ops.size).all fun j => i == j || match ops[j]? with
        | none => true
        | some y => y.dst != some d && (!(y.looksAt ops).contains d || waits y i)

def AX.then (next : List AV → AH → Prop) (Q : AX → List AV → AH → Prop) : AX → List AV → AH → Prop
  | .normal, ts, H => next ts H
  | e, ts, H => Q e ts H
def AX.inBlock (id : Nat) (Q : AX → List AV → AH → Prop) : AX → List AV → AH → Prop
  | .exit i, ts, H => if i = id then Q .normal ts H else Q (.exit i) ts H
  | e, ts, H => Q e ts H

def wpC (E : Env) (P : Program) : Code → Ann → (AX → List AV → AH → Prop) → List AV → AH → Prop
  | .skip, _, Q, ts, H => Q .normal ts H
  | .region _ ops false, _, Q, ts, H => opsW E P ops ops.toList ts H (Q .normal)
  | .region _ ops true, .draw, Q, ts, H => if drawOk P ops ts.length = true then drawW E P ops ops.size (Array.replicate ops.size false) ts H (Q .normal) else False
  | .region _ ops true, .free, Q, ts, H => if (drawOk P ops ts.length && freeOk ops) = true then freeW E P ops ops.toList ts H (Q .normal) else False
  | .seq a b, .seq none x y, Q, ts, H => wpC E P a x (AX.then (wpC E P b y Q) Q) ts H
  | .seq a b, .seq (some l) x y, Q, ts, H =>
    wJoin l.length (fun J => wpC E P a x (AX.then (fun ts' H' => KN.app l.length J (looks ts' l) H') Q) ts H)
      (KN.of l.length fun xs H' => wpC E P b y Q (fillW (Code.writes a) (junkL ts (Code.writes a)) l xs) H')
  | .cond c a b, .two x y, Q, ts, H => wIf (ev E ts c) (wpC E P a x Q ts H) (wpC E P b y Q ts H)
  | .block id a, .one x, Q, ts, H => wpC E P a x (AX.inBlock id Q) ts H
  | .scope a, .one x, Q, ts, H => wpC E P a x Q ts H
  | .loop a, .loop l x, Q, ts, H =>
    wLoop l.length (fun I => KN.app l.length I (looks ts l) H)
      fun I => KN.of l.length fun xs H' => wpC E P a x (AX.then (fun ts' H'' => KN.app l.length I (looks ts' l) H'') Q) (fillW (Code.writes a) (junkL ts (Code.writes a)) l xs) H'
  | .exit id, _, Q, ts, H => Q (.exit id) ts H
  | .ret, _, Q, ts, H => Q .ret ts H
  | _, _, _, _, _ => False

/-- the results -/
def isTmpR : ResultVar → Bool
  | .tmp _ => true
  | _ => false
def tmpA (ts : List AV) : ResultVar → AV
  | .tmp t => ts.getD t undefA
  | _ => undefA
def retA (P : Program) (ts : List AV) (H : AH) : ResultVar → Option AV
  | .tmp t => some (ts.getD t undefA)
  | .cell ad t => match tyB P t with
    | some (true, n) => loadN n (ts.getD ad undefA) H
    | some (false, _) => load1 (ts.getD ad undefA) H
    | none => none
def allSome : List (Option AV) → Option (List AV)
  | [] => some []
  | some x :: l => (allSome l).map (x :: ·)
  | none :: _ => none
def retPack (l : List (Option AV)) : Option AV :=
  match allSome l with
  | some [x] => some x
  | some xs => some (.tup xs)
  | none => none
def retW (P : Program) (fn : Func) (ts : List AV) (H : AH) (R : Kt) : Prop :=
  match fn.results.toList with
  | [.tmp t] => R (ts.getD t undefA) H
  | l => if (l.all isTmpR && l.length != 1) = true then R (.tup (l.map (tmpA ts))) H else wGet (retPack (l.map (retA P ts H))) H R
def bodyW (E : Env) (P : Program) (fn : Func) (n : Ann) (args : List AV) (H : AH) (R : Kt) : Prop :=
  match fn.body with
  | some c => wpC E P c n (fun e ts H => match e with | .exit _ => False | _ => retW P fn ts H R) (args ++ List.replicate (fn.ntmps - args.length) undefA) H
  | none => False
end Go.Sc
namespace Go.Sc
open Go
theorem LRel_vals (E : Env) (c : Cx) : ∀ l : List Value, LRel E c (l.map .val) l
  | [] => by simp [LRel]
  | v :: l => by simp only [List.map_cons, LRel]; exact ⟨v, l, rfl, by simp [VRel], LRel_vals E c l⟩

theorem Sub.refl (x : AV) : Sub x x := fun _ _ _ h => h
theorem SubL.refl : ∀ xs : List AV, SubL xs xs
  | [] => .nil
  | x :: xs => .cons (Sub.refl x) (SubL.refl xs)
theorem SubL.rel {E : Env} {c : Cx} : ∀ {xs ys : List AV}, SubL xs ys → ∀ {vs}, LRel E c xs vs → LRel E c ys vs
  | [], _, .nil, _, h => h
  | x :: xs, _, .cons h1 h2, vs, h => by
    simp only [LRel] at h ⊢
    obtain ⟨u, us, rfl, hu, h⟩ := h
    exact ⟨u, us, rfl, h1 E c u hu, h2.rel h⟩
theorem SubL.length {xs ys : List AV} (h : SubL xs ys) : xs.length = ys.length := by
  induction h with
  | nil => rfl
  | cons _ _ ih => simp [ih]
theorem SubL.crel {E : Env} {c : Cx} : ∀ {xs ys : List AV}, SubL xs ys → ∀ {b o : Nat}, CRel E c xs b o → CRel E c ys b o
  | [], _, .nil, _, _, h => h
  | x :: xs, _, .cons h1 h2, b, o, h => by
    simp only [CRel] at h ⊢
    obtain ⟨⟨h3, u, h4, h5⟩, h6⟩ := h
    exact ⟨⟨h3, u, h4, h1 E c u h5⟩, h2.crel h6⟩

/-- a block stays as it is where nothing of it turns -/
theorem BRel.mono {E : Env} {c c' : Cx} {b : Nat} {x : Blk} (h : BRel E c b x) (hle : c.le c') (hg : c'.gen b = c.gen b) (hs : c'.sz b = c.sz b) (hc : c'.csz b = c.csz b) (ha : c'.al b = c.al b) (hbs : c'.base b = c.base b)
    (hh : x ≠ .dead → c'.w.heap[c.al b]? = c.w.heap[c.al b]?) : BRel E c' b x := by
  cases x with
  | dead => exact hg.trans h
  | cells g sz cs =>
    have hh := hh (by simp)
    obtain ⟨h1, h2, h3, arr, e, h4, h5, p0, pre, rest, h6, h8, h7⟩ := h
    exact ⟨Nat.lt_of_lt_of_le h1 hle.ctr, hg.trans h2, hs.trans h3, arr, e, by rw [ha, hh]; exact h4, hc.trans h5, p0, pre, rest, h6, h8.trans hbs.symm, h7.le hle⟩
  | map g ks xs =>
    have hh := hh (by simp)
    obtain ⟨h1, h2, es, clock, h4, h6, h7⟩ := h
    exact ⟨Nat.lt_of_lt_of_le h1 hle.ctr, hg.trans h2, es, clock, by rw [ha, hh]; exact h4, h6.le hle, h7.le hle⟩
  | tail g sz =>
    have hh := hh (by simp)
    obtain ⟨h1, h2, h3, arr, e, h4, h5⟩ := h
    exact ⟨Nat.lt_of_lt_of_le h1 hle.ctr, hg.trans h2, hs.trans h3, arr, e, by rw [ha, hh]; exact h4, hc.trans h5⟩
  | obj g o =>
    have hh := hh (by simp)
    obtain ⟨h1, h2, h3⟩ := h
    exact ⟨Nat.lt_of_lt_of_le h1 hle.ctr, hg.trans h2, by rw [ha, hh]; exact h3⟩

theorem lt_of_get {α : Type} {l : List α} {i : Nat} {x : α} (h : l[i]? = some x) : i < l.length := by
  by_cases hi : i < l.length
  · exact hi
  · rw [List.getElem?_eq_none (by omega)] at h; cases h

/-- the context behind a new block; of it the first 'nf' cells are frozen -/
def Cx.put (c : Cx) (n sz csz nf : Nat) (o : Obj) : Cx where
  w := c.w.alloc o
  al := fun b => if b = n then c.w.heap.size else c.al b
  base := fun b => if b = n then 0 else c.base b
  gen := fun b => if b = n then some c.ctr else c.gen b
  sz := fun b => if b = n then sz else c.sz b
  csz := fun b => if b = n then csz else c.csz b
  fz := c.fz
  fc := fun k j => c.fc k j ∨ (k = c.w.heap.size ∧ j < nf)
  ctr := c.ctr + 1

theorem heap_alloc_old (w : World) (o : Obj) (k : Nat) (h : k < w.heap.size) : (w.alloc o).heap[k]? = w.heap[k]? := by
  show (w.heap.push o)[k]? = _
  rw [Array.getElem?_push, if_neg (by omega)]
theorem heap_alloc_new' (w : World) (o : Obj) : (w.alloc o).heap[w.heap.size]? = some o := by
  show (w.heap.push o)[w.heap.size]? = _
  simp

theorem HRel.gen_lt {E : Env} {c : Cx} {H : AH} (h : HRel E c H) {b : Nat} (hb : c.gen b ≠ none) : ∃ x, H.bs[b]? = some x := by
  cases hx : H.bs[b]? with
  | none => exact absurd (h.out b hx) hb
  | some x => exact ⟨x, rfl⟩
theorem HRel.live {E : Env} {c : Cx} {H : AH} (h : HRel E c H) {b : Nat} {x : Blk} (hb : H.bs[b]? = some x) (hx : x ≠ .dead := by simp) : c.gen b = some x.g ∧ x.g < c.ctr := by
  have := h.blk b x hb
  cases x with
  | dead => exact absurd rfl hx
  | cells g sz cs => exact ⟨this.2.1, this.1⟩
  | map g ks xs => exact ⟨this.2.1, this.1⟩
  | tail g sz => exact ⟨this.2.1, this.1⟩
  | obj g o => exact ⟨this.2.1, this.1⟩
theorem HRel.live' {E : Env} {c : Cx} {H : AH} (h : HRel E c H) {b : Nat} {x : Blk} (hb : H.bs[b]? = some x) (hx : x ≠ .dead := by simp) : c.gen b ≠ none := by
  rw [(h.live hb hx).1]; simp
theorem HRel.free {E : Env} {c : Cx} {H : AH} (h : HRel E c H) {b : Nat} (hb : H.free b) : c.gen b = none := by
  rcases hb with rfl | hb
  · exact h.out _ (by simp)
  · exact h.blk b _ hb

theorem put_get {H : AH} {b : Nat} (hb : H.free b) (x : Blk) (i : Nat) : (H.put b x).bs[i]? = if i = b then some x else H.bs[i]? := by
  unfold AH.put
  rcases hb with rfl | hb
  · simp only [if_true]
    by_cases hi : i = H.bs.length
    · subst hi; simp
    · rw [if_neg hi]
      by_cases hl : i < H.bs.length
      · rw [List.getElem?_append_left hl]
      · rw [List.getElem?_eq_none (by simp; omega), List.getElem?_eq_none (by omega)]
  · have hl := lt_of_get hb
    have : b ≠ H.bs.length := by omega
    simp only [this, if_false]
    by_cases hi : i = b
    · subst hi; simp [hl]
    · rw [if_neg hi, List.getElem?_set_ne (Ne.symm hi)]

theorem Later.put {E : Env} {c : Cx} {H : AH} (h : HRel E c H) {b : Nat} (_hb : H.free b) (sz csz nf : Nat) (o : Obj) : Later c (c.put b sz csz nf o) where
  le := {
    ctr := Nat.le_succ _
    fz := fun b hb => ⟨hb, heap_alloc_old _ _ _ (h.fzlt b hb)⟩
    fc := fun k j hk => ⟨.inr (.inl hk), cell_of_heap (heap_alloc_old _ _ _ (h.fclt k j hk)) _ _⟩
    gen := fun i g hg e => by
      simp only [Cx.put] at e ⊢
      by_cases hi : i = b
      · simp only [hi, if_true] at e; injection e with e; omega
      · rw [if_neg hi] at e; simp [hi, e]
    room := fun i g hg e j hj => by
      simp only [Cx.put] at e hj
      by_cases hi : i = b
      · simp only [hi, if_true] at e; injection e with e; omega
      · rw [if_neg hi] at e
        rcases hj with hj | ⟨hj, _⟩
        · exact hj
        · have := h.lt i (by rw [e]; simp); omega }
  os := rfl
  tape := rfl
  output := rfl
  size := by simp [Cx.put]
  keep := fun k hk _ => heap_alloc_old _ _ _ hk
  own := fun i hi => by
    simp only [Cx.put] at hi ⊢
    by_cases e : i = b
    · simp [e]
    · rw [if_neg e] at hi; rw [if_neg e]; exact .inl ⟨i, hi, rfl⟩
  fz := fun k hk => .inl hk
  fc := fun k j hk => by
    rcases hk with hk | ⟨hk, _⟩
    · exact .inl hk
    · exact .inr (.inl (by omega))

theorem HRel.put {E : Env} {c : Cx} {H : AH} (h : HRel E c H) {b : Nat} (hb : H.free b) (sz csz nf : Nat) (o : Obj) (x : Blk) (hx : BRel E (c.put b sz csz nf o) b x) (hn : x.isTail = false → nf = 0) :
    HRel E (c.put b sz csz nf o) (H.put b x) := by
  have hL := Later.put h hb sz csz nf o
  have hgb := h.free hb
  have hal : ∀ i, i ≠ b → (c.put b sz csz nf o).al i = c.al i := fun i hi => by simp [Cx.put, hi]
  have hgen : ∀ i, i ≠ b → (c.put b sz csz nf o).gen i = c.gen i := fun i hi => by simp [Cx.put, hi]
  have hal' : (c.put b sz csz nf o).al b = c.w.heap.size := by simp [Cx.put]
  have hsz : (c.put b sz csz nf o).w.heap.size = c.w.heap.size + 1 := by simp [Cx.put]
  refine ⟨by simp [Cx.put, AH.put, h.ctr], ?_, ?_, ?_, ?_, ?_, ?_, ?_, ?_, h.globLe hL.le⟩
  · intro i e
    rw [put_get hb] at e
    split at e
    · cases e
    · rename_i hi; rw [hgen i hi]; exact h.out i e
  · intro i y e
    rw [put_get hb] at e
    split at e
    · rename_i hi; injection e with e; subst e; subst hi; exact hx
    · rename_i hi
      refine (h.blk i y e).mono hL.le (by simp [Cx.put, hi]) (by simp [Cx.put, hi]) (by simp [Cx.put, hi]) (hal i hi) (by simp [Cx.put, hi]) (fun hd => heap_alloc_old _ _ _ (h.lt i ?_))
      exact h.live' e hd
  · intro i hi
    by_cases hib : i = b
    · subst hib; rw [hal']; exact fun hf => Nat.lt_irrefl _ (h.fzlt _ hf)
    · rw [hal i hib]; rw [hgen i hib] at hi; exact h.apart i hi
  · intro i y e hd ht j hj
    rw [put_get hb] at e
    split at e
    · rename_i hi; injection e with e; subst e; subst hi
      rw [hal'] at hj
      rcases hj with hj | ⟨_, hj⟩
      · exact Nat.lt_irrefl _ (h.fclt _ _ hj)
      · have := hn ht; omega
    · rename_i hi
      rw [hal i hi] at hj
      rcases hj with hj | ⟨hj, _⟩
      · exact h.solid i y e hd ht j hj
      · have := h.lt i (h.live' e hd); omega
  · intro i i' hi hi' he
    by_cases h1 : i = b
    · by_cases h2 : i' = b
      · omega
      · rw [hgen i' h2] at hi'
        subst h1; rw [hal', hal i' h2] at he; have := h.lt i' hi'; omega
    · rw [hgen i h1] at hi
      by_cases h2 : i' = b
      · subst h2; rw [hal', hal i h1] at he; have := h.lt i hi; omega
      · rw [hgen i' h2] at hi'
        rw [hal i h1, hal i' h2] at he; exact h.inj i i' hi hi' he
  · intro i hi
    rw [hsz]
    by_cases h1 : i = b
    · subst h1; rw [hal']; omega
    · rw [hgen i h1] at hi; rw [hal i h1]; have := h.lt i hi; omega
  · intro k hf
    have := h.fzlt k hf
    omega
  · intro k j hf
    rcases hf with hf | ⟨hf, _⟩
    · have := h.fclt k j hf; omega
    · omega

/-- a new block of cells -/
theorem HRel.newCells {E : Env} {c : Cx} {H : AH} (h : HRel E c H) {b : Nat} (hb : H.free b) (sz : Nat) (e : TypeId) (pre rest : List Value) (cs : List AV) (hl : LRel E c cs pre) :
    ∃ c', c'.w = c.w.alloc (.cells (pre ++ rest).toArray e (0, 0)) ∧ HRel E c' (H.put b (.cells H.ctr sz cs)) ∧ Later c c' ∧
      VRel E c' (.ptrL b 0 H.ctr) (.pointer (some ⟨c.w.heap.size, 0, none⟩)) ∧
      ∀ len cap, cap * sz = (pre ++ rest).length → len ≤ cap → VRel E c' (.slL b 0 len H.ctr) (.slice (some ⟨c.w.heap.size, 0, none⟩) len cap) := by
  have hL := Later.put h hb sz (pre ++ rest).length 0 (.cells (pre ++ rest).toArray e (0, 0))
  refine ⟨c.put b sz (pre ++ rest).length 0 (.cells (pre ++ rest).toArray e (0, 0)), rfl, ?_, hL, ?_, ?_⟩
  · refine h.put hb _ _ _ _ (.cells H.ctr sz cs) ⟨?_, ?_, ?_, pre ++ rest, e, ?_, ?_, [], pre, rest, rfl, ?_, hl.le hL.le⟩ (fun _ => rfl)
    · simp [Cx.put, h.ctr]
    · simp [Cx.put, h.ctr]
    · simp [Cx.put]
    · simp only [Cx.put, if_true]; exact heap_alloc_new' _ _
    · simp [Cx.put]
    · simp [Cx.put]
  · simp [VRel, Cx.put, h.ctr]
  · intro len cap hcap hle
    simp only [VRel, Cx.put, if_true]
    exact ⟨by rw [h.ctr]; omega, _, cap, rfl, hle, fun _ => .inr ⟨rfl, by simp; simpa using hcap⟩⟩

/-- a new slice that may grow -/
theorem HRel.newTail {E : Env} {c : Cx} {H : AH} (h : HRel E c H) {b : Nat} (hb : H.free b) (sz : Nat) (e : TypeId) (pre rest : List Value) (cs : List AV) (hl : LRel E c cs pre) :
    ∃ c', c'.w = c.w.alloc (.cells (pre ++ rest).toArray e (0, 0)) ∧ HRel E c' (H.put b (.tail H.ctr sz)) ∧ Later c c' ∧
      ∀ len cap, cap * sz = (pre ++ rest).length → len ≤ cap → VRel E c' (.slT b cs len H.ctr) (.slice (some ⟨c.w.heap.size, 0, none⟩) len cap) := by
  have hL := Later.put h hb sz (pre ++ rest).length pre.length (.cells (pre ++ rest).toArray e (0, 0))
  refine ⟨c.put b sz (pre ++ rest).length pre.length (.cells (pre ++ rest).toArray e (0, 0)), rfl, ?_, hL, ?_⟩
  · refine h.put hb _ _ _ _ (.tail H.ctr sz) ⟨?_, ?_, ?_, pre ++ rest, e, ?_, ?_⟩ (fun hh => by simp [Blk.isTail] at hh)
    · simp [Cx.put, h.ctr]
    · simp [Cx.put, h.ctr]
    · simp [Cx.put]
    · simp only [Cx.put, if_true]; exact heap_alloc_new' _ _
    · simp [Cx.put]
  · intro len cap hcap hle
    have hlen := hl.length
    simp only [VRel]
    refine ⟨by rw [← h.ctr]; exact Nat.lt_succ_self _, _, cap, rfl, hle, .inr ⟨_, 0, rfl, CRel.of fun i x hi => ?_, fun _ => ⟨by simp [Cx.put], fun j hj hf => ?_, by simp [Cx.put]; simpa using hcap⟩⟩⟩
    · obtain ⟨u, h1, h2⟩ := hl.get hi
      have hlt := lt_of_get hi
      refine ⟨.inr (.inr ⟨rfl, by omega⟩), u, ?_, h2.le hL.le⟩
      simp only [Cx.put, World.cell?, heap_alloc_new']
      have h3 := lt_of_get h1
      simp [List.getElem?_append_left h3, h1]
    · rcases hf with hf | ⟨_, hf⟩
      · exact Nat.lt_irrefl _ (h.fclt _ _ hf)
      · omega

/-- new memory that is frozen at once -/
theorem HRel.newFrz {E : Env} {c : Cx} {H : AH} (h : HRel E c H) (e : TypeId) (pre rest : List Value) (cs : List AV) (hl : LRel E c cs pre) :
    ∃ c', c'.w = c.w.alloc (.cells (pre ++ rest).toArray e (0, 0)) ∧ HRel E c' H ∧ Later c c' ∧ CRel E c' cs c.w.heap.size 0 := by
  let c' : Cx := { c with w := c.w.alloc (.cells (pre ++ rest).toArray e (0, 0)), fz := fun k => c.fz k ∨ k = c.w.heap.size }
  have hL : Later c c' := {
    le := {
      ctr := Nat.le_refl _
      fz := fun b hb => ⟨.inl hb, heap_alloc_old _ _ _ (h.fzlt b hb)⟩
      fc := fun k j hk => ⟨.inr hk, cell_of_heap (heap_alloc_old _ _ _ (h.fclt k j hk)) _ _⟩
      gen := fun i g hg e => ⟨e, rfl, rfl, rfl, rfl⟩
      room := fun i g hg e j hj => hj }
    os := rfl
    tape := rfl
    output := rfl
    size := by simp [c']
    keep := fun k hk _ => heap_alloc_old _ _ _ hk
    own := fun i hi => .inl ⟨i, hi, rfl⟩
    fz := fun k hk => by
      rcases hk with hk | hk
      · exact .inl hk
      · exact .inr (.inl (by omega))
    fc := fun k j hk => .inl hk }
  have hsz : c'.w.heap.size = c.w.heap.size + 1 := by simp [c']
  refine ⟨c', rfl, ⟨h.ctr, h.out, fun i y e => (h.blk i y e).mono hL.le rfl rfl rfl rfl rfl (fun hd => heap_alloc_old _ _ _ (h.lt i (h.live' e hd))), fun i hi hf => ?_, h.solid, h.inj, fun i hi => ?_, fun k hf => ?_, fun k j hf => ?_, h.globLe hL.le⟩, hL, CRel.of fun i x hi => ?_⟩
  · rcases hf with hf | hf
    · exact h.apart i hi hf
    · have := h.lt i hi
      have hf : c.al i = c.w.heap.size := hf
      omega
  · have := h.lt i hi
    show c.al i < _
    omega
  · rcases hf with hf | hf
    · have := h.fzlt k hf; omega
    · omega
  · have := h.fclt k j hf; omega
  · obtain ⟨u, h1, h2⟩ := hl.get hi
    refine ⟨.inl (.inr rfl), u, ?_, h2.le hL.le⟩
    have h3 := lt_of_get h1
    simp only [c', World.cell?, heap_alloc_new']
    simp [List.getElem?_append_left h3, h1]

/-- a world of the same heap -/
theorem HRel.heap_eq {E : Env} {c : Cx} {H : AH} (h : HRel E c H) {w' : World} (hh : w'.heap = c.w.heap) (ho : w'.os = c.w.os) (ht : w'.tape = c.w.tape) (hp : w'.output = c.w.output) :
    HRel E { c with w := w' } H ∧ Later c { c with w := w' } := by
  have hL : Later c { c with w := w' } := {
    le := ⟨Nat.le_refl _, fun b hb => ⟨hb, by simp only [hh]⟩, fun k j hk => ⟨.inr hk, cell_of_heap (by simp only [hh]) _ _⟩, fun b g _ e => ⟨e, rfl, rfl, rfl, rfl⟩, fun _ _ _ _ _ hj => hj⟩
    os := ho
    tape := ht
    output := hp
    size := by simp [hh]
    keep := fun k _ _ => by simp only [hh]
    own := fun b hb => .inl ⟨b, hb, rfl⟩
    fz := fun k hk => .inl hk
    fc := fun k j hk => .inl hk }
  exact ⟨⟨h.ctr, h.out, fun b x e => (h.blk b x e).mono hL.le rfl rfl rfl rfl rfl (fun _ => by simp only [hh]), h.apart, h.solid, h.inj, fun b hb => by simpa [hh] using h.lt b hb, fun b hb => by simpa [hh] using h.fzlt b hb, fun b j hb => by simpa [hh] using h.fclt b j hb, h.globLe hL.le⟩, hL⟩

/-- one block is written anew, in its place -/
theorem HRel.setBlk {E : Env} {c : Cx} {H : AH} (h : HRel E c H) {b : Nat} {x x' : Blk} (hb : H.bs[b]? = some x) (hx : x ≠ .dead) (ht : x.isTail = false) (ht' : x'.isTail = false) (hx' : x' ≠ .dead)
    {o : Obj} {w' : World} (hheap : w'.heap = c.w.heap.setIfInBounds (c.al b) o) (ho : w'.os = c.w.os) (htp : w'.tape = c.w.tape) (hp : w'.output = c.w.output) (hB : c.le { c with w := w' } → BRel E { c with w := w' } b x') :
    HRel E { c with w := w' } ⟨H.bs.set b x', H.ctr⟩ ∧ Later c { c with w := w' } := by
  have hgb := h.live' hb hx
  have hlt := h.lt b hgb
  have hlen := lt_of_get hb
  have hother : ∀ k, k ≠ c.al b → w'.heap[k]? = c.w.heap[k]? := fun k hk => by
    rw [hheap, Array.getElem?_setIfInBounds, if_neg (by omega)]
  have hL : Later c { c with w := w' } := {
    le := ⟨Nat.le_refl _, fun k hk => ⟨hk, hother k fun e => h.apart b hgb (e ▸ hk)⟩, fun k j hk => ⟨.inr hk, cell_of_heap (hother k fun e => h.solid b x hb hx ht j (e ▸ hk)) _ _⟩, fun b g _ e => ⟨e, rfl, rfl, rfl, rfl⟩, fun _ _ _ _ _ hj => hj⟩
    os := ho
    tape := htp
    output := hp
    size := by simp [hheap]
    keep := fun k _ hn => hother k fun e => hn b hgb e.symm
    own := fun b hb => .inl ⟨b, hb, rfl⟩
    fz := fun k hk => .inl hk
    fc := fun k j hk => .inl hk }
  refine ⟨⟨h.ctr, ?_, ?_, h.apart, ?_, h.inj, ?_, ?_, ?_, h.globLe hL.le⟩, hL⟩
  · intro i hi
    exact h.out i (by simpa [List.getElem?_eq_none_iff] using hi)
  · intro i y hi
    by_cases hib : i = b
    · subst hib
      have : y = x' := by simpa [hlen] using hi.symm
      subst this
      exact hB hL.le
    · have hi' : H.bs[i]? = some y := by rwa [List.getElem?_set_ne (by omega)] at hi
      exact (h.blk i y hi').mono hL.le rfl rfl rfl rfl rfl (fun hd => hother _ fun e => hib (h.inj i b (h.live' hi' hd) hgb e))
  · intro i y hi hd hty j
    by_cases hib : i = b
    · subst hib
      exact h.solid i x hb hx ht j
    · exact h.solid i y (by rwa [List.getElem?_set_ne (by omega)] at hi) hd hty j
  · intro i hi
    simpa [hheap] using h.lt i hi
  · intro k hk
    simpa [hheap] using h.fzlt k hk
  · intro k j hk
    simpa [hheap] using h.fclt k j hk

/-- one block of cells is written anew (as many cells) -/
theorem HRel.setRow {E : Env} {c : Cx} {H : AH} (h : HRel E c H) {b g sz : Nat} {cs cs' : List AV} {p0 pre rest : List Value} {e : TypeId} (hb : H.bs[b]? = some (.cells g sz cs))
    (hw : c.w.heap[c.al b]? = some (.cells (p0 ++ pre ++ rest).toArray e (0, 0))) (hp0 : p0.length = c.base b) {pre' : List Value} (hl : pre'.length = pre.length) (hr : LRel E c cs' pre')
    {w' : World} (hheap : w'.heap = c.w.heap.setIfInBounds (c.al b) (.cells (p0 ++ pre' ++ rest).toArray e (0, 0))) (ho : w'.os = c.w.os) (ht : w'.tape = c.w.tape) (hp : w'.output = c.w.output) :
    HRel E { c with w := w' } ⟨H.bs.set b (.cells g sz cs'), H.ctr⟩ ∧ Later c { c with w := w' } := by
  have hlt := h.lt b (h.live' hb)
  refine h.setBlk hb (by simp) rfl rfl (by simp) hheap ho ht hp fun hle => ?_
  obtain ⟨h1, h2, h3, arr, e', h4, h5, -⟩ := h.blk b _ hb
  rw [hw] at h4
  injection h4 with h4
  injection h4 with h4 _
  refine ⟨h1, h2, h3, p0 ++ pre' ++ rest, e, ?_, ?_, p0, pre', rest, rfl, hp0, hr.le hle⟩
  · show w'.heap[c.al b]? = _
    rw [hheap, Array.getElem?_setIfInBounds]; simp [hlt]
  · show c.csz b = _
    rw [h5]
    have := congrArg Array.size h4
    simp only [List.size_toArray, List.length_append] at this ⊢
    omega

/-- one block lies anew: in its place, or in a new one; of what it is now the cells 'o' to 'o + nf' are frozen -/
theorem HRel.regen {E : Env} {c : Cx} {H : AH} (h : HRel E c H) {b sz k nf o : Nat} {x x' : Blk} {arr : List Value} {p0 : Nat} {e : TypeId} {w' : World} (hb : H.bs[b]? = some x) (hx : x ≠ .dead) (hk : k = c.al b ∨ k = c.w.heap.size)
    (hself : w'.heap[k]? = some (.cells arr.toArray e (0, 0))) (hother : ∀ i, i ≠ k → i < c.w.heap.size → w'.heap[i]? = c.w.heap[i]?) (hsize : c.w.heap.size ≤ w'.heap.size)
    (hkeep : ∀ j, c.fc k j → w'.cell? ⟨k, j, none⟩ = c.w.cell? ⟨k, j, none⟩)
    (ho : w'.os = c.w.os) (ht : w'.tape = c.w.tape) (hp : w'.output = c.w.output) (hx' : x' ≠ .dead) (hnf : x'.isTail = false → nf = 0 ∧ x.isTail = false) :
    let c' : Cx := { w := w', al := fun i => if i = b then k else c.al i, base := fun i => if i = b then p0 else c.base i, gen := fun i => if i = b then some c.ctr else c.gen i, sz := fun i => if i = b then sz else c.sz i, csz := fun i => if i = b then arr.length else c.csz i, fz := c.fz, fc := fun i j => c.fc i j ∨ (i = k ∧ o ≤ j ∧ j < o + nf), ctr := c.ctr + 1 }
    (c.le c' → BRel E c' b x') → HRel E c' ⟨H.bs.set b x', H.ctr + 1⟩ ∧ Later c c' := by
  intro c' hB
  have hgb := h.live' hb hx
  have hlen := lt_of_get hb
  have hkw : k < w'.heap.size := by
    rcases Nat.lt_or_ge k w'.heap.size with hh | hh
    · exact hh
    · rw [Array.getElem?_eq_none hh] at hself; cases hself
  have hblt := h.lt b hgb
  have hne : ∀ i, c.gen i ≠ none → i ≠ b → c.al i ≠ k := by
    intro i hi hib heq
    rcases hk with hk | hk
    · exact hib (h.inj i b hi hgb (heq.trans hk))
    · have := h.lt i hi; omega
  have hfz : ∀ i, c.fz i → i ≠ k := by
    intro i hi heq
    rcases hk with hk | hk
    · exact h.apart b hgb (by rw [← hk, ← heq]; exact hi)
    · have := h.fzlt i hi; omega
  have hL : Later c c' := {
    le := {
      ctr := Nat.le_succ _
      fz := fun i hi => ⟨hi, hother i (hfz i hi) (h.fzlt i hi)⟩
      fc := fun i j hi => ⟨.inr (.inl hi), by
        by_cases hik : i = k
        · subst hik; exact hkeep j hi
        · exact cell_of_heap (hother i hik (h.fclt i j hi)) _ _⟩
      gen := fun i q hq e => by
        simp only [c'] at e ⊢
        by_cases hi : i = b
        · rw [if_pos hi] at e; injection e with e; omega
        · rw [if_neg hi] at e; simp [hi, e]
      room := fun i q hq e j hj => by
        simp only [c'] at e hj
        by_cases hi : i = b
        · rw [if_pos hi] at e; injection e with e; omega
        · rw [if_neg hi] at e
          rcases hj with hj | ⟨hj, _⟩
          · exact hj
          · exact absurd hj (hne i (by rw [e]; simp) hi) }
    os := ho
    tape := ht
    output := hp
    size := hsize
    keep := fun i hi hn => hother i (by
      rintro rfl
      rcases hk with hk | hk
      · exact hn b hgb hk.symm
      · omega) hi
    own := fun i hi => by
      simp only [c'] at hi ⊢
      by_cases hib : i = b
      · subst hib
        rw [if_pos rfl]
        rcases hk with hk | hk
        · exact .inl ⟨i, hgb, hk⟩
        · exact .inr (by omega)
      · rw [if_neg hib] at hi; rw [if_neg hib]; exact .inl ⟨i, hi, rfl⟩
    fz := fun i hi => .inl hi
    fc := fun i j hi => by
      rcases hi with hi | ⟨rfl, _⟩
      · exact .inl hi
      · rcases hk with hk | hk
        · exact .inr (.inr ⟨b, hgb, hk.symm⟩)
        · exact .inr (.inl (by omega)) }
  have old : ∀ i y, (H.bs.set b x')[i]? = some y → (i ≠ b ∧ H.bs[i]? = some y) ∨ (i = b ∧ y = x') := by
    intro i y e
    by_cases hib : i = b
    · subst hib
      simp only [List.getElem?_set_self hlen, Option.some.injEq] at e
      exact .inr ⟨rfl, e.symm⟩
    · exact .inl ⟨hib, by rwa [List.getElem?_set_ne (by omega)] at e⟩
  refine ⟨⟨by show c.ctr + 1 = _; rw [h.ctr], ?_, ?_, ?_, ?_, ?_, ?_, ?_, ?_, h.globLe hL.le⟩, hL⟩
  · intro i hi
    have hi' : H.bs[i]? = none := by simpa [List.getElem?_eq_none_iff] using hi
    have hib : i ≠ b := by rintro rfl; rw [hb] at hi'; cases hi'
    simp only [c', if_neg hib]; exact h.out i hi'
  · intro i y e1
    rcases old i y e1 with ⟨hib, e0⟩ | ⟨rfl, rfl⟩
    · refine (h.blk i y e0).mono hL.le (by simp [c', hib]) (by simp [c', hib]) (by simp [c', hib]) (by simp [c', hib]) (by simp [c', hib]) ?_
      exact fun hd => hother _ (hne i (h.live' e0 hd) hib) (h.lt i (h.live' e0 hd))
    · exact hB hL.le
  · intro i hi
    simp only [c'] at hi ⊢
    by_cases hib : i = b
    · rw [if_pos hib]
      intro hf
      exact hfz k hf rfl
    · rw [if_neg hib] at hi; rw [if_neg hib]; exact h.apart i hi
  · intro i y e1 hd hty j hj
    simp only [c'] at hj
    rcases old i y e1 with ⟨hib, e0⟩ | ⟨rfl, rfl⟩
    · rw [if_neg hib] at hj
      rcases hj with hj | ⟨hj, _⟩
      · exact h.solid i y e0 hd hty j hj
      · exact hne i (h.live' e0 hd) hib hj
    · obtain ⟨h1, h2⟩ := hnf hty
      rw [if_pos rfl] at hj
      rcases hj with hj | ⟨_, hj⟩
      · rcases hk with hk | hk
        · exact h.solid i x hb hx h2 j (hk ▸ hj)
        · have := h.fclt k j hj; omega
      · omega
  · intro i i' hi hi' he
    simp only [c'] at hi hi' he
    by_cases h1 : i = b
    · by_cases h2 : i' = b
      · omega
      · rw [if_neg h2] at hi'
        rw [if_pos h1, if_neg h2] at he
        exact absurd he.symm (hne i' hi' h2)
    · rw [if_neg h1] at hi
      by_cases h2 : i' = b
      · rw [if_neg h1, if_pos h2] at he
        exact absurd he (hne i hi h1)
      · rw [if_neg h2] at hi'
        rw [if_neg h1, if_neg h2] at he
        exact h.inj i i' hi hi' he
  · intro i hi
    simp only [c'] at hi ⊢
    by_cases h1 : i = b
    · rw [if_pos h1]; exact hkw
    · rw [if_neg h1] at hi; rw [if_neg h1]
      exact Nat.lt_of_lt_of_le (h.lt i hi) hsize
  · intro i hi
    exact Nat.lt_of_lt_of_le (h.fzlt i hi) hsize
  · intro i j hi
    rcases hi with hi | ⟨rfl, _⟩
    · exact Nat.lt_of_lt_of_le (h.fclt i j hi) hsize
    · exact hkw

/-- one block of cells lies anew -/
theorem HRel.regenC {E : Env} {c : Cx} {H : AH} (h : HRel E c H) {b g sz k : Nat} {cs cs' : List AV} {p0 pre rest : List Value} {e : TypeId} {w' : World} (hb : H.bs[b]? = some (.cells g sz cs)) (hk : k = c.al b ∨ k = c.w.heap.size)
    (hself : w'.heap[k]? = some (.cells (p0 ++ pre ++ rest).toArray e (0, 0))) (hother : ∀ i, i ≠ k → i < c.w.heap.size → w'.heap[i]? = c.w.heap[i]?) (hsize : c.w.heap.size ≤ w'.heap.size)
    (ho : w'.os = c.w.os) (ht : w'.tape = c.w.tape) (hp : w'.output = c.w.output) (hl : LRel E c cs' pre) :
    ∃ c', c'.w = w' ∧ HRel E c' ⟨H.bs.set b (.cells H.ctr sz cs'), H.ctr + 1⟩ ∧ Later c c' ∧
      ∀ off len cap, p0.length + off + cap * sz = (p0 ++ pre ++ rest).length → len ≤ cap → VRel E c' (.slL b off len H.ctr) (.slice (some ⟨k, p0.length + off, none⟩) len cap) := by
  have hnofc : ∀ j, ¬ c.fc k j := by
    intro j hj
    rcases hk with hk | hk
    · exact h.solid b _ hb (by simp) rfl j (hk ▸ hj)
    · have := h.fclt k j hj; omega
  obtain ⟨h1, h2⟩ := h.regen (x' := .cells H.ctr sz cs') (sz := sz) (nf := 0) (o := 0) (p0 := p0.length) hb (by simp) hk hself hother hsize (fun j hj => absurd hj (hnofc j)) ho ht hp (by simp) (fun _ => ⟨rfl, rfl⟩) fun hle => by
    refine ⟨?_, ?_, ?_, p0 ++ pre ++ rest, e, ?_, ?_, p0, pre, rest, rfl, ?_, hl.le hle⟩
    · simp [h.ctr]
    · simp [h.ctr]
    · simp
    · simp only [if_true]; exact hself
    · simp
    · simp
  refine ⟨_, rfl, h1, h2, fun off len cap hcap hle => ?_⟩
  simp only [VRel, if_true]
  exact ⟨by rw [h.ctr]; omega, _, cap, rfl, hle, fun _ => .inr ⟨rfl, by simpa using hcap⟩⟩

/-- a slice that may grow has grown: 'o' is where it begins, 'cs' what it holds now -/
theorem HRel.regenT {E : Env} {c : Cx} {H : AH} (h : HRel E c H) {b g sz k o : Nat} {cs : List AV} {arr us : List Value} {e : TypeId} {w' : World} (hb : H.bs[b]? = some (.tail g sz)) (hk : k = c.al b ∨ k = c.w.heap.size)
    (hself : w'.heap[k]? = some (.cells arr.toArray e (0, 0))) (hother : ∀ i, i ≠ k → i < c.w.heap.size → w'.heap[i]? = c.w.heap[i]?) (hsize : c.w.heap.size ≤ w'.heap.size)
    (hkeep : ∀ j, c.fc k j → w'.cell? ⟨k, j, none⟩ = c.w.cell? ⟨k, j, none⟩) (hroom : ∀ j, o + cs.length ≤ j → ¬ c.fc k j)
    (ho : w'.os = c.w.os) (ht : w'.tape = c.w.tape) (hp : w'.output = c.w.output) (hl : LRel E c cs us) (hus : ∀ (i : Nat) v, us[i]? = some v → arr[o + i]? = some v) :
    ∃ c', c'.w = w' ∧ HRel E c' ⟨H.bs.set b (.tail H.ctr sz), H.ctr + 1⟩ ∧ Later c c' ∧
      ∀ len cap, o + cap * sz = arr.length → len ≤ cap → VRel E c' (.slT b cs len H.ctr) (.slice (some ⟨k, o, none⟩) len cap) := by
  obtain ⟨h1, h2⟩ := h.regen (x' := .tail H.ctr sz) (sz := sz) (nf := cs.length) (o := o) (p0 := 0) hb (by simp) hk hself hother hsize hkeep ho ht hp (by simp) (fun hh => by simp [Blk.isTail] at hh) fun hle => by
    refine ⟨?_, ?_, ?_, arr, e, ?_, ?_⟩
    · simp [h.ctr]
    · simp [h.ctr]
    · simp
    · simp only [if_true]; exact hself
    · simp
  refine ⟨_, rfl, h1, h2, fun len cap hcap hle => ?_⟩
  simp only [VRel]
  refine ⟨by rw [← h.ctr]; exact Nat.lt_succ_self _, _, cap, rfl, hle, .inr ⟨k, o, rfl, CRel.of fun i x hi => ?_, fun _ => ⟨by simp, fun j hj hf => ?_, by simpa using hcap⟩⟩⟩
  · obtain ⟨u, h3, h4⟩ := hl.get hi
    have := lt_of_get hi
    refine ⟨.inr (.inr ⟨rfl, by omega, by omega⟩), u, ?_, h4.le h2.le⟩
    simp only [World.cell?, hself]
    simpa using hus i u h3
  · rcases hf with hf | ⟨_, _, hf⟩
    · exact hroom j hj hf
    · omega
end Go.Sc
