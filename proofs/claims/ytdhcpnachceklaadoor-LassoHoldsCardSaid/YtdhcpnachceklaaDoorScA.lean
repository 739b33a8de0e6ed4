/-
  THE ABSTRACT VALUES, AND HOW THEY STAND TO THE MODEL's VALUES: no dump, no seat.
  'AV': what a value is, without addresses: frozen memory (what nobody writes any more) stands in the value itself, memory of the call's own stands in a list of blocks ('AH').
  'VRel': which values of the model an abstract one stands for, in a context 'Cx' (a world, the blocks' places in it, what is frozen).
-/
import Derived.Calls
namespace Go.Sc
open Go

/-- An abstract value. -/
inductive AV where
  | junk
  | val (v : Value)
  | ptrL (b off g : Nat)
  | ptrF (cs : List AV) (off : Nat)
  | slL (b off len g : Nat)
  | slF (cs : List AV) (off len : Nat)
  /-- a frozen slice that may be nil -/
  | slN (cs : List AV) (len : Nat)
  /-- a slice whose contents are frozen, and that may grow: while block 'b' is '.tail g' -/
  | slT (b : Nat) (cs : List AV) (len g : Nat)
  | agg (cs : List AV)
  | tup (vs : List AV)
  | ifc (k : Nat) (a : AV)
  | fn (k : Nat) (fs cs : List AV)
  | mapL (b g : Nat)
  | mapF (ks vs : List AV)
  deriving Inhabited

/-- A block of the call's own. -/
inductive Blk where
  | cells (g sz : Nat) (cs : List AV)
  | map (g : Nat) (ks vs : List AV)
  /-- room behind a slice that grows -/
  | tail (g sz : Nat)
  /-- an object of the model's (an iterator) -/
  | obj (g : Nat) (o : Obj)
  | dead
  deriving Inhabited
def Blk.g : Blk → Nat
  | .cells g _ _ => g
  | .map g _ _ => g
  | .tail g _ => g
  | .obj g _ => g
  | .dead => 0
def Blk.isTail : Blk → Bool
  | .tail _ _ => true
  | _ => false

/-- Memory of the call's own. -/
structure AH where
  bs : List Blk
  ctr : Nat
  deriving Inhabited

/-- How a seat's numbers stand to ours. -/
structure Env where
  ty : Nat → Nat
  tk : Nat → Nat
  fn : Nat → Nat
  fk : Nat → Nat
  gn : Nat → Nat := id
  gk : Nat → Nat := id
  /-- package-level variables whose contents are known -/
  gl : Nat → Option (List AV) := fun _ => none

/-! ### values without blocks of the call's own -/
mutual
def AV.closed : AV → Prop
  | .junk => True
  | .val _ => True
  | .ptrL _ _ _ => False
  | .ptrF cs _ => AV.closedL cs
  | .slL _ _ _ _ => False
  | .slF cs _ _ => AV.closedL cs
  | .slN cs _ => AV.closedL cs
  | .slT _ _ _ _ => False
  | .agg cs => AV.closedL cs
  | .tup cs => AV.closedL cs
  | .ifc _ a => AV.closed a
  | .fn _ fs cs => AV.closedL fs ∧ AV.closedL cs
  | .mapL _ _ => False
  | .mapF ks vs => AV.closedL ks ∧ AV.closedL vs
def AV.closedL : List AV → Prop
  | [] => True
  | x :: xs => AV.closed x ∧ AV.closedL xs
end

/-- A context. -/
structure Cx where
  w : World
  al : Nat → Nat
  base : Nat → Nat
  gen : Nat → Option Nat
  sz : Nat → Nat
  csz : Nat → Nat
  /-- frozen blocks -/
  fz : Nat → Prop
  /-- frozen cells -/
  fc : Nat → Nat → Prop
  ctr : Nat

mutual
def VRel (E : Env) (c : Cx) : AV → Value → Prop
  | .junk, _ => True
  | .val u, v => v = u
  | .ptrL b off g, v => g < c.ctr ∧ ∃ p, v = .pointer (some p) ∧ (c.gen b = some g → p = ⟨c.al b, c.base b + off, none⟩)
  | .ptrF cs off, v => ∃ b o, v = .pointer (some ⟨b, o + off, none⟩) ∧ CRel E c cs b o
  | .slL b off len g, v => g < c.ctr ∧ ∃ p cap, v = .slice (some p) len cap ∧ len ≤ cap ∧ (c.gen b = some g → cap = 0 ∨ (p = ⟨c.al b, c.base b + off, none⟩ ∧ c.base b + off + cap * c.sz b = c.csz b))
  | .slF cs off len, v => ∃ p cap, v = .slice (some p) len cap ∧ len ≤ cap ∧ (cap = 0 ∨ ∃ b o, p = ⟨b, o + off, none⟩ ∧ CRel E c cs b o)
  | .slN cs len, v => (v = .slice none 0 0 ∧ len = 0) ∨ ∃ p cap, v = .slice (some p) len cap ∧ len ≤ cap ∧ (cap = 0 ∨ ∃ b o, p = ⟨b, o, none⟩ ∧ CRel E c cs b o)
  | .slT b cs len g, v => g < c.ctr ∧ ∃ p cap, v = .slice (some p) len cap ∧ len ≤ cap ∧ (cap = 0 ∨ ∃ k o, p = ⟨k, o, none⟩ ∧ CRel E c cs k o ∧
      (c.gen b = some g → k = c.al b ∧ (∀ j, o + cs.length ≤ j → ¬ c.fc k j) ∧ o + cap * c.sz b = c.csz b))
  | .agg cs, v => ∃ vs : List Value, v = .agg vs.toArray ∧ LRel E c cs vs
  | .tup xs, v => ∃ vs : List Value, v = .tuple vs.toArray ∧ LRel E c xs vs
  | .ifc k a, v => ∃ u, v = .iface (E.ty k) u ∧ E.tk (E.ty k) = k ∧ VRel E c a u
  | .fn k fs cs, v => ∃ gs ds : List Value, v = .func (.func (E.fn k)) gs.toArray ds.toArray ∧ LRel E c fs gs ∧ LRel E c cs ds
  | .mapL b g, v => g < c.ctr ∧ ∃ r, v = .map (some r) ∧ (c.gen b = some g → r = c.al b)
  | .mapF ks xs, v => ∃ r es clock, v = .map (some r) ∧ c.fz r ∧ c.w.heap[r]? = some (.map es clock) ∧ LRel E c ks (es.toList.map (·.key)) ∧ LRel E c xs (es.toList.map (·.val))
def LRel (E : Env) (c : Cx) : List AV → List Value → Prop
  | [], vs => vs = []
  | x :: xs, vs => ∃ u us, vs = u :: us ∧ VRel E c x u ∧ LRel E c xs us
/-- frozen cells -/
def CRel (E : Env) (c : Cx) : List AV → Nat → Nat → Prop
  | [], _, _ => True
  | x :: xs, b, o => ((c.fz b ∨ c.fc b o) ∧ ∃ u, c.w.cell? ⟨b, o, none⟩ = some u ∧ VRel E c x u) ∧ CRel E c xs b (o + 1)
end

/-- What stood keeps standing. -/
structure Cx.le (c c' : Cx) : Prop where
  ctr : c.ctr ≤ c'.ctr
  fz : ∀ b, c.fz b → c'.fz b ∧ c'.w.heap[b]? = c.w.heap[b]?
  fc : ∀ b o, c.fc b o → (c'.fz b ∨ c'.fc b o) ∧ c'.w.cell? ⟨b, o, none⟩ = c.w.cell? ⟨b, o, none⟩
  gen : ∀ b g, g < c.ctr → c'.gen b = some g → c.gen b = some g ∧ c'.al b = c.al b ∧ c'.base b = c.base b ∧ c'.sz b = c.sz b ∧ c'.csz b = c.csz b
  /-- no cell behind what stands of a slice that may grow becomes frozen, unless the slice grows (and is of another generation) -/
  room : ∀ b g, g < c.ctr → c'.gen b = some g → ∀ j, c'.fc (c.al b) j → c.fc (c.al b) j

theorem cell_of_heap {w w' : World} {b : Nat} (h : w'.heap[b]? = w.heap[b]?) (o : Nat) (s : Option Nat) : w'.cell? ⟨b, o, s⟩ = w.cell? ⟨b, o, s⟩ := by
  simp [World.cell?, h]
theorem Cx.le.cell {c c' : Cx} (h : c.le c') {b o : Nat} (hf : c.fz b ∨ c.fc b o) : (c'.fz b ∨ c'.fc b o) ∧ c'.w.cell? ⟨b, o, none⟩ = c.w.cell? ⟨b, o, none⟩ := by
  rcases hf with hf | hf
  · exact ⟨.inl (h.fz b hf).1, cell_of_heap (h.fz b hf).2 _ _⟩
  · exact h.fc b o hf

mutual
theorem VRel.le {E : Env} {c c' : Cx} (h : c.le c') : ∀ (a : AV) (v : Value), VRel E c a v → VRel E c' a v
  | .junk, _, _ => by simp [VRel]
  | .val u, v, r => by simpa [VRel] using r
  | .ptrL b off g, v, r => by
    simp only [VRel] at r ⊢
    obtain ⟨hg, p, rfl, r⟩ := r
    exact ⟨Nat.lt_of_lt_of_le hg h.ctr, p, rfl, fun e => by obtain ⟨e1, e2, e3, -⟩ := h.gen b g hg e; rw [e2, e3]; exact r e1⟩
  | .ptrF cs off, v, r => by
    simp only [VRel] at r ⊢
    obtain ⟨b, o, rfl, hc⟩ := r
    exact ⟨b, o, rfl, CRel.le h cs b o hc⟩
  | .slL b off len g, v, r => by
    simp only [VRel] at r ⊢
    obtain ⟨hg, p, cap, rfl, hl, r⟩ := r
    exact ⟨Nat.lt_of_lt_of_le hg h.ctr, p, cap, rfl, hl, fun e => by obtain ⟨e1, e2, e3, e4, e5⟩ := h.gen b g hg e; rw [e2, e3, e4, e5]; exact r e1⟩
  | .slF cs off len, v, r => by
    simp only [VRel] at r ⊢
    obtain ⟨p, cap, rfl, hl, r⟩ := r
    refine ⟨p, cap, rfl, hl, r.imp id ?_⟩
    rintro ⟨b, o, rfl, hc⟩
    exact ⟨b, o, rfl, CRel.le h cs b o hc⟩
  | .slN cs len, v, r => by
    simp only [VRel] at r ⊢
    refine r.imp id ?_
    rintro ⟨p, cap, rfl, hl, r⟩
    refine ⟨p, cap, rfl, hl, r.imp id ?_⟩
    rintro ⟨b, o, rfl, hc⟩
    exact ⟨b, o, rfl, CRel.le h cs b o hc⟩
  | .slT b cs len g, v, r => by
    simp only [VRel] at r ⊢
    obtain ⟨hg, p, cap, rfl, hl, r⟩ := r
    refine ⟨Nat.lt_of_lt_of_le hg h.ctr, p, cap, rfl, hl, r.imp id ?_⟩
    rintro ⟨k, o, rfl, hc, r⟩
    refine ⟨k, o, rfl, CRel.le h cs k o hc, fun e => ?_⟩
    obtain ⟨e1, e2, e3, e4, e5⟩ := h.gen b g hg e
    obtain ⟨r1, r2, r3⟩ := r e1
    refine ⟨r1.trans e2.symm, fun j hj hf => r2 j hj ?_, by rw [e4, e5]; exact r3⟩
    rw [r1] at hf ⊢
    exact h.room b g hg e j hf
  | .agg cs, v, r => by
    simp only [VRel] at r ⊢
    obtain ⟨vs, rfl, hl⟩ := r
    exact ⟨vs, rfl, LRel.le h cs vs hl⟩
  | .tup cs, v, r => by
    simp only [VRel] at r ⊢
    obtain ⟨vs, rfl, hl⟩ := r
    exact ⟨vs, rfl, LRel.le h cs vs hl⟩
  | .ifc k a, v, r => by
    simp only [VRel] at r ⊢
    obtain ⟨u, rfl, hk, hl⟩ := r
    exact ⟨u, rfl, hk, VRel.le h a u hl⟩
  | .fn k fs cs, v, r => by
    simp only [VRel] at r ⊢
    obtain ⟨gs, ds, rfl, h1, h2⟩ := r
    exact ⟨gs, ds, rfl, LRel.le h fs gs h1, LRel.le h cs ds h2⟩
  | .mapL b g, v, r => by
    simp only [VRel] at r ⊢
    obtain ⟨hg, p, rfl, r⟩ := r
    exact ⟨Nat.lt_of_lt_of_le hg h.ctr, p, rfl, fun e => by obtain ⟨e1, e2, -⟩ := h.gen b g hg e; rw [e2]; exact r e1⟩
  | .mapF ks xs, v, r => by
    simp only [VRel] at r ⊢
    obtain ⟨m, es, clock, rfl, hf, hm, h1, h2⟩ := r
    exact ⟨m, es, clock, rfl, (h.fz m hf).1, by rw [(h.fz m hf).2]; exact hm, LRel.le h ks _ h1, LRel.le h xs _ h2⟩
theorem LRel.le {E : Env} {c c' : Cx} (h : c.le c') : ∀ (xs : List AV) (vs : List Value), LRel E c xs vs → LRel E c' xs vs
  | [], vs, r => by simpa [LRel] using r
  | x :: xs, vs, r => by
    simp only [LRel] at r ⊢
    obtain ⟨u, us, rfl, h1, h2⟩ := r
    exact ⟨u, us, rfl, VRel.le h x u h1, LRel.le h xs us h2⟩
theorem CRel.le {E : Env} {c c' : Cx} (h : c.le c') : ∀ (xs : List AV) (b o : Nat), CRel E c xs b o → CRel E c' xs b o
  | [], _, _, _ => by simp [CRel]
  | x :: xs, b, o, r => by
    simp only [CRel] at r ⊢
    obtain ⟨⟨hf, u, h1, h2⟩, h3⟩ := r
    obtain ⟨k1, k2⟩ := h.cell hf
    exact ⟨⟨k1, u, by rw [k2]; exact h1, VRel.le h x u h2⟩, CRel.le h xs b (o + 1) h3⟩
end
end Go.Sc
