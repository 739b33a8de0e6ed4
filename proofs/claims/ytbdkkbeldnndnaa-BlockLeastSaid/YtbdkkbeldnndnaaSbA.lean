/-
  THE ABSTRACT VALUES, AND HOW THEY STAND TO THE MODEL's VALUES: no dump, no seat.
  'AV': what a value is, without addresses: frozen memory (what nobody writes any more) stands in the value itself, memory of the call's own stands in a list of blocks ('AH').
  'VRel': which values of the model an abstract one stands for, in a context 'Cx' (a world, the blocks' places in it, what is frozen).
-/
import Derived.Calls
namespace Go.Sb
open Go

/-- An abstract value. -/
inductive AV where
  | junk
  | val (v : Value)
  | ptrL (b off g : Nat)
  | ptrF (cs : List AV) (off : Nat)
  | slL (b off len g : Nat)
  | slF (cs : List AV) (off len : Nat)
  | agg (cs : List AV)
  | tup (vs : List AV)
  | ifc (k : Nat) (a : AV)
  | fn (k : Nat) (fs cs : List AV)
  | mapL (b g : Nat)
  | mapF (ks vs : List AV)
  deriving Inhabited

/-- A block of the call's own. -/
inductive Blk where
  | cells (g sz : Nat) (cs : List AV)
  | map (g : Nat) (ks vs : List AV)
  | dead
  deriving Inhabited
def Blk.g : Blk → Nat
  | .cells g _ _ => g
  | .map g _ _ => g
  | .dead => 0

/-- Memory of the call's own. -/
structure AH where
  bs : List Blk
  ctr : Nat
  deriving Inhabited

/-- How a seat's numbers stand to ours. -/
structure Env where
  ty : Nat → Nat
  tk : Nat → Nat
  fn : Nat → Nat
  fk : Nat → Nat

/-- A context. -/
structure Cx where
  w : World
  al : Nat → Nat
  base : Nat → Nat
  gen : Nat → Option Nat
  sz : Nat → Nat
  csz : Nat → Nat
  fz : Nat → Prop
  ctr : Nat

mutual
def VRel (E : Env) (c : Cx) : AV → Value → Prop
  | .junk, _ => True
  | .val u, v => v = u
  | .ptrL b off g, v => g < c.ctr ∧ ∃ p, v = .pointer (some p) ∧ (c.gen b = some g → p = ⟨c.al b, c.base b + off, none⟩)
  | .ptrF cs off, v => ∃ b o, v = .pointer (some ⟨b, o + off, none⟩) ∧ (cs = [] ∨ c.fz b) ∧ CRel E c cs b o
  | .slL b off len g, v => g < c.ctr ∧ ∃ p cap, v = .slice (some p) len cap ∧ len ≤ cap ∧ (c.gen b = some g → cap = 0 ∨ (p = ⟨c.al b, c.base b + off, none⟩ ∧ c.base b + off + cap * c.sz b = c.csz b))
  | .slF cs off len, v => ∃ p cap, v = .slice (some p) len cap ∧ len ≤ cap ∧ (cap = 0 ∨ ∃ b o, p = ⟨b, o + off, none⟩ ∧ (cs = [] ∨ c.fz b) ∧ CRel E c cs b o)
  | .agg cs, v => ∃ vs : List Value, v = .agg vs.toArray ∧ LRel E c cs vs
  | .tup xs, v => ∃ vs : List Value, v = .tuple vs.toArray ∧ LRel E c xs vs
  | .ifc k a, v => ∃ u, v = .iface (E.ty k) u ∧ E.tk (E.ty k) = k ∧ VRel E c a u
  | .fn k fs cs, v => ∃ gs ds : List Value, v = .func (.func (E.fn k)) gs.toArray ds.toArray ∧ LRel E c fs gs ∧ LRel E c cs ds
  | .mapL b g, v => g < c.ctr ∧ ∃ r, v = .map (some r) ∧ (c.gen b = some g → r = c.al b)
  | .mapF ks xs, v => ∃ r es clock, v = .map (some r) ∧ c.fz r ∧ c.w.heap[r]? = some (.map es clock) ∧ LRel E c ks (es.toList.map (·.key)) ∧ LRel E c xs (es.toList.map (·.val))
def LRel (E : Env) (c : Cx) : List AV → List Value → Prop
  | [], vs => vs = []
  | x :: xs, vs => ∃ u us, vs = u :: us ∧ VRel E c x u ∧ LRel E c xs us
def CRel (E : Env) (c : Cx) : List AV → Nat → Nat → Prop
  | [], _, _ => True
  | x :: xs, b, o => (∃ u, c.w.cell? ⟨b, o, none⟩ = some u ∧ VRel E c x u) ∧ CRel E c xs b (o + 1)
end

/-- What stood keeps standing. -/
structure Cx.le (c c' : Cx) : Prop where
  ctr : c.ctr ≤ c'.ctr
  fz : ∀ b, c.fz b → c'.fz b ∧ c'.w.heap[b]? = c.w.heap[b]?
  gen : ∀ b g, g < c.ctr → c'.gen b = some g → c.gen b = some g ∧ c'.al b = c.al b ∧ c'.base b = c.base b ∧ c'.sz b = c.sz b ∧ c'.csz b = c.csz b

theorem cell_of_heap {w w' : World} {b : Nat} (h : w'.heap[b]? = w.heap[b]?) (o : Nat) (s : Option Nat) : w'.cell? ⟨b, o, s⟩ = w.cell? ⟨b, o, s⟩ := by
  simp [World.cell?, h]

mutual
theorem VRel.le {E : Env} {c c' : Cx} (h : c.le c') : ∀ (a : AV) (v : Value), VRel E c a v → VRel E c' a v
  | .junk, _, _ => by simp [VRel]
  | .val u, v, r => by simpa [VRel] using r
  | .ptrL b off g, v, r => by
    simp only [VRel] at r ⊢
    obtain ⟨hg, p, rfl, r⟩ := r
    exact ⟨Nat.lt_of_lt_of_le hg h.ctr, p, rfl, fun e => by obtain ⟨e1, e2, e3, -⟩ := h.gen b g hg e; rw [e2, e3]; exact r e1⟩
  | .ptrF cs off, v, r => by
    simp only [VRel] at r ⊢
    obtain ⟨b, o, rfl, hf, hc⟩ := r
    exact ⟨b, o, rfl, hf.imp id fun x => (h.fz b x).1, CRel.le h cs b o hf hc⟩
  | .slL b off len g, v, r => by
    simp only [VRel] at r ⊢
    obtain ⟨hg, p, cap, rfl, hl, r⟩ := r
    exact ⟨Nat.lt_of_lt_of_le hg h.ctr, p, cap, rfl, hl, fun e => by obtain ⟨e1, e2, e3, e4, e5⟩ := h.gen b g hg e; rw [e2, e3, e4, e5]; exact r e1⟩
  | .slF cs off len, v, r => by
    simp only [VRel] at r ⊢
    obtain ⟨p, cap, rfl, hl, r⟩ := r
    refine ⟨p, cap, rfl, hl, r.imp id ?_⟩
    rintro ⟨b, o, rfl, hf, hc⟩
    exact ⟨b, o, rfl, hf.imp id fun x => (h.fz b x).1, CRel.le h cs b o hf hc⟩
  | .agg cs, v, r => by
    simp only [VRel] at r ⊢
    obtain ⟨vs, rfl, hl⟩ := r
    exact ⟨vs, rfl, LRel.le h cs vs hl⟩
  | .tup cs, v, r => by
    simp only [VRel] at r ⊢
    obtain ⟨vs, rfl, hl⟩ := r
    exact ⟨vs, rfl, LRel.le h cs vs hl⟩
  | .ifc k a, v, r => by
    simp only [VRel] at r ⊢
    obtain ⟨u, rfl, hk, hl⟩ := r
    exact ⟨u, rfl, hk, VRel.le h a u hl⟩
  | .fn k fs cs, v, r => by
    simp only [VRel] at r ⊢
    obtain ⟨gs, ds, rfl, h1, h2⟩ := r
    exact ⟨gs, ds, rfl, LRel.le h fs gs h1, LRel.le h cs ds h2⟩
  | .mapL b g, v, r => by
    simp only [VRel] at r ⊢
    obtain ⟨hg, p, rfl, r⟩ := r
    exact ⟨Nat.lt_of_lt_of_le hg h.ctr, p, rfl, fun e => by obtain ⟨e1, e2, -⟩ := h.gen b g hg e; rw [e2]; exact r e1⟩
  | .mapF ks xs, v, r => by
    simp only [VRel] at r ⊢
    obtain ⟨m, es, clock, rfl, hf, hm, h1, h2⟩ := r
    exact ⟨m, es, clock, rfl, (h.fz m hf).1, by rw [(h.fz m hf).2]; exact hm, LRel.le h ks _ h1, LRel.le h xs _ h2⟩
theorem LRel.le {E : Env} {c c' : Cx} (h : c.le c') : ∀ (xs : List AV) (vs : List Value), LRel E c xs vs → LRel E c' xs vs
  | [], vs, r => by simpa [LRel] using r
  | x :: xs, vs, r => by
    simp only [LRel] at r ⊢
    obtain ⟨u, us, rfl, h1, h2⟩ := r
    exact ⟨u, us, rfl, VRel.le h x u h1, LRel.le h xs us h2⟩
theorem CRel.le {E : Env} {c c' : Cx} (h : c.le c') : ∀ (xs : List AV) (b o : Nat), (xs = [] ∨ c.fz b) → CRel E c xs b o → CRel E c' xs b o
  | [], _, _, _, _ => by simp [CRel]
  | x :: xs, b, o, hf, r => by
    simp only [CRel] at r ⊢
    obtain ⟨⟨u, h1, h2⟩, h3⟩ := r
    have hb : c.fz b := hf.resolve_left (by simp)
    exact ⟨⟨u, by rw [cell_of_heap (h.fz b hb).2]; exact h1, VRel.le h x u h2⟩, CRel.le h xs b (o + 1) (Or.inr hb) h3⟩
end
end Go.Sb
