/-
  CALLS AMONG BLOCKS OF ONE's OWN: a callee sees some of them ('mv', told by its own numbers), and all others stay as they are.
-/
import Derived.Test.YtdhcpnachceklaaDoorScN
namespace Go.Sc
open Go

mutual
/-- blocks told by other numbers -/
def AV.ren (f : Nat → Nat) : AV → AV
  | .junk => .junk
  | .val v => .val v
  | .ptrL b off g => .ptrL (f b) off g
  | .ptrF cs off => .ptrF (AV.renL f cs) off
  | .slL b off len g => .slL (f b) off len g
  | .slF cs off len => .slF (AV.renL f cs) off len
  | .slN cs len => .slN (AV.renL f cs) len
  | .slT b cs len g => .slT (f b) (AV.renL f cs) len g
  | .agg cs => .agg (AV.renL f cs)
  | .tup cs => .tup (AV.renL f cs)
  | .ifc k a => .ifc k (AV.ren f a)
  | .fn k fs cs => .fn k (AV.renL f fs) (AV.renL f cs)
  | .mapL b g => .mapL (f b) g
  | .mapF ks xs => .mapF (AV.renL f ks) (AV.renL f xs)
def AV.renL (f : Nat → Nat) : List AV → List AV
  | [] => []
  | x :: xs => AV.ren f x :: AV.renL f xs
end
def Blk.ren (f : Nat → Nat) : Blk → Blk
  | .cells g sz cs => .cells g sz (AV.renL f cs)
  | .map g ks xs => .map g (AV.renL f ks) (AV.renL f xs)
  | .tail g sz => .tail g sz
  | .obj g o => .obj g o
  | .dead => .dead
theorem Blk.ren_dead {f : Nat → Nat} {x : Blk} : x.ren f = .dead ↔ x = .dead := by cases x <;> simp [Blk.ren]
theorem Blk.ren_tail {f : Nat → Nat} {x : Blk} : (x.ren f).isTail = x.isTail := by cases x <;> rfl
mutual
theorem AV.ren_closed {f : Nat → Nat} : ∀ (a : AV), a.closed → a.ren f = a
  | .junk, _ => rfl
  | .val _, _ => rfl
  | .ptrL _ _ _, h => by simp [AV.closed] at h
  | .ptrF cs off, h => by simp only [AV.ren, AV.closed] at h ⊢; rw [AV.renL_closed cs h]
  | .slL _ _ _ _, h => by simp [AV.closed] at h
  | .slF cs _ _, h => by simp only [AV.ren, AV.closed] at h ⊢; rw [AV.renL_closed cs h]
  | .slN cs _, h => by simp only [AV.ren, AV.closed] at h ⊢; rw [AV.renL_closed cs h]
  | .slT _ _ _ _, h => by simp [AV.closed] at h
  | .agg cs, h => by simp only [AV.ren, AV.closed] at h ⊢; rw [AV.renL_closed cs h]
  | .tup cs, h => by simp only [AV.ren, AV.closed] at h ⊢; rw [AV.renL_closed cs h]
  | .ifc k a, h => by simp only [AV.ren, AV.closed] at h ⊢; rw [AV.ren_closed a h]
  | .fn k fs cs, h => by simp only [AV.ren, AV.closed] at h ⊢; rw [AV.renL_closed fs h.1, AV.renL_closed cs h.2]
  | .mapL _ _, h => by simp [AV.closed] at h
  | .mapF ks xs, h => by simp only [AV.ren, AV.closed] at h ⊢; rw [AV.renL_closed ks h.1, AV.renL_closed xs h.2]
theorem AV.renL_closed {f : Nat → Nat} : ∀ (l : List AV), AV.closedL l → AV.renL f l = l
  | [], _ => rfl
  | x :: xs, h => by simp only [AV.renL, AV.closedL] at h ⊢; rw [AV.ren_closed x h.1, AV.renL_closed xs h.2]
end
theorem AV.renL_map (f : Nat → Nat) : ∀ l : List AV, AV.renL f l = l.map (AV.ren f)
  | [] => rfl
  | x :: xs => by simp [AV.renL, AV.renL_map f xs]
theorem AV.renL_length (f : Nat → Nat) (l : List AV) : (AV.renL f l).length = l.length := by simp [AV.renL_map]

/-- a context and one that sees some of its blocks -/
structure Cx.Sees (f : Nat → Nat) (c c0 : Cx) : Prop where
  ctr : c.ctr = c0.ctr
  fz : ∀ b, c.fz b → c0.fz b ∧ c0.w.heap[b]? = c.w.heap[b]?
  fc : ∀ b o, c.fc b o → c0.fc b o ∧ c0.w.cell? ⟨b, o, none⟩ = c.w.cell? ⟨b, o, none⟩
  fc' : ∀ i, c0.gen i ≠ none → ∀ j, c0.fc (c.al (f i)) j → c.fc (c.al (f i)) j
  gen : ∀ i g, c0.gen i = some g → c.gen (f i) = some g ∧ c0.al i = c.al (f i) ∧ c0.base i = c.base (f i) ∧ c0.sz i = c.sz (f i) ∧ c0.csz i = c.csz (f i)

mutual
theorem VRel.see {E : Env} {f : Nat → Nat} {c c0 : Cx} (h : c.Sees f c0) : ∀ (a : AV) (v : Value), VRel E c (a.ren f) v → VRel E c0 a v
  | .junk, _, _ => by simp [VRel]
  | .val u, v, r => by simpa [VRel, AV.ren] using r
  | .ptrL b off g, v, r => by
    simp only [VRel, AV.ren] at r ⊢
    obtain ⟨hg, p, rfl, r⟩ := r
    exact ⟨h.ctr ▸ hg, p, rfl, fun e => by obtain ⟨e1, e2, e3, -⟩ := h.gen b g e; rw [e2, e3]; exact r e1⟩
  | .ptrF cs off, v, r => by
    simp only [VRel, AV.ren] at r ⊢
    obtain ⟨b, o, rfl, hc⟩ := r
    exact ⟨b, o, rfl, CRel.see h cs b o hc⟩
  | .slL b off len g, v, r => by
    simp only [VRel, AV.ren] at r ⊢
    obtain ⟨hg, p, cap, rfl, hl, r⟩ := r
    exact ⟨h.ctr ▸ hg, p, cap, rfl, hl, fun e => by obtain ⟨e1, e2, e3, e4, e5⟩ := h.gen b g e; rw [e2, e3, e4, e5]; exact r e1⟩
  | .slF cs off len, v, r => by
    simp only [VRel, AV.ren] at r ⊢
    obtain ⟨p, cap, rfl, hl, r⟩ := r
    refine ⟨p, cap, rfl, hl, r.imp id ?_⟩
    rintro ⟨b, o, rfl, hc⟩
    exact ⟨b, o, rfl, CRel.see h cs b o hc⟩
  | .slN cs len, v, r => by
    simp only [VRel, AV.ren] at r ⊢
    refine r.imp id ?_
    rintro ⟨p, cap, rfl, hl, r⟩
    refine ⟨p, cap, rfl, hl, r.imp id ?_⟩
    rintro ⟨b, o, rfl, hc⟩
    exact ⟨b, o, rfl, CRel.see h cs b o hc⟩
  | .slT b cs len g, v, r => by
    simp only [VRel, AV.ren] at r ⊢
    obtain ⟨hg, p, cap, rfl, hl, r⟩ := r
    refine ⟨h.ctr ▸ hg, p, cap, rfl, hl, r.imp id ?_⟩
    rintro ⟨k, o, rfl, hc, r⟩
    refine ⟨k, o, rfl, CRel.see h cs k o hc, fun e => ?_⟩
    obtain ⟨e1, e2, e3, e4, e5⟩ := h.gen b g e
    obtain ⟨r1, r2, r3⟩ := r e1
    refine ⟨r1.trans e2.symm, fun j hj hf => r2 j (by rwa [AV.renL_length]) ?_, by rw [e4, e5]; exact r3⟩
    rw [r1] at hf ⊢
    exact h.fc' b (by rw [e]; simp) j hf
  | .agg cs, v, r => by
    simp only [VRel, AV.ren] at r ⊢
    obtain ⟨vs, rfl, hl⟩ := r
    exact ⟨vs, rfl, LRel.see h cs vs hl⟩
  | .tup cs, v, r => by
    simp only [VRel, AV.ren] at r ⊢
    obtain ⟨vs, rfl, hl⟩ := r
    exact ⟨vs, rfl, LRel.see h cs vs hl⟩
  | .ifc k a, v, r => by
    simp only [VRel, AV.ren] at r ⊢
    obtain ⟨u, rfl, hk, hl⟩ := r
    exact ⟨u, rfl, hk, VRel.see h a u hl⟩
  | .fn k fs cs, v, r => by
    simp only [VRel, AV.ren] at r ⊢
    obtain ⟨gs, ds, rfl, h1, h2⟩ := r
    exact ⟨gs, ds, rfl, LRel.see h fs gs h1, LRel.see h cs ds h2⟩
  | .mapL b g, v, r => by
    simp only [VRel, AV.ren] at r ⊢
    obtain ⟨hg, p, rfl, r⟩ := r
    exact ⟨h.ctr ▸ hg, p, rfl, fun e => by obtain ⟨e1, e2, -⟩ := h.gen b g e; rw [e2]; exact r e1⟩
  | .mapF ks xs, v, r => by
    simp only [VRel, AV.ren] at r ⊢
    obtain ⟨m, es, clock, rfl, hf, hm, h1, h2⟩ := r
    exact ⟨m, es, clock, rfl, (h.fz m hf).1, by rw [(h.fz m hf).2]; exact hm, LRel.see h ks _ h1, LRel.see h xs _ h2⟩
theorem LRel.see {E : Env} {f : Nat → Nat} {c c0 : Cx} (h : c.Sees f c0) : ∀ (xs : List AV) (vs : List Value), LRel E c (AV.renL f xs) vs → LRel E c0 xs vs
  | [], vs, r => by simpa [LRel, AV.renL] using r
  | x :: xs, vs, r => by
    simp only [LRel, AV.renL] at r ⊢
    obtain ⟨u, us, rfl, h1, h2⟩ := r
    exact ⟨u, us, rfl, VRel.see h x u h1, LRel.see h xs us h2⟩
theorem CRel.see {E : Env} {f : Nat → Nat} {c c0 : Cx} (h : c.Sees f c0) : ∀ (xs : List AV) (b o : Nat), CRel E c (AV.renL f xs) b o → CRel E c0 xs b o
  | [], _, _, _ => by simp [CRel]
  | x :: xs, b, o, r => by
    simp only [CRel, AV.renL] at r ⊢
    obtain ⟨⟨hf, u, h1, h2⟩, h3⟩ := r
    refine ⟨?_, CRel.see h xs b (o + 1) h3⟩
    rcases hf with hf | hf
    · obtain ⟨k1, k2⟩ := h.fz b hf
      exact ⟨.inl k1, u, by rw [cell_of_heap k2]; exact h1, VRel.see h x u h2⟩
    · obtain ⟨k1, k2⟩ := h.fc b o hf
      exact ⟨.inr k1, u, by rw [k2]; exact h1, VRel.see h x u h2⟩
end

/-- a context that is seen by another's numbers -/
structure Cx.Back (f : Nat → Nat) (c1 c2 : Cx) : Prop where
  w : c2.w = c1.w
  ctr : c2.ctr = c1.ctr
  fz : ∀ b, c1.fz b → c2.fz b
  fc : ∀ b o, c1.fc b o ↔ c2.fc b o
  gen : ∀ i g, c2.gen (f i) = some g → c1.gen i = some g ∧ c1.al i = c2.al (f i) ∧ c1.base i = c2.base (f i) ∧ c1.sz i = c2.sz (f i) ∧ c1.csz i = c2.csz (f i)
mutual
theorem VRel.back {E : Env} {f : Nat → Nat} {c1 c2 : Cx} (h : c1.Back f c2) : ∀ (a : AV) (v : Value), VRel E c1 a v → VRel E c2 (a.ren f) v
  | .junk, _, _ => by simp [VRel, AV.ren]
  | .val u, v, r => by simpa [VRel, AV.ren] using r
  | .ptrL b off g, v, r => by
    simp only [VRel, AV.ren] at r ⊢
    obtain ⟨hg, p, rfl, r⟩ := r
    exact ⟨h.ctr ▸ hg, p, rfl, fun e => by obtain ⟨e1, e2, e3, -⟩ := h.gen b g e; rw [← e2, ← e3]; exact r e1⟩
  | .ptrF cs off, v, r => by
    simp only [VRel, AV.ren] at r ⊢
    obtain ⟨b, o, rfl, hc⟩ := r
    exact ⟨b, o, rfl, CRel.back h cs b o hc⟩
  | .slL b off len g, v, r => by
    simp only [VRel, AV.ren] at r ⊢
    obtain ⟨hg, p, cap, rfl, hl, r⟩ := r
    exact ⟨h.ctr ▸ hg, p, cap, rfl, hl, fun e => by obtain ⟨e1, e2, e3, e4, e5⟩ := h.gen b g e; rw [← e2, ← e3, ← e4, ← e5]; exact r e1⟩
  | .slF cs off len, v, r => by
    simp only [VRel, AV.ren] at r ⊢
    obtain ⟨p, cap, rfl, hl, r⟩ := r
    refine ⟨p, cap, rfl, hl, r.imp id ?_⟩
    rintro ⟨b, o, rfl, hc⟩
    exact ⟨b, o, rfl, CRel.back h cs b o hc⟩
  | .slN cs len, v, r => by
    simp only [VRel, AV.ren] at r ⊢
    refine r.imp id ?_
    rintro ⟨p, cap, rfl, hl, r⟩
    refine ⟨p, cap, rfl, hl, r.imp id ?_⟩
    rintro ⟨b, o, rfl, hc⟩
    exact ⟨b, o, rfl, CRel.back h cs b o hc⟩
  | .slT b cs len g, v, r => by
    simp only [VRel, AV.ren] at r ⊢
    obtain ⟨hg, p, cap, rfl, hl, r⟩ := r
    refine ⟨h.ctr ▸ hg, p, cap, rfl, hl, r.imp id ?_⟩
    rintro ⟨k, o, rfl, hc, r⟩
    refine ⟨k, o, rfl, CRel.back h cs k o hc, fun e => ?_⟩
    obtain ⟨e1, e2, e3, e4, e5⟩ := h.gen b g e
    obtain ⟨r1, r2, r3⟩ := r e1
    exact ⟨r1.trans e2, fun j hj hf => r2 j (by rwa [AV.renL_length] at hj) ((h.fc _ _).2 hf), by rw [← e4, ← e5]; exact r3⟩
  | .agg cs, v, r => by
    simp only [VRel, AV.ren] at r ⊢
    obtain ⟨vs, rfl, hl⟩ := r
    exact ⟨vs, rfl, LRel.back h cs vs hl⟩
  | .tup cs, v, r => by
    simp only [VRel, AV.ren] at r ⊢
    obtain ⟨vs, rfl, hl⟩ := r
    exact ⟨vs, rfl, LRel.back h cs vs hl⟩
  | .ifc k a, v, r => by
    simp only [VRel, AV.ren] at r ⊢
    obtain ⟨u, rfl, hk, hl⟩ := r
    exact ⟨u, rfl, hk, VRel.back h a u hl⟩
  | .fn k fs cs, v, r => by
    simp only [VRel, AV.ren] at r ⊢
    obtain ⟨gs, ds, rfl, h1, h2⟩ := r
    exact ⟨gs, ds, rfl, LRel.back h fs gs h1, LRel.back h cs ds h2⟩
  | .mapL b g, v, r => by
    simp only [VRel, AV.ren] at r ⊢
    obtain ⟨hg, p, rfl, r⟩ := r
    exact ⟨h.ctr ▸ hg, p, rfl, fun e => by obtain ⟨e1, e2, -⟩ := h.gen b g e; rw [← e2]; exact r e1⟩
  | .mapF ks xs, v, r => by
    simp only [VRel, AV.ren] at r ⊢
    obtain ⟨m, es, clock, rfl, hf, hm, h1, h2⟩ := r
    exact ⟨m, es, clock, rfl, h.fz m hf, by rw [h.w]; exact hm, LRel.back h ks _ h1, LRel.back h xs _ h2⟩
theorem LRel.back {E : Env} {f : Nat → Nat} {c1 c2 : Cx} (h : c1.Back f c2) : ∀ (xs : List AV) (vs : List Value), LRel E c1 xs vs → LRel E c2 (AV.renL f xs) vs
  | [], vs, r => by simpa [LRel, AV.renL] using r
  | x :: xs, vs, r => by
    simp only [LRel, AV.renL] at r ⊢
    obtain ⟨u, us, rfl, h1, h2⟩ := r
    exact ⟨u, us, rfl, VRel.back h x u h1, LRel.back h xs us h2⟩
theorem CRel.back {E : Env} {f : Nat → Nat} {c1 c2 : Cx} (h : c1.Back f c2) : ∀ (xs : List AV) (b o : Nat), CRel E c1 xs b o → CRel E c2 (AV.renL f xs) b o
  | [], _, _, _ => by simp [CRel, AV.renL]
  | x :: xs, b, o, r => by
    simp only [CRel, AV.renL] at r ⊢
    obtain ⟨⟨hf, u, h1, h2⟩, h3⟩ := r
    exact ⟨⟨hf.imp (h.fz b) (h.fc b o).1, u, by rw [h.w]; exact h1, VRel.back h x u h2⟩, CRel.back h xs b (o + 1) h3⟩
end

/-- numbers: the callee's i is the caller's mv[i]; beyond them there is none -/
def rmap (mv : List Nat) (n : Nat) (i : Nat) : Nat := mv.getD i n
/-- blocks put back -/
def setL : List Blk → List Nat → List Blk → List Blk
  | l, i :: mv, x :: xs => setL (l.set i x) mv xs
  | l, _, _ => l
theorem setL_length : ∀ (l : List Blk) (mv : List Nat) (xs : List Blk), (setL l mv xs).length = l.length
  | l, [], _ => by simp [setL]
  | l, _ :: _, [] => by simp [setL]
  | l, i :: mv, x :: xs => by simp only [setL]; rw [setL_length]; simp
theorem setL_out : ∀ (mv : List Nat) (l : List Blk) (xs : List Blk) (b : Nat), b ∉ mv → (setL l mv xs)[b]? = l[b]?
  | [], l, _, b, _ => by simp [setL]
  | _ :: _, l, [], b, _ => by simp [setL]
  | i :: mv, l, x :: xs, b, h => by
    simp only [List.mem_cons, not_or] at h
    simp only [setL]
    rw [setL_out mv _ xs b h.2, List.getElem?_set_ne (Ne.symm h.1)]
theorem setL_in : ∀ (mv : List Nat) (l : List Blk) (xs : List Blk) (i b : Nat), mv.Nodup → mv.length = xs.length → mv[i]? = some b → b < l.length → (setL l mv xs)[b]? = xs[i]?
  | [], l, _, i, b, _, _, h, _ => by simp at h
  | _ :: _, l, [], i, b, _, hl, _, _ => by simp at hl
  | j :: mv, l, x :: xs, i, b, hn, hl, h, hb => by
    simp only [List.nodup_cons] at hn
    simp only [setL]
    cases i with
    | zero =>
      simp at h; subst h
      rw [setL_out mv _ xs j hn.1]
      simp [hb]
    | succ i =>
      simp at h
      rw [setL_in mv _ xs i b hn.2 (by simpa using hl) h (by simpa using hb)]
      simp

section
variable {E : Env} {P : Program}
theorem getD_get {mv : List Nat} {i b n : Nat} (h : mv[i]? = some b) : rmap mv n i = b := by simp [rmap, List.getD, h]
theorem rmap_out {mv : List Nat} {i n : Nat} (h : mv.length ≤ i) : rmap mv n i = n := by simp [rmap, List.getD, List.getElem?_eq_none h]

set_option maxHeartbeats 1000000 in
/-- A CALL THAT SEES SOME BLOCKS. -/
theorem ACalls.frame {k : Nat} {mv : List Nat} {B : List Blk} {args0 args : List AV} {H : AH} {R0 : AV → List Blk → Prop} (h : ∀ n, ACalls E P k args0 ⟨B, n⟩ fun r H' => R0 r H'.bs ∧ H'.bs.length = B.length)
    (hn : mv.Nodup) (hl : mv.length = B.length) (hB : ∀ (i : Nat) b x, mv[i]? = some b → B[i]? = some x → H.bs[b]? = some (x.ren (rmap mv H.bs.length))) (ha : args = AV.renL (rmap mv H.bs.length) args0) :
    ACalls E P k args H fun r H' => ∃ r0 B' n, R0 r0 B' ∧ B'.length = B.length ∧ r = r0.ren (rmap mv H.bs.length) ∧ H' = ⟨setL H.bs mv (B'.map (Blk.ren (rmap mv H.bs.length))), n⟩ := by
  intro c vs hH hv o a next Q hnext
  generalize hf : rmap mv H.bs.length = f at *
  have hmv : ∀ i, i < mv.length → mv[i]? = some (f i) := fun i hi => by rw [← hf]; simp [rmap, List.getD, List.getElem?_eq_getElem hi]
  have hmvb : ∀ i, i < mv.length → f i < H.bs.length := fun i hi => by
    have := hB i _ _ (hmv i hi) (List.getElem?_eq_getElem (by omega))
    exact lt_of_get this
  have hout : ∀ i, mv.length ≤ i → f i = H.bs.length := fun i hi => by rw [← hf]; exact rmap_out hi
  have hfin : ∀ i j, i < mv.length → j < mv.length → f i = f j → i = j := by
    intro i j hi hj he
    have h1 := hmv i hi
    have h2 := hmv j hj
    rw [List.getElem?_eq_getElem hi] at h1
    rw [List.getElem?_eq_getElem hj] at h2
    injection h1 with h1
    injection h2 with h2
    exact (List.getElem_inj hn).1 (by rw [h1, h2, he])
  let c0 : Cx := { w := c.w, al := fun i => c.al (f i), base := fun i => c.base (f i), gen := fun i => if i < mv.length then c.gen (f i) else none, sz := fun i => c.sz (f i), csz := fun i => c.csz (f i), fz := c.fz, fc := c.fc, ctr := c.ctr }
  have hgen0 : ∀ i, c0.gen i ≠ none → i < mv.length ∧ c.gen (f i) ≠ none := by
    intro i hi
    simp only [c0] at hi
    split at hi
    · exact ⟨by assumption, hi⟩
    · exact absurd rfl hi
  have hsee : c.Sees f c0 := ⟨rfl, fun _ hb => ⟨hb, rfl⟩, fun _ _ hb => ⟨hb, rfl⟩, fun _ _ _ hj => hj, fun i g e => by
    have := hgen0 i (by rw [e]; simp)
    simp only [c0, if_pos this.1] at e
    exact ⟨e, rfl, rfl, rfl, rfl⟩⟩
  have hBx : ∀ (i : Nat) x, B[i]? = some x → i < mv.length ∧ H.bs[f i]? = some (x.ren f) := fun i x hx => by
    have hi : i < mv.length := by rw [hl]; exact lt_of_get hx
    exact ⟨hi, hB i _ x (hmv i hi) hx⟩
  have hH0 : HRel E c0 ⟨B, c.ctr⟩ := by
    refine ⟨rfl, ?_, ?_, ?_, ?_, ?_, ?_, hH.fzlt, hH.fclt, fun g cs e => ⟨(hH.glob g cs e).1, CRel.see hsee _ _ _ (by rw [AV.renL_closed cs (hH.glob g cs e).1]; exact (hH.glob g cs e).2)⟩⟩
    · intro i hi
      have : mv.length ≤ i := by rw [hl]; simpa using hi
      simp only [c0, if_neg (show ¬ i < mv.length by omega)]
    · intro i x hx
      obtain ⟨hi, hx'⟩ := hBx i x hx
      have hb := hH.blk _ _ hx'
      have hg : c0.gen i = c.gen (f i) := by simp only [c0, if_pos hi]
      cases x with
      | cells g sz cs =>
        obtain ⟨a1, a2, a3, arr, e, a4, a5, p0, pre, rest, a6, a7, a8⟩ := hb
        exact ⟨a1, hg.trans a2, a3, arr, e, a4, a5, p0, pre, rest, a6, a7, LRel.see hsee _ _ a8⟩
      | map g ks xs =>
        obtain ⟨a1, a2, es, clock, a4, a5, a6⟩ := hb
        exact ⟨a1, hg.trans a2, es, clock, a4, LRel.see hsee _ _ a5, LRel.see hsee _ _ a6⟩
      | tail g sz =>
        obtain ⟨a1, a2, a3⟩ := hb
        exact ⟨a1, hg.trans a2, a3⟩
      | obj g o =>
        obtain ⟨a1, a2, a3⟩ := hb
        exact ⟨a1, hg.trans a2, a3⟩
      | dead => exact hg.trans hb
    · intro i hi
      exact hH.apart _ (hgen0 i hi).2
    · intro i x hx hd ht j
      obtain ⟨hi, hx'⟩ := hBx i x hx
      exact hH.solid _ _ hx' (fun e => hd (Blk.ren_dead.1 e)) (by rw [Blk.ren_tail]; exact ht) j
    · intro i j hi hj he
      exact hfin i j (hgen0 i hi).1 (hgen0 j hj).1 (hH.inj _ _ (hgen0 i hi).2 (hgen0 j hj).2 he)
    · intro i hi
      exact hH.lt _ (hgen0 i hi).2
  refine h c.ctr c0 vs hH0 (LRel.see hsee _ _ (ha ▸ hv)) o a next Q fun v w' hvw => hnext v w' ?_
  obtain ⟨r0, c1, H1, rfl, ⟨hR, hlen1⟩, hH1, hr1, hL⟩ := hvw
  have hc1in : ∀ i, c1.gen i ≠ none → i < mv.length := by
    intro i hi
    obtain ⟨x, hx⟩ := hH1.gen_lt hi
    have := lt_of_get hx
    omega
  classical
  let pos : Nat → Nat := fun b => mv.idxOf b
  have hpos : ∀ i, i < mv.length → f i ∈ mv ∧ pos (f i) = i := by
    intro i hi
    have hm : f i ∈ mv := List.mem_of_getElem? (hmv i hi)
    refine ⟨hm, ?_⟩
    have hlt : mv.idxOf (f i) < mv.length := List.idxOf_lt_length_iff.2 hm
    have h1 : mv[mv.idxOf (f i)] = f i := List.getElem_idxOf hlt
    have h2 := hmv (mv.idxOf (f i)) hlt
    rw [List.getElem?_eq_getElem hlt, h1] at h2
    injection h2 with h2
    exact hfin _ _ hlt hi h2.symm
  have hmem : ∀ b, b ∈ mv → ∃ i, i < mv.length ∧ b = f i ∧ pos b = i := by
    intro b hb
    obtain ⟨i, hi, rfl⟩ := List.getElem_of_mem hb
    have := hmv i hi
    rw [List.getElem?_eq_getElem hi] at this
    injection this with this
    exact ⟨i, hi, this, by rw [this]; exact (hpos i hi).2⟩
  let c2 : Cx := { w := c1.w, al := fun b => if b ∈ mv then c1.al (pos b) else c.al b, base := fun b => if b ∈ mv then c1.base (pos b) else c.base b, gen := fun b => if b ∈ mv then c1.gen (pos b) else c.gen b, sz := fun b => if b ∈ mv then c1.sz (pos b) else c.sz b, csz := fun b => if b ∈ mv then c1.csz (pos b) else c.csz b, fz := c1.fz, fc := c1.fc, ctr := c1.ctr }
  have hfoc : ∀ i, c0.gen i ≠ none → c.gen (f i) ≠ none ∧ f i ∈ mv := fun i hi => ⟨(hgen0 i hi).2, (hpos i (hgen0 i hi).1).1⟩
  -- what is frozen now and was not is none of the others
  have hhid : ∀ b, c.gen b ≠ none → b ∉ mv → (¬ c1.fz (c.al b)) ∧ (∀ j, c1.fc (c.al b) j → c.fc (c.al b) j) := by
    intro b hb hbm
    have hlt := hH.lt b hb
    have hne : ∀ i, c0.gen i ≠ none → c0.al i ≠ c.al b := by
      intro i hi he
      obtain ⟨k1, k2⟩ := hfoc i hi
      have := hH.inj _ _ k1 hb he
      exact hbm (this ▸ k2)
    refine ⟨fun hz => ?_, fun j hz => ?_⟩
    · rcases hL.fz _ hz with h1 | h1 | ⟨i, hi, he⟩
      · exact hH.apart b hb h1
      · exact absurd h1 (Nat.not_le.2 hlt)
      · exact hne i hi he
    · rcases hL.fc _ j hz with h1 | h1 | ⟨i, hi, he⟩
      · exact h1
      · exact absurd h1 (Nat.not_le.2 hlt)
      · exact absurd he (hne i hi)
  have hheap : ∀ b, c.gen b ≠ none → b ∉ mv → c1.w.heap[c.al b]? = c.w.heap[c.al b]? := by
    intro b hb hbm
    refine hL.keep _ (hH.lt b hb) fun i hi he => ?_
    obtain ⟨k1, k2⟩ := hfoc i hi
    have := hH.inj _ _ k1 hb he
    exact hbm (this ▸ k2)
  have hback : c1.Back f c2 := ⟨rfl, rfl, fun _ h => h, fun _ _ => Iff.rfl, fun i g e => by
    by_cases hi : i < mv.length
    · obtain ⟨h1, h2⟩ := hpos i hi
      simp only [c2, if_pos h1, h2] at e ⊢
      exact ⟨e, trivial, trivial, trivial, trivial⟩
    · have := hout i (by omega)
      have hnm : f i ∉ mv := fun hm => by
        obtain ⟨j, hj, he, _⟩ := hmem _ hm
        have := hmvb j hj
        omega
      simp only [c2, if_neg hnm] at e
      rw [this, hH.out _ (by simp)] at e
      cases e⟩
  have hle : c.le c2 := {
    ctr := hL.le.ctr
    fz := fun b hb => hL.le.fz b hb
    fc := fun b j hb => hL.le.fc b j hb
    gen := fun b g hg e => by
      by_cases hb : b ∈ mv
      · obtain ⟨i, hi, rfl, hp⟩ := hmem b hb
        simp only [c2, if_pos hb, hp] at e ⊢
        obtain ⟨e1, e2, e3, e4, e5⟩ := hL.le.gen i g hg e
        simp only [c0, if_pos hi] at e1
        exact ⟨e1, e2, e3, e4, e5⟩
      · simp only [c2, if_neg hb] at e ⊢
        simp [e]
    room := fun b g hg e j hj => by
      by_cases hb : b ∈ mv
      · obtain ⟨i, hi, rfl, hp⟩ := hmem b hb
        simp only [c2, if_pos hb, hp] at e
        exact hL.le.room i g hg e j hj
      · simp only [c2, if_neg hb] at e
        exact (hhid b (by rw [e]; simp) hb).2 j hj }
  have hg2 : ∀ b, c2.gen b ≠ none → (b ∈ mv ∧ c1.gen (pos b) ≠ none ∧ c2.al b = c1.al (pos b)) ∨ (b ∉ mv ∧ c.gen b ≠ none ∧ c2.al b = c.al b) := by
    intro b hb
    by_cases hm : b ∈ mv
    · simp only [c2, if_pos hm] at hb ⊢; exact .inl ⟨hm, hb, trivial⟩
    · simp only [c2, if_neg hm] at hb ⊢; exact .inr ⟨hm, hb, trivial⟩
  have hsz : c.w.heap.size ≤ c1.w.heap.size := hL.size
  refine ⟨r0.ren f, c2, ⟨setL H.bs mv (H1.bs.map (Blk.ren f)), H1.ctr⟩, rfl, ⟨r0, H1.bs, H1.ctr, hR, hlen1, rfl, rfl⟩, ⟨hH1.ctr, ?_, ?_, ?_, ?_, ?_, ?_, hH1.fzlt, hH1.fclt, hH.globLe hle⟩, VRel.back hback _ _ hr1, ?_⟩
  · intro b hb
    have hb' : H.bs.length ≤ b := by
      have := List.getElem?_eq_none_iff.1 hb
      rwa [setL_length] at this
    have hnm : b ∉ mv := fun hm => by
      obtain ⟨i, hi, rfl, _⟩ := hmem b hm
      have := hmvb i hi
      omega
    simp only [c2, if_neg hnm]
    exact hH.out b (List.getElem?_eq_none hb')
  · intro b y hy
    by_cases hm : b ∈ mv
    · obtain ⟨i, hi, rfl, hp⟩ := hmem b hm
      simp only at hy
      rw [setL_in mv _ _ i (f i) hn (by simp; omega) (hmv i hi) (hmvb i hi), List.getElem?_map, Option.map_eq_some_iff] at hy
      obtain ⟨x, hx, rfl⟩ := hy
      have hb := hH1.blk i x hx
      have hga : c2.gen (f i) = c1.gen i ∧ c2.al (f i) = c1.al i ∧ c2.base (f i) = c1.base i ∧ c2.sz (f i) = c1.sz i ∧ c2.csz (f i) = c1.csz i := by
        simp only [c2, if_pos hm, hp]; exact ⟨trivial, trivial, trivial, trivial, trivial⟩
      obtain ⟨g1, g2, g3, g4, g5⟩ := hga
      cases x with
      | cells g sz cs =>
        obtain ⟨a1, a2, a3, arr, e, a4, a5, p0, pre, rest, a6, a7, a8⟩ := hb
        exact ⟨a1, g1.trans a2, g4.trans a3, arr, e, by rw [g2]; exact a4, g5.trans a5, p0, pre, rest, a6, a7.trans g3.symm, LRel.back hback _ _ a8⟩
      | map g ks xs =>
        obtain ⟨a1, a2, es, clock, a4, a5, a6⟩ := hb
        exact ⟨a1, g1.trans a2, es, clock, by rw [g2]; exact a4, LRel.back hback _ _ a5, LRel.back hback _ _ a6⟩
      | tail g sz =>
        obtain ⟨a1, a2, a3, arr, e, a4, a5⟩ := hb
        exact ⟨a1, g1.trans a2, g4.trans a3, arr, e, by rw [g2]; exact a4, g5.trans a5⟩
      | obj g o =>
        obtain ⟨a1, a2, a3⟩ := hb
        exact ⟨a1, g1.trans a2, by rw [g2]; exact a3⟩
      | dead => exact g1.trans hb
    · simp only at hy
      rw [setL_out mv _ _ b hm] at hy
      refine (hH.blk b y hy).mono hle (by simp only [c2, if_neg hm]) (by simp only [c2, if_neg hm]) (by simp only [c2, if_neg hm]) (by simp only [c2, if_neg hm]) (by simp only [c2, if_neg hm]) fun hd => ?_
      exact hheap b (hH.live' hy hd) hm
  · intro b hb
    rcases hg2 b hb with ⟨hm, h1, h2⟩ | ⟨hm, h1, h2⟩
    · rw [h2]; exact hH1.apart _ h1
    · rw [h2]; exact (hhid b h1 hm).1
  · intro b y hy hd ht j
    by_cases hm : b ∈ mv
    · obtain ⟨i, hi, rfl, hp⟩ := hmem b hm
      simp only at hy
      rw [setL_in mv _ _ i (f i) hn (by simp; omega) (hmv i hi) (hmvb i hi), List.getElem?_map, Option.map_eq_some_iff] at hy
      obtain ⟨x, hx, rfl⟩ := hy
      have : c2.al (f i) = c1.al i := by simp only [c2, if_pos hm, hp]
      rw [this]
      exact hH1.solid i x hx (fun e => hd (Blk.ren_dead.2 e)) (by rw [Blk.ren_tail] at ht; exact ht) j
    · simp only at hy
      rw [setL_out mv _ _ b hm] at hy
      have : c2.al b = c.al b := by simp only [c2, if_neg hm]
      rw [this]
      intro hj
      exact hH.solid b y hy hd ht j ((hhid b (hH.live' hy hd) hm).2 j hj)
  · have mixed : ∀ b b', b ∈ mv → c1.gen (pos b) ≠ none → b' ∉ mv → c.gen b' ≠ none → c1.al (pos b) ≠ c.al b' := by
      intro b b' hb h1 hb' h2 he
      rcases hL.own _ h1 with ⟨i, hi, he'⟩ | h3
      · obtain ⟨k1, k2⟩ := hfoc i hi
        have : f i = b' := hH.inj _ _ k1 h2 (show c.al (f i) = c.al b' from he' ▸ he)
        exact hb' (this ▸ k2)
      · have := hH.lt b' h2
        rw [he] at h3
        exact absurd h3 (Nat.not_le.2 this)
    intro b b' hb hb' he
    rcases hg2 b hb with ⟨hm, h1, h2⟩ | ⟨hm, h1, h2⟩ <;> rcases hg2 b' hb' with ⟨hm', h1', h2'⟩ | ⟨hm', h1', h2'⟩ <;> rw [h2, h2'] at he
    · obtain ⟨i, hi, rfl, hp⟩ := hmem b hm
      obtain ⟨j, hj, rfl, hq⟩ := hmem b' hm'
      rw [hp] at h1 he; rw [hq] at h1' he
      rw [hH1.inj i j h1 h1' he]
    · exact absurd he (mixed b b' hm h1 hm' h1')
    · exact absurd he.symm (mixed b' b hm' h1' hm h1)
    · exact hH.inj b b' h1 h1' he
  · intro b hb
    rcases hg2 b hb with ⟨hm, h1, h2⟩ | ⟨hm, h1, h2⟩
    · rw [h2]; exact hH1.lt _ h1
    · rw [h2]; exact Nat.lt_of_lt_of_le (hH.lt b h1) hsz
  · exact {
      le := hle
      os := hL.os
      tape := hL.tape
      output := hL.output
      size := hL.size
      keep := fun k hk hn' => hL.keep k hk fun i hi => hn' (f i) (hfoc i hi).1
      own := fun b hb => by
        rcases hg2 b hb with ⟨hm, h1, h2⟩ | ⟨hm, h1, h2⟩
        · rcases hL.own _ h1 with ⟨i, hi, he⟩ | h3
          · exact .inl ⟨f i, (hfoc i hi).1, h2.trans he⟩
          · exact .inr (h2 ▸ h3)
        · exact .inl ⟨b, h1, h2⟩
      fz := fun k hk => by
        rcases hL.fz k hk with h1 | h1 | ⟨i, hi, he⟩
        · exact .inl h1
        · exact .inr (.inl h1)
        · exact .inr (.inr ⟨f i, (hfoc i hi).1, he⟩)
      fc := fun k j hk => by
        rcases hL.fc k j hk with h1 | h1 | ⟨i, hi, he⟩
        · exact .inl h1
        · exact .inr (.inl h1)
        · exact .inr (.inr ⟨f i, (hfoc i hi).1, he⟩) }
end
end Go.Sc
