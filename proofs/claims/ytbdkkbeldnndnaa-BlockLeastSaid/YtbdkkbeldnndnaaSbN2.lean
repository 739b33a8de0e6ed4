/-
  STEPS OF THE PROOF ALONE: blocks are frozen where they lie; all others stay as they are.
-/
import Derived.Test.YtbdkkbeldnndnaaSbN
namespace Go.Sb
open Go

def Cx.kill (c : Cx) (H : AH) (S : List Nat) : Cx :=
  { c with gen := fun i => if i ∈ S then none else c.gen i, fz := fun k => c.fz k ∨ ∃ b x, H.bs[b]? = some x ∧ x ≠ .dead ∧ c.al b = k ∧ b ∈ S }
/-- what a value is told as -/
def Fk (H : AH) (S : List Nat) (x x' : AV) : Prop := ∀ (E : Env) (c : Cx), HRel E c H → ∀ v, VRel E c x v → VRel E (c.kill H S) x' v
inductive FkL (H : AH) (S : List Nat) : List AV → List AV → Prop where
  | nil : FkL H S [] []
  | cons {x x' : AV} {xs xs' : List AV} : Fk H S x x' → FkL H S xs xs' → FkL H S (x :: xs) (x' :: xs')

theorem Cx.kill_le (c : Cx) (H : AH) (S : List Nat) : c.le (c.kill H S) where
  ctr := Nat.le_refl _
  fz := fun b h => ⟨.inl h, rfl⟩
  gen := fun b g hg e => by
    simp only [Cx.kill] at e ⊢
    split at e
    · cases e
    · simp [e]

theorem FkL.rel {H : AH} {S : List Nat} {E : Env} {c : Cx} (hH : HRel E c H) : ∀ {xs xs' : List AV}, FkL H S xs xs' → ∀ {vs}, LRel E c xs vs → LRel E (c.kill H S) xs' vs
  | [], _, .nil, vs, h => by simpa [LRel] using h
  | x :: xs, _, .cons h1 h2, vs, h => by
    simp only [LRel] at h ⊢
    obtain ⟨u, us, rfl, a, b⟩ := h
    exact ⟨u, us, rfl, h1 E c hH u a, FkL.rel hH h2 b⟩

section
variable {H : AH} {S : List Nat}
theorem Fk.same (x : AV) : Fk H S x x := fun _ c _ v h => VRel.le (c.kill_le H S) x v h
theorem FkL.same : ∀ xs : List AV, FkL H S xs xs
  | [] => .nil
  | _ :: xs => .cons (.same _) (FkL.same xs)
theorem FkL.append : ∀ {xs xs' ys ys' : List AV}, FkL H S xs xs' → FkL H S ys ys' → FkL H S (xs ++ ys) (xs' ++ ys')
  | _, _, _, _, .nil, h => h
  | _, _, _, _, .cons h1 h2, h => .cons h1 (FkL.append h2 h)
theorem Fk.agg {xs xs' : List AV} (h : FkL H S xs xs') : Fk H S (.agg xs) (.agg xs') := fun E c hH v r => by
  simp only [VRel] at r ⊢
  obtain ⟨vs, rfl, hl⟩ := r
  exact ⟨vs, rfl, h.rel hH hl⟩
theorem Fk.tup {xs xs' : List AV} (h : FkL H S xs xs') : Fk H S (.tup xs) (.tup xs') := fun E c hH v r => by
  simp only [VRel] at r ⊢
  obtain ⟨vs, rfl, hl⟩ := r
  exact ⟨vs, rfl, h.rel hH hl⟩
theorem Fk.ifc {k : Nat} {x x' : AV} (h : Fk H S x x') : Fk H S (.ifc k x) (.ifc k x') := fun E c hH v r => by
  simp only [VRel] at r ⊢
  obtain ⟨u, rfl, hk, hl⟩ := r
  exact ⟨u, rfl, hk, h E c hH u hl⟩
theorem Fk.fn {k : Nat} {fs fs' cs cs' : List AV} (h : FkL H S fs fs') (h' : FkL H S cs cs') : Fk H S (.fn k fs cs) (.fn k fs' cs') := fun E c hH v r => by
  simp only [VRel] at r ⊢
  obtain ⟨gs, ds, rfl, h1, h2⟩ := r
  exact ⟨gs, ds, rfl, h.rel hH h1, h'.rel hH h2⟩
theorem Fk.cells {b g sz : Nat} {cs ys : List AV} {off k : Nat} (hb : H.bs[b]? = some (.cells g sz cs)) (hs : b ∈ S) (hy : FkL H S ((cs.drop off).take k) ys)
    {E : Env} {c : Cx} (hH : HRel E c H) : (c.kill H S).fz (c.al b) ∧ CRel E (c.kill H S) ys (c.al b) (c.base b + off) := by
  have hB := hH.blk b _ hb
  simp only [BRel] at hB
  obtain ⟨h1, h2, h3, arr, e, h4, h5, p0, pre, rest, rfl, h7, h8⟩ := hB
  refine ⟨.inr ⟨b, _, hb, by simp, rfl, hs⟩, crel_of_cells (hy.rel hH ((h8.drop off).take k)) h4 fun i v hi => ?_⟩
  rw [List.getElem?_take] at hi
  split at hi
  · rw [List.getElem?_drop] at hi
    rw [List.append_assoc, List.getElem?_append_right (by omega), ← hi, List.getElem?_append_left]
    · congr 1; omega
    · have : off + i < pre.length := by
        by_cases hx : off + i < pre.length
        · exact hx
        · rw [List.getElem?_eq_none (by omega)] at hi; cases hi
      omega
  · cases hi
theorem Fk.slF {b g sz : Nat} {cs ys : List AV} {off len : Nat} (k : Nat) (hb : H.bs[b]? = some (.cells g sz cs)) (hs : b ∈ S) (hy : FkL H S ((cs.drop off).take k) ys) : Fk H S (.slL b off len g) (.slF ys 0 len) := fun E c hH v r => by
  obtain ⟨q1, q2⟩ := Fk.cells hb hs hy hH
  simp only [VRel] at r ⊢
  obtain ⟨_, p, cap, rfl, hl, r⟩ := r
  refine ⟨p, cap, rfl, hl, (r (hH.live hb).1).imp id ?_⟩
  rintro ⟨rfl, _⟩
  exact ⟨c.al b, c.base b + off, by simp, .inr q1, q2⟩
theorem Fk.ptrF {b g sz : Nat} {cs ys : List AV} {off : Nat} (k : Nat) (hb : H.bs[b]? = some (.cells g sz cs)) (hs : b ∈ S) (hy : FkL H S ((cs.drop off).take k) ys) : Fk H S (.ptrL b off g) (.ptrF ys 0) := fun E c hH v r => by
  obtain ⟨q1, q2⟩ := Fk.cells hb hs hy hH
  simp only [VRel] at r ⊢
  obtain ⟨_, p, rfl, r⟩ := r
  rw [r (hH.live hb).1]
  exact ⟨c.al b, c.base b + off, by simp, .inr q1, q2⟩
end

/-- a block that stays -/
def KB (H : AH) (S : List Nat) : Blk → Blk → Prop
  | .cells g sz cs, .cells g1 sz1 cs1 => g1 = g ∧ sz1 = sz ∧ FkL H S cs cs1
  | .map g ks xs, .map g1 ks1 xs1 => g1 = g ∧ FkL H S ks ks1 ∧ FkL H S xs xs1
  | .dead, .dead => True
  | _, _ => False
theorem KB.same {H : AH} {S : List Nat} : ∀ x, KB H S x x
  | .cells _ _ _ => ⟨rfl, rfl, FkL.same _⟩
  | .map _ _ _ => ⟨rfl, FkL.same _, FkL.same _⟩
  | .dead => trivial
theorem KB.alive {H : AH} {S : List Nat} {x x' : Blk} (h : KB H S x x') (hd : x' ≠ .dead) : x ≠ .dead := by
  rintro rfl
  cases x' with
  | dead => exact hd rfl
  | cells => exact h.elim
  | map => exact h.elim

theorem ghost_kill {H : AH} {S : List Nat} {bs' : List Blk} (hl : bs'.length = H.bs.length)
    (h : ∀ i x, H.bs[i]? = some x → ∃ x', bs'[i]? = some x' ∧ ((i ∈ S ∧ x' = .dead) ∨ (i ∉ S ∧ KB H S x x'))) {xs xs' : List AV} (hx : FkL H S xs xs') : Ghost xs H xs' ⟨bs', H.ctr⟩ := by
  intro E c hH
  have hle := c.kill_le H S
  have hcase : ∀ i x', bs'[i]? = some x' → ∃ x, H.bs[i]? = some x ∧ ((i ∈ S ∧ x' = .dead) ∨ (i ∉ S ∧ KB H S x x')) := by
    intro i x' hi
    have hlt : i < H.bs.length := by
      rw [← hl]
      by_cases h : i < bs'.length
      · exact h
      · rw [List.getElem?_eq_none (by omega)] at hi; cases hi
    obtain ⟨y, h1, h2⟩ := h i _ (List.getElem?_eq_getElem hlt)
    rw [hi] at h1; injection h1 with h1; subst h1
    exact ⟨_, List.getElem?_eq_getElem hlt, h2⟩
  have halive : ∀ i x', bs'[i]? = some x' → x' ≠ .dead → ∃ x, H.bs[i]? = some x ∧ x ≠ .dead ∧ i ∉ S := by
    intro i x' hi hd
    obtain ⟨x, h1, ⟨_, h2⟩ | ⟨h2, h3⟩⟩ := hcase i x' hi
    · exact absurd h2 hd
    · exact ⟨x, h1, h3.alive hd, h2⟩
  refine ⟨c.kill H S, rfl, ?_, ⟨hH.ctr, ?_, ?_, ?_, ?_, ?_, ?_⟩, fun vs r => hx.rel hH r⟩
  · exact {
      le := hle
      os := rfl
      tape := rfl
      output := rfl
      size := Nat.le_refl _
      keep := fun _ _ _ => rfl
      own := fun b hb => .inl ⟨b, fun e => hb (by simp only [Cx.kill]; split <;> simp [e]), rfl⟩
      fz := fun k hk => by
        rcases hk with hk | ⟨b, x, hb, hd, he, _⟩
        · exact .inl hk
        · exact .inr (.inr ⟨b, by rw [(hH.live hb hd).1]; simp, he⟩) }
  · intro i hi
    have : H.bs[i]? = none := by
      have hi : bs'[i]? = none := hi
      rw [List.getElem?_eq_none_iff] at hi ⊢
      omega
    simp only [Cx.kill]
    split
    · rfl
    · exact hH.out i this
  · intro i x' hi
    obtain ⟨x, h1, ⟨h2, rfl⟩ | ⟨h2, h3⟩⟩ := hcase i x' hi
    · show (c.kill H S).gen i = none
      simp [Cx.kill, h2]
    · have hB := hH.blk i x h1
      have hg : (c.kill H S).gen i = c.gen i := by simp [Cx.kill, h2]
      cases x with
      | cells g sz cs =>
        cases x' with
        | cells g1 sz1 cs1 =>
          obtain ⟨rfl, rfl, h3⟩ := h3
          obtain ⟨a1, a2, a3, arr, e, a4, a5, p0, pre, rest, a6, a7, a8⟩ := hB
          exact ⟨a1, hg.trans a2, a3, arr, e, a4, a5, p0, pre, rest, a6, a7, h3.rel hH a8⟩
        | map => exact h3.elim
        | dead => exact h3.elim
      | map g ks vs =>
        cases x' with
        | cells => exact h3.elim
        | dead => exact h3.elim
        | map g1 ks1 vs1 =>
          obtain ⟨rfl, h3, h4⟩ := h3
          obtain ⟨a1, a2, es, clock, a4, a5, a6⟩ := hB
          exact ⟨a1, hg.trans a2, es, clock, a4, h3.rel hH a5, h4.rel hH a6⟩
      | dead =>
        cases x' with
        | cells => exact h3.elim
        | map => exact h3.elim
        | dead => exact hg.trans hB
  · intro i x' hi hd hfz
    obtain ⟨x, h1, h2, h3⟩ := halive i x' hi hd
    rcases hfz with hfz | ⟨b, y, hb, hyd, he, hs⟩
    · exact hH.apart i x h1 h2 hfz
    · have := hH.inj b i y x hb hyd h1 h2 he
      exact h3 (this ▸ hs)
  · intro i j x' y' hi hd hj hd' he
    obtain ⟨x, h1, h2, _⟩ := halive i x' hi hd
    obtain ⟨y, h3, h4, _⟩ := halive j y' hj hd'
    exact hH.inj i j x y h1 h2 h3 h4 he
  · intro i x' hi hd
    obtain ⟨x, h1, h2, _⟩ := halive i x' hi hd
    exact hH.lt i x h1 h2
  · intro k hk
    rcases hk with hk | ⟨b, x, hb, hd, he, _⟩
    · exact hH.fzlt k hk
    · rw [← he]; exact hH.lt b x hb hd

def killL : Nat → List Nat → List Blk → List Blk
  | _, _, [] => []
  | i, S, x :: l => (if S.contains i then .dead else x) :: killL (i + 1) S l
theorem killL_length (S : List Nat) : ∀ (i : Nat) (l : List Blk), (killL i S l).length = l.length
  | _, [] => rfl
  | i, x :: l => by simp [killL, killL_length S (i + 1) l]
theorem killL_get (S : List Nat) : ∀ (i j : Nat) (l : List Blk), (killL i S l)[j]? = l[j]?.map fun x => if S.contains (i + j) then .dead else x
  | _, _, [] => by simp [killL]
  | i, 0, x :: l => by simp [killL]
  | i, j + 1, x :: l => by
    simp only [killL, List.getElem?_cons_succ]
    rw [killL_get S (i + 1) j l, show i + 1 + j = i + (j + 1) by omega]
/-- blocks are frozen, and nothing else is told otherwise -/
def AH.kill (H : AH) (S : List Nat) : AH := ⟨killL 0 S H.bs, H.ctr⟩
theorem ghost_kill0 {H : AH} {S : List Nat} {xs xs' : List AV} (hx : FkL H S xs xs') : Ghost xs H xs' (H.kill S) := by
  refine ghost_kill (killL_length S 0 H.bs) (fun i x hi => ⟨_, by rw [killL_get, hi]; rfl, ?_⟩) hx
  simp only [Nat.zero_add]
  split
  · rename_i h
    exact .inl ⟨by simpa using h, rfl⟩
  · rename_i h
    exact .inr ⟨by simpa using h, KB.same x⟩
theorem AH.kill_get {H : AH} {S : List Nat} {j : Nat} (h : j ∉ S) : (H.kill S).bs[j]? = H.bs[j]? := by
  simp only [AH.kill]
  rw [killL_get]
  cases H.bs[j]? with
  | none => rfl
  | some x => simp [h]
end Go.Sb
