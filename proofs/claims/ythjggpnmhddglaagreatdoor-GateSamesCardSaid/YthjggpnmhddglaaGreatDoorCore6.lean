/- PLAIN LAWS OF CLAUSES: what spreads is so of all values that hold; the first values, true ahead of false. CALLS THAT WRITE ONE BLOCK OF THE CALLER's, told by a pointer (readers of texts). CONTRACTS: slices of texts; strings.Trim at letters of one byte. CONTRACTS: which texts may be names: expr.Name, and the reference's NameCheck. EXPRESSIONS, AND HOW TEXTS ARE READ AS EXPRESSIONS: plain. (of the seat YthjggpnmhddglaaGreatDoor) -/
import Derived.Test.YthjggpnmhddglaaGreatDoorCore5
namespace Go.Sc
open Go
set_option linter.unusedSimpArgs false
set_option linter.unnecessarySimpa false
set_option linter.unusedVariables false
/-- what a literal comes to: 1, -1, or 0 -/
def lv (of : List Int) (x : Int) : Int := if x < 0 then - cell of (-x).toNat else cell of x.toNat
def lh (a : Nat → Bool) (x : Int) : Bool := if x < 0 then !a (-x).toNat else a x.toNat
def Sats (a : Nat → Bool) (all : List (List Int)) : Prop := ∀ c ∈ all, ∃ x ∈ c, lh a x = true
def okLit (V : Nat) (x : Int) : Prop := x ≠ 0 ∧ -(V : Int) ≤ x ∧ x ≤ V
def vr (x : Int) : Nat := x.natAbs
def litSet (of : List Int) (x : Int) : List Int := of.set (vr x) (if x < 0 then -1 else 1)
structure Sol (V : Nat) (of : List Int) : Prop where
  len : of.length = V + 1
  val : ∀ i, cell of i = 0 ∨ cell of i = 1 ∨ cell of i = -1
def Exts (V : Nat) (a : Nat → Bool) (of : List Int) : Prop := ∀ i, 1 ≤ i → i ≤ V → (cell of i = 1 → a i = true) ∧ (cell of i = -1 → a i = false)
def opens (V : Nat) (of : List Int) : Nat := (List.range V).countP fun i => decide (cell of (i + 1) = 0)
def Grow (V : Nat) (of tr of' tr' : List Int) : Prop :=
  ∃ new : List Int, tr' = tr ++ new ∧ (∀ t ∈ new, 1 ≤ t ∧ t ≤ V ∧ cell of t.toNat = 0 ∧ cell of' t.toNat ≠ 0) ∧ ∀ i : Nat, (i : Int) ∉ new → cell of' i = cell of i
theorem Grow.refl (V : Nat) (of tr : List Int) : Grow V of tr of tr := ⟨[], by simp, by simp, by simp⟩
theorem Grow.trans {V : Nat} {a ta b tb c tc : List Int} (h : Grow V a ta b tb) (k : Grow V b tb c tc) : Grow V a ta c tc := by
  obtain ⟨n1, rfl, h2, h3⟩ := h
  obtain ⟨n2, rfl, k2, k3⟩ := k
  refine ⟨n1 ++ n2, by simp, fun t ht => ?_, fun i hi => ?_⟩
  · rcases List.mem_append.1 ht with h | h
    · obtain ⟨q1, q2, q3, q4⟩ := h2 t h
      refine ⟨q1, q2, q3, ?_⟩
      by_cases hm : t ∈ n2
      · exact absurd (k2 t hm).2.2.1 q4
      · rw [k3 t.toNat (by rw [Int.toNat_of_nonneg (by omega)]; exact hm)]; exact q4
    · obtain ⟨q1, q2, q3, q4⟩ := k2 t h
      refine ⟨q1, q2, ?_, q4⟩
      by_cases hm : t ∈ n1
      · exact absurd q3 (h2 t hm).2.2.2
      · rw [← h3 t.toNat (by rw [Int.toNat_of_nonneg (by omega)]; exact hm)]; exact q3
  · simp only [List.mem_append, not_or] at hi
    rw [k3 i hi.2, h3 i hi.1]
theorem cell_set {l : List Int} {i j : Nat} {v : Int} (h : i < l.length) : cell (l.set i v) j = if j = i then v else cell l j := by
  unfold cell
  by_cases e : j = i
  · subst e; simp [h]
  · rw [if_neg e, List.getElem?_set_ne (fun h => e h.symm)]
theorem vr_lt {V : Nat} {x : Int} (h : okLit V x) : 1 ≤ vr x ∧ vr x ≤ V := by unfold okLit vr at *; omega
theorem lv_vr {of : List Int} {x : Int} (h : x ≠ 0) : lv of x = 0 ↔ cell of (vr x) = 0 := by
  unfold lv vr
  by_cases hx : x < 0
  · rw [if_pos hx, show x.natAbs = (-x).toNat by omega]; omega
  · rw [if_neg hx, show x.natAbs = x.toNat by omega]
theorem Sol.set {V : Nat} {of : List Int} {x : Int} (h : Sol V of) (hx : okLit V x) : Sol V (litSet of x) := by
  have hl := h.len
  have := vr_lt hx
  refine ⟨by simp [litSet, h.len], fun i => ?_⟩
  unfold litSet
  rw [cell_set (by omega)]
  split
  · split <;> simp
  · exact h.val i
theorem Grow.set {V : Nat} {of tr : List Int} {x : Int} (hs : Sol V of) (hx : okLit V x) (h0 : lv of x = 0) : Grow V of tr (litSet of x) (tr ++ [(vr x : Int)]) := by
  have hl := hs.len
  have hv := vr_lt hx
  refine ⟨[(vr x : Int)], rfl, fun t ht => ?_, fun i hi => ?_⟩
  · simp at ht; subst ht
    refine ⟨by omega, by omega, by rw [Int.toNat_natCast]; exact (lv_vr hx.1).1 h0, ?_⟩
    rw [Int.toNat_natCast]
    unfold litSet
    rw [cell_set (by omega), if_pos rfl]
    split <;> simp
  · simp at hi
    unfold litSet
    rw [cell_set (by omega), if_neg (by omega)]
theorem Exts.set {V : Nat} {a : Nat → Bool} {of : List Int} {x : Int} (hs : Sol V of) (hx : okLit V x) (h : Exts V a of) (hl : lh a x = true) : Exts V a (litSet of x) := by
  have hlen := hs.len
  have hv := vr_lt hx
  intro i h1 h2
  unfold litSet
  rw [cell_set (by omega)]
  by_cases e : i = vr x
  · subst e
    rw [if_pos rfl]
    unfold lh at hl
    by_cases hn : x < 0
    · rw [if_pos hn] at hl ⊢
      have : (-x).toNat = vr x := by unfold vr; omega
      rw [this] at hl
      simp at hl
      simp [hl]
    · rw [if_neg hn] at hl ⊢
      have : x.toNat = vr x := by unfold vr; omega
      rw [this] at hl
      simp [hl]
  · rw [if_neg e]; exact h i h1 h2
theorem Exts.of_grow {V : Nat} {a : Nat → Bool} {of tr of' tr' : List Int} (hg : Grow V of tr of' tr') (h : Exts V a of') : Exts V a of := by
  obtain ⟨n, _, h2, h3⟩ := hg
  intro i h1 h4
  by_cases hm : (i : Int) ∈ n
  · have := (h2 _ hm).2.2.1
    rw [Int.toNat_natCast] at this
    rw [this]; simp
  · rw [← h3 i hm]; exact h i h1 h4
theorem opens_lt {V : Nat} {of : List Int} {x : Int} (hs : Sol V of) (hx : okLit V x) (h0 : lv of x = 0) : opens V (litSet of x) < opens V of := by
  have hl := hs.len
  have hv := vr_lt hx
  unfold opens
  refine countP_lt (fun i hi hp => ?_) ⟨vr x - 1, by rw [List.mem_range]; omega, ?_, ?_⟩
  · simp only [decide_eq_true_eq] at hp ⊢
    unfold litSet at hp
    rw [cell_set (by omega)] at hp
    split at hp
    · split at hp <;> simp at hp
    · exact hp
  · simp only [decide_eq_true_eq]
    rw [show vr x - 1 + 1 = vr x by omega]
    exact (lv_vr hx.1).1 h0
  · simp only [decide_eq_false_iff_not]
    rw [show vr x - 1 + 1 = vr x by omega]
    unfold litSet
    rw [cell_set (by omega), if_pos rfl]
    split <;> simp
theorem opens_le_grow {V : Nat} {of tr of' tr' : List Int} (hg : Grow V of tr of' tr') : opens V of' ≤ opens V of := by
  obtain ⟨n, _, h2, h3⟩ := hg
  unfold opens
  refine List.countP_mono_left fun i hi hp => ?_
  simp only [decide_eq_true_eq] at hp ⊢
  by_cases hm : ((i + 1 : Nat) : Int) ∈ n
  · have := (h2 _ hm).2.2.2
    rw [Int.toNat_natCast] at this
    exact absurd hp this
  · rw [← h3 _ hm]; exact hp
def reset (of : List Int) (l : List Int) : List Int := l.foldl (fun o t => o.set t.toNat 0) of
theorem reset_cell : ∀ (l : List Int) (of : List Int), (∀ t ∈ l, 0 ≤ t ∧ t.toNat < of.length) → ∀ i : Nat, cell (reset of l) i = if (i : Int) ∈ l then 0 else cell of i
  | [], of, _, i => by simp [reset]
  | t :: l, of, h, i => by
    have ht := h t (by simp)
    have ih := reset_cell l (of.set t.toNat 0) (fun u hu => by simpa using h u (by simp [hu])) i
    show cell (reset (of.set t.toNat 0) l) i = _
    rw [ih]
    by_cases hm : (i : Int) ∈ l
    · simp [hm]
    · rw [if_neg hm, cell_set ht.2]
      by_cases e : i = t.toNat
      · rw [if_pos e, if_pos (by simp; left; omega)]
      · rw [if_neg e, if_neg (by simp [hm]; omega)]
theorem reset_len : ∀ (l : List Int) (of : List Int), (reset of l).length = of.length
  | [], of => rfl
  | t :: l, of => by show (reset (of.set t.toNat 0) l).length = _; rw [reset_len l]; simp
theorem reset_snoc (of : List Int) (l : List Int) (t : Int) : reset of (l ++ [t]) = (reset of l).set t.toNat 0 := by simp [reset]
theorem Grow.back {V : Nat} {of tr of' tr' : List Int} (hs : Sol V of) (hs' : Sol V of') (hg : Grow V of tr of' tr') : reset of' (tr'.drop tr.length) = of ∧ tr'.take tr.length = tr := by
  obtain ⟨n, rfl, h2, h3⟩ := hg
  have l1 := hs.len; have l2 := hs'.len
  refine ⟨?_, by simp⟩
  rw [List.drop_left]
  refine List.ext_getElem? fun i => ?_
  by_cases hi : i < V + 1
  · have hc : cell (reset of' n) i = cell of i := by
      rw [reset_cell n of' (fun t ht => by have := h2 t ht; omega) i]
      by_cases hm : (i : Int) ∈ n
      · rw [if_pos hm]
        have := (h2 _ hm).2.2.1
        rw [Int.toNat_natCast] at this
        exact this.symm
      · rw [if_neg hm, h3 i hm]
    have e1 : (reset of' n)[i]? = some (cell (reset of' n) i) := by simp [cell, List.getElem?_eq_getElem (show i < (reset of' n).length by rw [reset_len]; omega)]
    have e2 : of[i]? = some (cell of i) := by simp [cell, List.getElem?_eq_getElem (show i < of.length by omega)]
    rw [e1, e2, hc]
  · rw [List.getElem?_eq_none (by rw [reset_len]; omega), List.getElem?_eq_none (by omega)]

/-! ### spreading -/
def SpreadOk (V : Nat) (all : List (List Int)) (of of' : List Int) (b : Bool) : Prop :=
  (∀ a, Sats a all → Exts V a of → Exts V a of') ∧ (b = false → ∀ a, Sats a all → ¬ Exts V a of) ∧ (b = true → ∀ c ∈ all, (∃ x ∈ c, lv of' x = 1) ∨ ∃ x ∈ c, lv of' x = 0 ∧ ∃ y ∈ c, lv of' y = 0 ∧ x ≠ y)
/-- what the scan of a clause knows -/
structure Scan (of : List Int) (pre : List Int) (left many : Int) (holds : Bool) : Prop where
  h : holds = true ↔ ∃ x ∈ pre, lv of x = 1
  pos : 0 ≤ many
  le : many ≤ pre.length
  zero : many = 0 → left = 0 ∧ ∀ x ∈ pre, lv of x ≠ 0
  one : many = 1 → left ≠ 0 ∧ left ∈ pre ∧ lv of left = 0 ∧ ∀ x ∈ pre, lv of x = 0 → x = left
  more : 1 < many → left ∈ pre ∧ lv of left = 0 ∧ ∃ x ∈ pre, lv of x = 0 ∧ ∃ y ∈ pre, lv of y = 0 ∧ x ≠ y
theorem Scan.nil (of : List Int) : Scan of [] 0 0 false := ⟨by simp, by omega, by simp, by simp, by simp, by simp⟩
theorem Scan.hit {of pre : List Int} {left many : Int} {hb : Bool} {x : Int} (h : Scan of pre left many hb) (hx : lv of x = 1) : Scan of (pre ++ [x]) left many true := by
  refine ⟨by simp [hx], h.pos, by have := h.le; simp; omega, fun hm => ⟨(h.zero hm).1, fun y hy => ?_⟩, fun hm => ⟨(h.one hm).1, by simp [(h.one hm).2.1], (h.one hm).2.2.1, fun y hy hy0 => ?_⟩, fun hm => ?_⟩
  · rcases List.mem_append.1 hy with hy | hy
    · exact (h.zero hm).2 y hy
    · simp at hy; subst hy; omega
  · rcases List.mem_append.1 hy with hy | hy
    · exact (h.one hm).2.2.2 y hy hy0
    · simp at hy; subst hy; omega
  · obtain ⟨q1, q2, y, hy, hy0, w, hw, hw0, hyw⟩ := h.more hm
    exact ⟨by simp [q1], q2, y, by simp [hy], hy0, w, by simp [hw], hw0, hyw⟩
theorem Scan.miss {of pre : List Int} {left many : Int} {hb : Bool} {x : Int} (h : Scan of pre left many hb) (hx : lv of x ≠ 1) (hx0 : lv of x ≠ 0) : Scan of (pre ++ [x]) left many hb := by
  refine ⟨?_, h.pos, by have := h.le; simp; omega, fun hm => ⟨(h.zero hm).1, fun y hy => ?_⟩, fun hm => ⟨(h.one hm).1, by simp [(h.one hm).2.1], (h.one hm).2.2.1, fun y hy hy0 => ?_⟩, fun hm => ?_⟩
  · rw [h.h]
    constructor
    · rintro ⟨y, hy, hy1⟩; exact ⟨y, by simp [hy], hy1⟩
    · rintro ⟨y, hy, hy1⟩
      rcases List.mem_append.1 hy with hy | hy
      · exact ⟨y, hy, hy1⟩
      · simp at hy; subst hy; exact absurd hy1 hx
  · rcases List.mem_append.1 hy with hy | hy
    · exact (h.zero hm).2 y hy
    · simp at hy; subst hy; exact hx0
  · rcases List.mem_append.1 hy with hy | hy
    · exact (h.one hm).2.2.2 y hy hy0
    · simp at hy; subst hy; exact absurd hy0 hx0
  · obtain ⟨q1, q2, y, hy, hy0, w, hw, hw0, hyw⟩ := h.more hm
    exact ⟨by simp [q1], q2, y, by simp [hy], hy0, w, by simp [hw], hw0, hyw⟩
theorem Scan.open_ {of pre : List Int} {left many : Int} {hb : Bool} {x : Int} (h : Scan of pre left many hb) (hx0 : lv of x = 0) (hx : x ≠ 0) : Scan of (pre ++ [x]) x (if x = left then many else many + 1) hb := by
  have hp := h.pos
  have hle := h.le
  refine ⟨?_, by split <;> omega, by simp; split <;> omega, fun hm => ?_, fun hm => ?_, fun hm => ⟨by simp, hx0, ?_⟩⟩
  · rw [h.h]
    constructor
    · rintro ⟨y, hy, hy1⟩; exact ⟨y, by simp [hy], hy1⟩
    · rintro ⟨y, hy, hy1⟩
      rcases List.mem_append.1 hy with hy | hy
      · exact ⟨y, hy, hy1⟩
      · simp at hy; subst hy; omega
  · split at hm
    · rename_i e
      have := (h.zero hm).1
      omega
    · omega
  · refine ⟨hx, by simp, hx0, fun y hy hy0 => ?_⟩
    rcases List.mem_append.1 hy with hy | hy
    · split at hm
      · rename_i e
        rw [e]; exact (h.one hm).2.2.2 y hy hy0
      · exact absurd hy0 ((h.zero (by omega)).2 y hy)
    · simpa using hy
  · have old : 1 < many → ∃ a ∈ pre ++ [x], lv of a = 0 ∧ ∃ b ∈ pre ++ [x], lv of b = 0 ∧ a ≠ b := fun h1 => by
      obtain ⟨_, _, a, ha, ha0, b, hb, hb0, hab⟩ := h.more h1
      exact ⟨a, by simp [ha], ha0, b, by simp [hb], hb0, hab⟩
    split at hm
    · exact old hm
    · rename_i hne
      by_cases h1 : 1 < many
      · exact old h1
      · obtain ⟨_, q1, q2, _⟩ := h.one (by omega)
        exact ⟨x, by simp, hx0, left, by simp [q1], q2, hne⟩
/-- of all literals but open ones it is known what they are -/
theorem lh_of {V : Nat} {a : Nat → Bool} {of : List Int} {x : Int} (hs : Sol V of) (hx : okLit V x) (h : Exts V a of) (h1 : lv of x ≠ 1) (h0 : lv of x ≠ 0) : lh a x = false := by
  have hv := vr_lt hx
  have hval := hs.val (vr x)
  obtain ⟨e1, e2⟩ := h (vr x) hv.1 hv.2
  unfold lv at h1 h0
  unfold lh
  by_cases hn : x < 0
  · rw [if_pos hn] at h1 h0 ⊢
    have e : (-x).toNat = vr x := by unfold vr; omega
    rw [e] at h1 h0 ⊢
    rw [e1 (by omega)]; rfl
  · rw [if_neg hn] at h1 h0 ⊢
    have e : x.toNat = vr x := by unfold vr; omega
    rw [e] at h1 h0 ⊢
    exact e2 (by omega)
theorem clause_none {V : Nat} {a : Nat → Bool} {of c : List Int} {left : Int} (hs : Sol V of) (hc : ∀ x ∈ c, okLit V x) (h : Scan of c left 0 false) (he : Exts V a of) : ¬ ∃ x ∈ c, lh a x = true := by
  rintro ⟨x, hx, hl⟩
  have h1 : lv of x ≠ 1 := fun h1 => by have := h.h.2 ⟨x, hx, h1⟩; cases this
  rw [lh_of hs (hc x hx) he h1 ((h.zero rfl).2 x hx)] at hl
  cases hl
theorem clause_unit {V : Nat} {a : Nat → Bool} {of c : List Int} {left : Int} (hs : Sol V of) (hc : ∀ x ∈ c, okLit V x) (h : Scan of c left 1 false) (he : Exts V a of) (ha : ∃ x ∈ c, lh a x = true) : lh a left = true := by
  obtain ⟨x, hx, hl⟩ := ha
  have h1 : lv of x ≠ 1 := fun h1 => by have := h.h.2 ⟨x, hx, h1⟩; cases this
  by_cases h0 : lv of x = 0
  · rw [← (h.one rfl).2.2.2 x hx h0]; exact hl
  · rw [lh_of hs (hc x hx) he h1 h0] at hl; cases hl

/-! ### the first values, true ahead of false -/
def lexle (V : Nat) (a b : Nat → Bool) : Prop := ∀ i, 1 ≤ i → i ≤ V → a i = true → b i = false → ∃ j, 1 ≤ j ∧ j < i ∧ a j = false ∧ b j = true
def asg (of : List Int) : Nat → Bool := fun i => decide (cell of i = 1)
def SearchT (V : Nat) (all : List (List Int)) (of of' : List Int) : Prop :=
  (∀ i, 1 ≤ i → i ≤ V → cell of' i ≠ 0) ∧ Sats (asg of') all ∧ Exts V (asg of') of ∧ ∀ a, Sats a all → Exts V a of → lexle V a (asg of')
def SearchF (V : Nat) (all : List (List Int)) (of : List Int) : Prop := ∀ a, Sats a all → ¬ Exts V a of
theorem asg_exts {V : Nat} (of : List Int) : Exts V (asg of) of := fun i _ _ => ⟨fun h => by simp [asg, h], fun h => by simp [asg, h]⟩
theorem search_leaf {V : Nat} {all : List (List Int)} {of tr of' tr' : List Int} (hs : Sol V of') (hall : ∀ c ∈ all, ∀ x ∈ c, okLit V x) (hg : Grow V of tr of' tr') (hsp : SpreadOk V all of of' true) (htot : ∀ i, 1 ≤ i → i ≤ V → cell of' i ≠ 0) : SearchT V all of of' := by
  refine ⟨htot, fun c hc => ?_, Exts.of_grow hg (asg_exts of'), fun a ha he i h1 h2 h3 h4 => ?_⟩
  · rcases hsp.2.2 rfl c hc with ⟨x, hx, h1⟩ | ⟨x, hx, h0, _⟩
    · refine ⟨x, hx, ?_⟩
      unfold lv at h1
      unfold lh asg
      by_cases hn : x < 0
      · rw [if_pos hn] at h1 ⊢
        simp; omega
      · rw [if_neg hn] at h1 ⊢
        simp [h1]
    · have hx' := hall c hc x hx
      have hv := vr_lt hx'
      exact absurd ((lv_vr hx'.1).1 h0) (htot _ hv.1 hv.2)
  · obtain ⟨e1, e2⟩ := hsp.1 a ha he i h1 h2
    have hval := hs.val i
    have := htot i h1 h2
    unfold asg at h4
    simp at h4
    rw [e2 (by omega)] at h3
    cases h3
theorem setL_pos {V : Nat} {of : List Int} {v : Nat} (hs : Sol V of) (h1 : 1 ≤ v) (h2 : v ≤ V) (i : Nat) : cell (litSet of (v : Int)) i = if i = v then 1 else cell of i := by
  have hl := hs.len
  unfold litSet
  rw [if_neg (by omega), show vr (v : Int) = v by unfold vr; omega, cell_set (by omega)]
theorem search_yes {V : Nat} {all : List (List Int)} {of tr of1 tr1 of' : List Int} {v : Nat} (hs1 : Sol V of1) (hg : Grow V of tr of1 tr1) (hsp : SpreadOk V all of of1 true) (h1 : 1 ≤ v) (h2 : v ≤ V) (hv0 : cell of1 v = 0) (hvf : ∀ i, 1 ≤ i → i < v → cell of1 i ≠ 0)
    (h : SearchT V all (litSet of1 (v : Int)) of') : SearchT V all of of' := by
  have hx : okLit V (v : Int) := by unfold okLit; omega
  have hg2 : Grow V of1 tr1 (litSet of1 (v : Int)) (tr1 ++ [(vr (v : Int) : Int)]) := Grow.set hs1 hx (by rw [lv_vr (by omega)]; simpa [vr] using hv0)
  obtain ⟨q1, q2, q3, q4⟩ := h
  have hb := Exts.of_grow hg2 q3
  refine ⟨q1, q2, Exts.of_grow hg hb, fun a ha he => ?_⟩
  have hea := hsp.1 a ha he
  by_cases hav : a v = true
  · exact q4 a ha (Exts.set hs1 hx hea (by unfold lh; rw [if_neg (by omega)]; simpa using hav))
  · intro i i1 i2 i3 i4
    have hasv : asg of' v = true := (q3 v h1 h2).1 (by rw [setL_pos hs1 h1 h2, if_pos rfl])
    by_cases hiv : i < v
    · have hc := hvf i i1 hiv
      have hval := hs1.val i
      obtain ⟨e1, e2⟩ := hea i i1 i2
      obtain ⟨f1, f2⟩ := hb i i1 i2
      by_cases hc1 : cell of1 i = 1
      · rw [f1 hc1] at i4; cases i4
      · rw [e2 (by omega)] at i3; cases i3
    · by_cases hiv2 : i = v
      · subst hiv2; exact absurd i3 hav
      · exact ⟨v, h1, by omega, by simpa using hav, hasv⟩
theorem search_no {V : Nat} {all : List (List Int)} {of tr of1 tr1 of' : List Int} {v : Nat} (hs1 : Sol V of1) (hg : Grow V of tr of1 tr1) (hsp : SpreadOk V all of of1 true) (h1 : 1 ≤ v) (h2 : v ≤ V) (hv0 : cell of1 v = 0)
    (hF : SearchF V all (litSet of1 (v : Int))) (h : SearchT V all (litSet of1 (-(v : Int))) of') : SearchT V all of of' := by
  have hx : okLit V (v : Int) := by unfold okLit; omega
  have hx' : okLit V (-(v : Int)) := by unfold okLit; omega
  have hg2 : Grow V of1 tr1 (litSet of1 (-(v : Int))) (tr1 ++ [(vr (-(v : Int)) : Int)]) := Grow.set hs1 hx' (by rw [lv_vr (by omega)]; simpa [vr] using hv0)
  obtain ⟨q1, q2, q3, q4⟩ := h
  refine ⟨q1, q2, Exts.of_grow hg (Exts.of_grow hg2 q3), fun a ha he => ?_⟩
  have hea := hsp.1 a ha he
  have hav : a v = false := by
    by_cases hav : a v = true
    · exact absurd (Exts.set hs1 hx hea (by unfold lh; rw [if_neg (by omega)]; simpa using hav)) (hF a ha)
    · simpa using hav
  exact q4 a ha (Exts.set hs1 hx' hea (by unfold lh; rw [if_pos (by omega)]; simpa using hav))
theorem search_none {V : Nat} {all : List (List Int)} {of of1 : List Int} {v : Nat} (hs1 : Sol V of1) (hsp : SpreadOk V all of of1 true) (h1 : 1 ≤ v) (h2 : v ≤ V)
    (hF : SearchF V all (litSet of1 (v : Int))) (hF' : SearchF V all (litSet of1 (-(v : Int)))) : SearchF V all of := by
  intro a ha he
  have hx : okLit V (v : Int) := by unfold okLit; omega
  have hx' : okLit V (-(v : Int)) := by unfold okLit; omega
  have hea := hsp.1 a ha he
  by_cases hav : a v = true
  · exact hF a ha (Exts.set hs1 hx hea (by unfold lh; rw [if_neg (by omega)]; simpa using hav))
  · exact hF' a ha (Exts.set hs1 hx' hea (by unfold lh; rw [if_pos (by omega)]; simpa using hav))

/-! ### values as a number's bits -/
def bitsK (V k : Nat) : Nat → Bool := fun i => k.testBit (V - i)
theorem bits_ex (f : Nat → Bool) : ∀ V : Nat, ∃ k, k < 2 ^ V ∧ ∀ j, j < V → k.testBit j = f j
  | 0 => ⟨0, by simp, by simp⟩
  | V + 1 => by
    obtain ⟨k, h1, h2⟩ := bits_ex f V
    have hp : 2 ^ (V + 1) = 2 ^ V + 2 ^ V := by rw [Nat.pow_succ]; omega
    cases hf : f V with
    | true =>
      refine ⟨2 ^ V + k, by omega, fun j hj => ?_⟩
      by_cases e : j < V
      · rw [Nat.testBit_two_pow_add_gt e]; exact h2 j e
      · have : j = V := by omega
        subst this
        rw [Nat.testBit_two_pow_add_eq, Nat.testBit_lt_two_pow h1, hf]; rfl
    | false =>
      refine ⟨k, by omega, fun j hj => ?_⟩
      by_cases e : j < V
      · exact h2 j e
      · have : j = V := by omega
        subst this
        rw [Nat.testBit_lt_two_pow h1, hf]
theorem Sats.congr {V : Nat} {all : List (List Int)} {a b : Nat → Bool} (hall : ∀ c ∈ all, ∀ x ∈ c, okLit V x) (h : ∀ i, 1 ≤ i → i ≤ V → a i = b i) (ha : Sats a all) : Sats b all := by
  intro c hc
  obtain ⟨x, hx, hl⟩ := ha c hc
  have hv := vr_lt (hall c hc x hx)
  refine ⟨x, hx, ?_⟩
  unfold lh at hl ⊢
  by_cases hn : x < 0
  · rw [if_pos hn] at hl ⊢
    rw [show (-x).toNat = vr x by unfold vr; omega] at hl ⊢
    rw [← h _ hv.1 hv.2]; exact hl
  · rw [if_neg hn] at hl ⊢
    rw [show x.toNat = vr x by unfold vr; omega] at hl ⊢
    rw [← h _ hv.1 hv.2]; exact hl
theorem as_bits (V : Nat) (a : Nat → Bool) : ∃ k, k < 2 ^ V ∧ ∀ i, 1 ≤ i → i ≤ V → bitsK V k i = a i := by
  obtain ⟨k, h1, h2⟩ := bits_ex (fun j => a (V - j)) V
  refine ⟨k, h1, fun i i1 i2 => ?_⟩
  unfold bitsK
  rw [h2 (V - i) (by omega), show V - (V - i) = i by omega]
end Go.Sc
namespace Go.Sc
open Go
set_option linter.unusedVariables false
set_option linter.unusedSimpArgs false
def S1 : Nat → Bool := fun i => decide (i ≠ 0)
structure PC (E : Env) (P : Program) (k sz : Nat) (cs : List AV) (args : Nat → Nat → List AV) (R0 : AV → List AV → Prop) : Prop where
  ok : ∀ n g, ACalls E P k (args 0 g) ⟨[.cells g sz cs], n⟩ fun r H' => ∃ cs', R0 r cs' ∧ H'.bs = [.cells g sz cs']
  ca : ∀ f g, AV.renL f (args 0 g) = args (f 0) g
  cc : AV.closedL cs
  cr : ∀ r cs', R0 r cs' → r.closed ∧ AV.closedL cs'
section
variable {E : Env} {P : Program} {k sz : Nat} {cs : List AV} {args : Nat → Nat → List AV} {R0 : AV → List AV → Prop}
theorem PC.calls (h : PC E P k sz cs args R0) {H : AH} {b g : Nat} (hb : H.bs[b]? = some (.cells g sz cs)) : ACalls E P k (args b g) H fun r H' => ∃ cs' n, R0 r cs' ∧ H' = ⟨H.bs.set b (.cells g sz cs'), n⟩ := by
  have hr : rmap [b] H.bs.length 0 = b := rfl
  have hcells : ∀ cs', AV.closedL cs' → (Blk.cells g sz cs').ren (rmap [b] H.bs.length) = .cells g sz cs' := fun cs' hc => by simp only [Blk.ren, AV.renL_closed _ hc]
  have := ACalls.frame (mv := [b]) (B := [.cells g sz cs]) (args0 := args 0 g) (args := args b g) (H := H) (R0 := fun r B' => ∃ cs', R0 r cs' ∧ B' = [.cells g sz cs'])
    (fun n => (h.ok n g).mono fun r H' ⟨cs', h1, h2⟩ => ⟨r, H', .refl _ _, ⟨cs', h1, h2⟩, by rw [h2]; rfl⟩) (by simp) rfl
    (fun i b' x h1 h2 => by
      cases i with
      | zero => simp at h1 h2; subst h1 h2; rw [hcells _ h.cc]; exact hb
      | succ i => simp at h1) (by rw [h.ca, hr])
  refine this.mono fun r H' ⟨r0, B', n, ⟨cs', h1, h2⟩, _, h3, h4⟩ => ⟨r, H', .refl _ _, cs', n, ?_, ?_⟩
  · rw [h3, AV.ren_closed _ (h.cr _ _ h1).1]; exact h1
  · rw [h4, h2, List.map_cons, List.map_nil, hcells _ (h.cr _ _ h1).2]; rfl
theorem PC.of (ca : ∀ f g, AV.renL f (args 0 g) = args (f 0) g) (cc : AV.closedL cs) (cr : ∀ r cs', R0 r cs' → r.closed ∧ AV.closedL cs')
    (h : ∀ n g (R : Kt), (∀ x r cs' rest n', Fk ⟨.cells g sz cs' :: rest, n'⟩ S1 x r → R0 r cs' → R x ⟨.cells g sz cs' :: rest, n'⟩) → ACalls E P k (args 0 g) ⟨[.cells g sz cs], n⟩ R) : PC E P k sz cs args R0 where
  ok := fun n g => (h n g (fun x H => ∃ r cs' rest n', H = ⟨.cells g sz cs' :: rest, n'⟩ ∧ Fk ⟨.cells g sz cs' :: rest, n'⟩ S1 x r ∧ R0 r cs') fun x r cs' rest n' h1 h2 => ⟨r, cs', rest, n', rfl, h1, h2⟩).mono (by
    rintro x H ⟨r, cs', rest, n', rfl, h1, h2⟩
    refine ⟨r, ⟨[.cells g sz cs'], n'⟩, ?_, cs', h2, rfl⟩
    exact ghost_kill (H := ⟨.cells g sz cs' :: rest, n'⟩) (H' := ⟨[.cells g sz cs'], n'⟩) (S := S1) rfl (.keep rfl (KB.same _) (.cut fun j x _ => .inl (by simp [S1]))) (.cons h1 .nil))
  ca := ca
  cc := cc
  cr := cr
theorem wCall.pc {H : AH} {b g : Nat} {args' : List AV} {K : Kt} (h : PC E P k sz cs args R0) (hb : H.bs[b]? = some (.cells g sz cs)) (ha : args' = args b g) (hK : ∀ r cs' n, R0 r cs' → K r ⟨H.bs.set b (.cells g sz cs'), n⟩) : wCall E P k args' H K :=
  ⟨_, ha ▸ h.calls hb, fun r _ ⟨cs', n, h1, h2⟩ => h2 ▸ hK r cs' n h1⟩
theorem wCallV.pc {H : AH} {b g : Nat} {fs as cc : List AV} {K : Kt} (h : PC E P k sz cs args R0) (hb : H.bs[b]? = some (.cells g sz cs)) (ha : fs ++ as ++ cc = args b g) (hK : ∀ r cs' n, R0 r cs' → K r ⟨H.bs.set b (.cells g sz cs'), n⟩) : wCallV E P (.fn k fs cc) as H K :=
  ⟨k, fs, cc, rfl, _, ha ▸ h.calls hb, fun r _ ⟨cs', n, h1, h2⟩ => h2 ▸ hK r cs' n h1⟩
end
end Go.Sc
namespace Go.Sc.F
open Go Go.Sc
set_option linter.unusedVariables false
/-- signalbox/expr.Name -/
def expr_Name (E : Env) (P : Program) (a0 : AV) (H : AH) (R : Kt) : Prop :=
  wGet (binA .neq a0 (.val (.string ⟨#[]⟩))) H fun t4 H =>
  wGuard t4 true H (fun k => k a0 H) fun t6 H =>
  wGuard t4 true H (fun k => wGet (lenS t6) H k) fun t7 H =>
  wGuard t4 true H (fun k => wGet (binA .leq t7 (.val (.int .i64 8))) H k) fun t8 H =>
  wGet (pickA t4 t8 (.val (.bool false))) H fun t9 H =>
  wGuard t9 true H (fun k => k a0 H) fun t11 H =>
  wGuard t9 true H (fun k => wGet (idxStr t11 (.val (.int .i64 0))) H k) fun t12 H =>
  wGuard t9 true H (fun k => wGet (binA .geq t12 (.val (.int .u8 97))) H k) fun t13 H =>
  wGet (pickA t9 t13 (.val (.bool false))) H fun t14 H =>
  wGuard t14 true H (fun k => k a0 H) fun t16 H =>
  wGuard t14 true H (fun k => wGet (idxStr t16 (.val (.int .i64 0))) H k) fun t17 H =>
  wGuard t14 true H (fun k => wGet (binA .leq t17 (.val (.int .u8 122))) H k) fun t18 H =>
  wGet (pickA t14 t18 (.val (.bool false))) H fun t19 H =>
  wGuard t19 true H (fun k => k a0 H) fun t21 H =>
  wGuard t19 true H (fun k => wCall E P 4 [t21, (.val (.string ⟨#[97, 98, 99, 100, 101, 102, 103, 104, 105, 106, 107, 108, 109, 110, 111, 112, 113, 114, 115, 116, 117, 118, 119, 120, 121, 122, 48, 49, 50, 51, 52, 53, 54, 55, 56, 57, 95]⟩))] H k) fun t22 H =>
  wGuard t19 true H (fun k => wGet (binA .eql t22 (.val (.string ⟨#[]⟩))) H k) fun t23 H =>
  wGet (pickA t19 t23 (.val (.bool false))) H fun t24 H =>
  wGuard t24 true H (fun k => wNewS 1 9 (fillA (List.replicate 9 [(.val (.string ⟨#[]⟩))]).flatten [(0, 1, (.val (.string ⟨#[105, 110, 112, 117, 116]⟩))), (1, 1, (.val (.string ⟨#[99, 111, 105, 108]⟩))), (2, 1, (.val (.string ⟨#[116, 105, 109, 101, 114]⟩))), (3, 1, (.val (.string ⟨#[99, 111, 117, 110, 116, 101, 114]⟩))), (4, 1, (.val (.string ⟨#[115, 101, 116]⟩))), (5, 1, (.val (.string ⟨#[114, 101, 115, 101, 116]⟩))), (6, 1, (.val (.string ⟨#[114, 117, 110]⟩))), (7, 1, (.val (.string ⟨#[99, 111, 117, 110, 116]⟩))), (8, 1, (.val (.string ⟨#[122, 101, 114, 111]⟩)))]) H k) fun t26 H =>
  wGuard t24 true H (fun k => k a0 H) fun t27 H =>
  wGuard t24 true H (fun k => wCall E P 5 [t26, t27] H k) fun t28 H =>
  wGuard t24 true H (fun k => wGet (unA .not t28) H k) fun t29 H =>
  wGet (pickA t24 t29 (.val (.bool false))) H fun t30 H =>
  R t30 H

/-- signalbox/signalboxref.NameCheck -/
def ref_NameCheck (E : Env) (P : Program) (a0 : AV) (H : AH) (R : Kt) : Prop :=
  wGet (lenS a0) H fun t7 H =>
  wLoop 1 (fun I1 => I1 (.val (.int .i64 0)) H) fun I1 t8 H =>
    wGet (binA .lss t8 t7) H fun t9 H =>
    wIf t9 (
      wGet (idxStr a0 t8) H fun t13 H =>
      wGet (binA .geq t13 (.val (.int .u8 97))) H fun t15 H =>
      wGuard t15 true H (fun k => k t13 H) fun t17 H =>
      wGuard t15 true H (fun k => wGet (binA .leq t17 (.val (.int .u8 122))) H k) fun t18 H =>
      wGet (pickA t15 t18 (.val (.bool false))) H fun t19 H =>
      wGet (unA .not t19) H fun t21 H =>
      wGuard t21 true H (fun k => k t8 H) fun t23 H =>
      wGuard t21 true H (fun k => wGet (binA .eql t23 (.val (.int .i64 0))) H k) fun t24 H =>
      wGuard t21 true H (fun k => k t24 H) fun t25 H =>
      wGuard t25 false H (fun k => k t13 H) fun t26 H =>
      wGuard t25 false H (fun k => wGet (binA .geq t26 (.val (.int .u8 48))) H k) fun t27 H =>
      wGuard t25 false H (fun k => k t27 H) fun t28 H =>
      wGuard t28 true H (fun k => k t13 H) fun t29 H =>
      wGuard t28 true H (fun k => wGet (binA .leq t29 (.val (.int .u8 57))) H k) fun t30 H =>
      wGuard t25 false H (fun k => wGet (pickA t28 t30 (.val (.bool false))) H k) fun t31 H =>
      wGuard t25 false H (fun k => k t31 H) fun t32 H =>
      wGuard t32 false H (fun k => k t13 H) fun t33 H =>
      wGuard t32 false H (fun k => wGet (binA .eql t33 (.val (.int .u8 95))) H k) fun t34 H =>
      wGuard t25 false H (fun k => wGet (pickA t32 (.val (.bool true)) t34) H k) fun t35 H =>
      wGuard t25 false H (fun k => wGet (unA .not t35) H k) fun t36 H =>
      wGuard t21 true H (fun k => wGet (pickA t25 (.val (.bool true)) t36) H k) fun t37 H =>
      wGet (pickA t21 t37 (.val (.bool false))) H fun t38 H =>
      wIf t38 (
        R (.val (.bool false)) H) (
        wGet (binA .add t8 (.val (.int .i64 1))) H fun t39 H =>
        I1 t39 H)) (
      wJoin 1 (fun J2 =>
        wGet (binA .eql a0 (.val (.string ⟨#[]⟩))) H fun t42 H =>
        wIf t42 (
          J2 t42 H) (
          wGet (binA .eql a0 (.val (.string ⟨#[105, 110, 112, 117, 116]⟩))) H fun t43 H =>
          wIf t43 (
            J2 t43 H) (
            wGet (binA .eql a0 (.val (.string ⟨#[99, 111, 105, 108]⟩))) H fun t44 H =>
            wIf t44 (
              J2 t44 H) (
              wGet (binA .eql a0 (.val (.string ⟨#[116, 105, 109, 101, 114]⟩))) H fun t45 H =>
              wIf t45 (
                J2 t45 H) (
                wGet (binA .eql a0 (.val (.string ⟨#[99, 111, 117, 110, 116, 101, 114]⟩))) H fun t46 H =>
                wIf t46 (
                  J2 t46 H) (
                  wGet (binA .eql a0 (.val (.string ⟨#[115, 101, 116]⟩))) H fun t47 H =>
                  wIf t47 (
                    J2 t47 H) (
                    wGet (binA .eql a0 (.val (.string ⟨#[114, 101, 115, 101, 116]⟩))) H fun t48 H =>
                    wIf t48 (
                      J2 t48 H) (
                      wGet (binA .eql a0 (.val (.string ⟨#[114, 117, 110]⟩))) H fun t49 H =>
                      wIf t49 (
                        J2 t49 H) (
                        wGet (binA .eql a0 (.val (.string ⟨#[99, 111, 117, 110, 116]⟩))) H fun t50 H =>
                        wIf t50 (
                          J2 t50 H) (
                          wGet (binA .eql a0 (.val (.string ⟨#[122, 101, 114, 111]⟩))) H fun t51 H =>
                          J2 t51 H)))))))))) fun t41 H =>
        wIf t41 (
          R (.val (.bool false)) H) (
          wGet (lenS a0) H fun t53 H =>
          wGet (binA .leq t53 (.val (.int .i64 8))) H fun t54 H =>
          R t54 H))

/-- strings.Trim -/
def strings_Trim (E : Env) (P : Program) (a0 a1 : AV) (H : AH) (R : Kt) : Prop :=
  wGet (binA .eql a0 (.val (.string ⟨#[]⟩))) H fun t8 H =>
  wGuard t8 false H (fun k => k a1 H) fun t10 H =>
  wGuard t8 false H (fun k => wGet (binA .eql t10 (.val (.string ⟨#[]⟩))) H k) fun t11 H =>
  wGet (pickA t8 (.val (.bool true)) t11) H fun t12 H =>
  wIf t12 (
    R a0 H) (
    wGet (lenS a1) H fun t15 H =>
    wGet (binA .eql t15 (.val (.int .i64 1))) H fun t16 H =>
    wGuard t16 true H (fun k => k a1 H) fun t18 H =>
    wGuard t16 true H (fun k => wGet (idxStr t18 (.val (.int .i64 0))) H k) fun t19 H =>
    wGuard t16 true H (fun k => wGet (binA .lss t19 (.val (.int .u8 128))) H k) fun t20 H =>
    wGet (pickA t16 t20 (.val (.bool false))) H fun t21 H =>
    wIf t21 (
      wGet (idxStr a1 (.val (.int .i64 0))) H fun t24 H =>
      wGet (idxStr a1 (.val (.int .i64 0))) H fun t27 H =>
      wCall E P 6 [a0, t24] H fun t25 H =>
      wCall E P 7 [t25, t27] H fun t28 H =>
      R t28 H) (
      wCall E P 8 [a1] H fun t31 H =>
      wGet (extractA t31 0) H fun t32 H =>
      wGet (extractA t31 1) H fun t33 H =>
      wNew 256 (some (List.replicate 256 (.val (.bool false)))) H fun t5 H =>
      wPut (storeN 256 t5 t32 H) fun _u H =>
      wIf t33 (
        wCall E P 9 [a0, t5] H fun t36 H =>
        wCall E P 10 [t36, t5] H fun t37 H =>
        R t37 H) (
        wCall E P 11 [a0, a1] H fun t40 H =>
        wCall E P 12 [t40, a1] H fun t42 H =>
        R t42 H)))

/-- slices.Contains[[]string,string] -/
def slices_Contains_Lstring_string (E : Env) (P : Program) (a0 a1 : AV) (H : AH) (R : Kt) : Prop :=
  wCall E P 13 [a0, a1] H fun t7 H =>
  wGet (binA .geq t7 (.val (.int .i64 0))) H fun t8 H =>
  R t8 H

/-- strings.trimLeftByte -/
def strings_trimLeftByte (E : Env) (P : Program) (a0 a1 : AV) (H : AH) (R : Kt) : Prop :=
  wLoop 1 (fun I1 => I1 a0 H) fun I1 t0 H =>
    wGet (lenS t0) H fun t6 H =>
    wGet (binA .gtr t6 (.val (.int .i64 0))) H fun t7 H =>
    wGuard t7 true H (fun k => k t0 H) fun t9 H =>
    wGuard t7 true H (fun k => wGet (idxStr t9 (.val (.int .i64 0))) H k) fun t10 H =>
    wGuard t7 true H (fun k => k a1 H) fun t11 H =>
    wGuard t7 true H (fun k => wGet (binA .eql t10 t11) H k) fun t12 H =>
    wGet (pickA t7 t12 (.val (.bool false))) H fun t13 H =>
    wIf t13 (
      wGet (sliceS t0 (some (.val (.int .i64 1))) none) H fun t15 H =>
      I1 t15 H) (
      R t0 H)

/-- strings.trimRightByte -/
def strings_trimRightByte (E : Env) (P : Program) (a0 a1 : AV) (H : AH) (R : Kt) : Prop :=
  wLoop 1 (fun I1 => I1 a0 H) fun I1 t0 H =>
    wGet (lenS t0) H fun t6 H =>
    wGet (binA .gtr t6 (.val (.int .i64 0))) H fun t7 H =>
    wGuard t7 true H (fun k => k t0 H) fun t9 H =>
    wGuard t7 true H (fun k => k t0 H) fun t10 H =>
    wGuard t7 true H (fun k => wGet (lenS t10) H k) fun t11 H =>
    wGuard t7 true H (fun k => wGet (binA .sub t11 (.val (.int .i64 1))) H k) fun t12 H =>
    wGuard t7 true H (fun k => wGet (idxStr t9 t12) H k) fun t13 H =>
    wGuard t7 true H (fun k => k a1 H) fun t14 H =>
    wGuard t7 true H (fun k => wGet (binA .eql t13 t14) H k) fun t15 H =>
    wGet (pickA t7 t15 (.val (.bool false))) H fun t16 H =>
    wIf t16 (
      wGet (lenS t0) H fun t19 H =>
      wGet (binA .sub t19 (.val (.int .i64 1))) H fun t20 H =>
      wGet (sliceS t0 none (some t20)) H fun t21 H =>
      I1 t21 H) (
      R t0 H)

/-- strings.makeASCIISet -/
def strings_makeASCIISet (E : Env) (P : Program) (a0 : AV) (H : AH) (R : Kt) : Prop :=
  wNew 256 (some (List.replicate 256 (.val (.bool false)))) H fun t2 H =>
  wLoop 1 (fun I1 => I1 (.val (.int .i64 0)) H) fun I1 t4 H =>
    wGet (lenS a0) H fun t8 H =>
    wGet (binA .lss t4 t8) H fun t9 H =>
    wIf t9 (
      wGet (idxStr a0 t4) H fun t14 H =>
      wGet (binA .geq t14 (.val (.int .u8 128))) H fun t16 H =>
      wIf t16 (
        wGet (loadN 256 t2 H) H fun t17 H =>
        wPut (storeN 256 t2 t17 H) fun _u H =>
        wGet (retPack [loadN 256 t2 H, some (.val (.bool false))]) H R) (
        wGet (iaddrArr 1 256 t2 t14) H fun t19 H =>
        wPut (store1 t19 (.val (.bool true)) H) fun _u H =>
        wGet (binA .add t4 (.val (.int .i64 1))) H fun t11 H =>
        I1 t11 H)) (
      wGet (loadN 256 t2 H) H fun t20 H =>
      wPut (storeN 256 t2 t20 H) fun _u H =>
      wGet (retPack [loadN 256 t2 H, some (.val (.bool true))]) H R)

/-- strings.trimLeftASCII -/
def strings_trimLeftASCII (E : Env) (P : Program) (a0 a1 : AV) (H : AH) (R : Kt) : Prop :=
  wJoin 1 (fun J1 =>
    wLoop 1 (fun I2 => I2 a0 H) fun I2 t0 H =>
      wGet (lenS t0) H fun t6 H =>
      wGet (binA .gtr t6 (.val (.int .i64 0))) H fun t7 H =>
      wIf t7 (
        wGet (idxStr t0 (.val (.int .i64 0))) H fun t10 H =>
        wCall E P 14 [a1, t10] H fun t11 H =>
        wGet (unA .not t11) H fun t12 H =>
        wIf t12 (
          J1 t0 H) (
          wGet (sliceS t0 (some (.val (.int .i64 1))) none) H fun t14 H =>
          I2 t14 H)) (
        J1 t0 H)) fun t0_1 H =>
    R t0_1 H

/-- strings.trimRightASCII -/
def strings_trimRightASCII (E : Env) (P : Program) (a0 a1 : AV) (H : AH) (R : Kt) : Prop :=
  wJoin 1 (fun J1 =>
    wLoop 1 (fun I2 => I2 a0 H) fun I2 t0 H =>
      wGet (lenS t0) H fun t6 H =>
      wGet (binA .gtr t6 (.val (.int .i64 0))) H fun t7 H =>
      wIf t7 (
        wGet (lenS t0) H fun t11 H =>
        wGet (binA .sub t11 (.val (.int .i64 1))) H fun t12 H =>
        wGet (idxStr t0 t12) H fun t13 H =>
        wCall E P 14 [a1, t13] H fun t14 H =>
        wGet (unA .not t14) H fun t15 H =>
        wIf t15 (
          J1 t0 H) (
          wGet (lenS t0) H fun t18 H =>
          wGet (binA .sub t18 (.val (.int .i64 1))) H fun t19 H =>
          wGet (sliceS t0 none (some t19)) H fun t20 H =>
          I2 t20 H)) (
        J1 t0 H)) fun t0_1 H =>
    R t0_1 H

/-- slices.Index[[]string,string] -/
def slices_Index_Lstring_string (E : Env) (P : Program) (a0 a1 : AV) (H : AH) (R : Kt) : Prop :=
  wGet (lenA a0) H fun t7 H =>
  wLoop 1 (fun I1 => I1 (.val (.int .i64 0)) H) fun I1 t8 H =>
    wGet (binA .lss t8 t7) H fun t9 H =>
    wIf t9 (
      wGet (iaddr 1 a0 t8) H fun t14 H =>
      wGet (load1 t14 H) H fun t15 H =>
      wGet (binA .eql a1 t15) H fun t16 H =>
      wIf t16 (
        R t8 H) (
        wGet (binA .add t8 (.val (.int .i64 1))) H fun t18 H =>
        I1 t18 H)) (
      R (.val (.int .i64 (-1))) H)

/-- (*strings.asciiSet).contains -/
def pstrings_asciiSet_contains (E : Env) (P : Program) (a0 a1 : AV) (H : AH) (R : Kt) : Prop :=
  wGet (nilA a0) H fun t7 H =>
  wGet (iaddrArr 1 256 t7 a1) H fun t8 H =>
  wGet (load1 t8 H) H fun t9 H =>
  R t9 H

/-- strings.ContainsRune -/
def strings_ContainsRune (E : Env) (P : Program) (a0 a1 : AV) (H : AH) (R : Kt) : Prop :=
  wCall E P 19 [a0, a1] H fun t7 H =>
  wGet (binA .geq t7 (.val (.int .i64 0))) H fun t8 H =>
  R t8 H

/-- strings.IndexByte -/
def strings_IndexByte (E : Env) (P : Program) (a0 a1 : AV) (H : AH) (R : Kt) : Prop :=
  wCall E P 23 [a0, a1] H fun t7 H =>
  R t7 H

/-- unicode/utf8.ValidRune -/
def unicode_utf8_ValidRune (E : Env) (P : Program) (a0 : AV) (H : AH) (R : Kt) : Prop :=
  wGet (binA .leq (.val (.int .i32 0)) a0) H fun t5 H =>
  wGuard t5 true H (fun k => k a0 H) fun t7 H =>
  wGuard t5 true H (fun k => wGet (binA .lss t7 (.val (.int .i32 55296))) H k) fun t8 H =>
  wGet (pickA t5 t8 (.val (.bool false))) H fun t9 H =>
  wIf t9 (
    R (.val (.bool true)) H) (
    wGet (binA .lss (.val (.int .i32 57343)) a0) H fun t12 H =>
    wGuard t12 true H (fun k => k a0 H) fun t14 H =>
    wGuard t12 true H (fun k => wGet (binA .leq t14 (.val (.int .i32 1114111))) H k) fun t15 H =>
    wGet (pickA t12 t15 (.val (.bool false))) H fun t16 H =>
    wIf t16 (
      R (.val (.bool true)) H) (
      R (.val (.bool false)) H))

end Go.Sc.F
namespace Go.Sc
open Go
set_option linter.unusedSimpArgs false
set_option linter.unusedVariables false
section
variable {E : Env} {P : Program}
theorem IndexS_spec (hB : Body2 E P 13 F.slices_Index_Lstring_string) (l : List Str) (s : Str) (hl : l.length < 1099511627776) : FX E P 13 [Lm S l, S s] (Z (idx l s)) := by
  refine FX.of' ⟨closed_S l, trivial, trivial⟩ trivial fun n R hR => hB _ _ _ _ ?_
  unfold F.slices_Index_Lstring_string
  simp only [nd0, Y1n, Y1o, Y1p, Y1q, Y1w, Y1x, Y1y, Y1z, Y20, Y21, Y28, Y2a, AV.cells?, Nat.reduceAdd, Nat.reduceMul]
  refine wLoop.one (fun m t H => ∃ pre rest, l = pre ++ rest ∧ m = rest.length ∧ t = Z pre.length ∧ s ∉ pre) l.length (gh1.mk ⟨[], l, rfl, rfl, rfl, by simp⟩) ?_
  rintro m t H ⟨pre, rest, rfl, rfl, rfl, hs⟩
  simp only [nd0, Y1n, Y1o, Y1p, Y1q, Y1w, Y1x, Y1y, Y1z, Y20, Y21, Y28, Y2a, AV.cells?, Nat.reduceAdd, Nat.reduceMul]
  cases rest with
  | nil =>
    simp only [nd0, Y1n, Y1o, Y1p, Y1q, Y1w, Y1x, Y1y, Y1z, Y20, Y21, Y28, Y2a, AV.cells?, Nat.reduceAdd, Nat.reduceMul, List.append_nil, Int.lt_irrefl]
    exact hR _ _ (by rw [idx, if_neg (by simpa using hs)])
  | cons x rest =>
    have h1 : ((pre.length : Int) < ((pre ++ x :: rest).length : Int)) := by simp; omega
    simp only [nd0, Y1n, Y1o, Y1p, Y1q, Y1w, Y1x, Y1y, Y1z, Y20, Y21, Y28, Y2a, AV.cells?, Nat.reduceAdd, Nat.reduceMul, h1]
    rw [iaddr_Nn (by simp)]
    simp only [nd0, Y1n, Y1o, Y1p, Y1q, Y1w, Y1x, Y1y, Y1z, Y20, Y21, Y28, Y2a, AV.cells?, Nat.reduceAdd, Nat.reduceMul, at_mid]
    by_cases hx : s = x
    · subst hx
      simp only [nd0, Y1n, Y1o, Y1p, Y1q, Y1w, Y1x, Y1y, Y1z, Y20, Y21, Y28, Y2a, AV.cells?, Nat.reduceAdd, Nat.reduceMul]
      exact hR _ _ (by rw [idx_app hs])
    · have : ¬ (s = x) := hx
      simp only [nd0, Y1n, Y1o, Y1p, Y1q, Y1w, Y1x, Y1y, Y1z, Y20, Y21, Y28, Y2a, AV.cells?, Nat.reduceAdd, Nat.reduceMul, this]
      rw [binA_succ (by simp at hl; omega)]
      simp only [nd0, Y1n, Y1o, Y1p, Y1q, Y1w, Y1x, Y1y, Y1z, Y20, Y21, Y28, Y2a, AV.cells?, Nat.reduceAdd, Nat.reduceMul]
      exact back1.mk rest.length (by simp) ⟨pre ++ [x], rest, by simp, rfl, by simp, by simp [hs, hx]⟩
theorem ContainsS_spec (hI : ∀ (l : List Str) s, l.length < 1099511627776 → FX E P 13 [Lm S l, S s] (Z (idx l s))) (hB : Body2 E P 5 F.slices_Contains_Lstring_string) (l : List Str) (s : Str) (hl : l.length < 1099511627776) : FX E P 5 [Lm S l, S s] (Bo (decide (s ∈ l))) := by
  refine FX.of' ⟨closed_S l, trivial, trivial⟩ trivial fun n R hR => hB _ _ _ _ ?_
  unfold F.slices_Contains_Lstring_string
  refine wCall.fx (hI l s hl) fun n => ?_
  simp only [nd0, Y1n, Y1o, Y1p, Y1q, Y1w, Y1x, Y1y, Y1z, Y20, Y21, Y28, Y2a, AV.cells?, Nat.reduceAdd, Nat.reduceMul]
  refine hR _ _ ?_
  have : decide ((0 : Int) ≤ idx l s) = decide (s ∈ l) := decide_eq_decide.2 (by rw [← Int.not_lt, idx_neg, Classical.not_not])
  rw [this]

/-! ### Trim -/
/-- without the letters of 'p' at its end -/
def trimR (p : UInt8 → Bool) (s : Str) : Str := (s.reverse.dropWhile p).reverse
def trimL (p : UInt8 → Bool) (s : Str) : Str := s.dropWhile p
theorem trimR_snoc {p : UInt8 → Bool} {s : Str} {c : UInt8} : trimR p (s ++ [c]) = if p c then trimR p s else s ++ [c] := by
  simp only [trimR, List.reverse_append, List.reverse_cons, List.reverse_nil, List.nil_append, List.singleton_append, List.dropWhile_cons]
  split <;> simp
theorem snoc_of {s : Str} (h : s ≠ []) : ∃ t c, s = t ++ [c] := ⟨s.dropLast, s.getLast h, (List.dropLast_concat_getLast h).symm⟩
theorem idxS_last {t : Str} {c : UInt8} : idxStr (S (t ++ [c])) (Z t.length) = some (By c) := by
  rw [idxS (by simp)]; simp
theorem idxS_zero {s : Str} {c : UInt8} : idxStr (S (c :: s)) (Z 0) = some (By c) := by
  have := idxS (s := c :: s) (i := 0) (by simp)
  simpa using this
theorem sliceS_tail {s : Str} {c : UInt8} : sliceS (S (c :: s)) (some (Z 1)) none = some (S s) := by
  rw [sliceS_S (l := 1) (h := (c :: s).length) rfl rfl (by omega) (by simp; omega) (by simp)]
  have : ((c :: s).take ((c :: s).length : Int).toNat) = c :: s := by rw [Int.toNat_natCast, List.take_length]
  rw [this]; simp
theorem sliceS_init {s : Str} {c : UInt8} : sliceS (S (s ++ [c])) none (some (Z s.length)) = some (S s) := by
  rw [sliceS_S (l := 0) (h := s.length) rfl rfl (by omega) (by omega) (by simp; omega)]
  simp
theorem by_eq {a b : UInt8} : decide (((a.toNat : Nat) : Int) = ((b.toNat : Nat) : Int)) = decide (a = b) := decide_eq_decide.2 ⟨fun h => UInt8.toNat_inj.1 (by omega), fun h => by rw [h]⟩

theorem trimLB_spec (hB : Body2 E P 7 F.strings_trimLeftByte) (s : Str) (c : UInt8) : FX E P 7 [S s, By c] (S (trimL (· = c) s)) := by
  refine FX.of' (by simp [AV.closed, AV.closedL]) trivial fun n R hR => hB _ _ _ _ ?_
  unfold F.strings_trimLeftByte
  refine wLoop.one (fun m t H => ∃ r, t = S r ∧ m = r.length ∧ trimL (· = c) r = trimL (· = c) s) s.length (gh1.mk ⟨s, rfl, rfl, rfl⟩) ?_
  rintro m t H ⟨r, rfl, rfl, hr⟩
  simp only [nd0, Y1n, Y1o, Y1p, Y1q, Y1w, Y1x, Y1y, Y1z, Y20, Y21, Y28, Y2a, AV.cells?, Nat.reduceAdd, Nat.reduceMul]
  cases r with
  | nil =>
    simp only [nd0, Y1n, Y1o, Y1p, Y1q, Y1w, Y1x, Y1y, Y1z, Y20, Y21, Y28, Y2a, AV.cells?, Nat.reduceAdd, Nat.reduceMul, show ¬ ((0 : Int) < ((0 : Nat) : Int)) by simp]
    exact hR _ _ (by rw [← hr]; rfl)
  | cons d r =>
    have h1 : ((0 : Int) < ((r.length + 1 : Nat) : Int)) := by omega
    simp only [nd0, Y1n, Y1o, Y1p, Y1q, Y1w, Y1x, Y1y, Y1z, Y20, Y21, Y28, Y2a, AV.cells?, Nat.reduceAdd, Nat.reduceMul, h1]
    rw [idxS_zero]
    simp only [nd0, Y1n, Y1o, Y1p, Y1q, Y1w, Y1x, Y1y, Y1z, Y20, Y21, Y28, Y2a, AV.cells?, Nat.reduceAdd, Nat.reduceMul, by_eq]
    by_cases hd : d = c
    · subst hd
      simp only [nd0, Y1n, Y1o, Y1p, Y1q, Y1w, Y1x, Y1y, Y1z, Y20, Y21, Y28, Y2a, AV.cells?, Nat.reduceAdd, Nat.reduceMul]
      rw [sliceS_tail]
      simp only [nd0, Y1n, Y1o, Y1p, Y1q, Y1w, Y1x, Y1y, Y1z, Y20, Y21, Y28, Y2a, AV.cells?, Nat.reduceAdd, Nat.reduceMul]
      exact back1.mk r.length (by simp) ⟨r, rfl, rfl, by rw [← hr]; simp [trimL]⟩
    · simp only [nd0, Y1n, Y1o, Y1p, Y1q, Y1w, Y1x, Y1y, Y1z, Y20, Y21, Y28, Y2a, AV.cells?, Nat.reduceAdd, Nat.reduceMul, hd]
      exact hR _ _ (by rw [← hr]; simp [trimL, hd])
theorem trimRB_spec (hB : Body2 E P 6 F.strings_trimRightByte) (s : Str) (c : UInt8) (hs : s.length < 1099511627776) : FX E P 6 [S s, By c] (S (trimR (· = c) s)) := by
  refine FX.of' (by simp [AV.closed, AV.closedL]) trivial fun n R hR => hB _ _ _ _ ?_
  unfold F.strings_trimRightByte
  refine wLoop.one (fun m t H => ∃ r, t = S r ∧ m = r.length ∧ r.length ≤ s.length ∧ trimR (· = c) r = trimR (· = c) s) s.length (gh1.mk ⟨s, rfl, rfl, Nat.le_refl _, rfl⟩) ?_
  rintro m t H ⟨r, rfl, rfl, hle, hr⟩
  simp only [nd0, Y1n, Y1o, Y1p, Y1q, Y1w, Y1x, Y1y, Y1z, Y20, Y21, Y28, Y2a, AV.cells?, Nat.reduceAdd, Nat.reduceMul]
  by_cases h0 : r = []
  · subst h0
    simp only [nd0, Y1n, Y1o, Y1p, Y1q, Y1w, Y1x, Y1y, Y1z, Y20, Y21, Y28, Y2a, AV.cells?, Nat.reduceAdd, Nat.reduceMul, show ¬ ((0 : Int) < ((0 : Nat) : Int)) by simp]
    exact hR _ _ (by rw [← hr]; rfl)
  · obtain ⟨t, d, rfl⟩ := snoc_of h0
    simp only [List.length_append, List.length_singleton] at hle
    have h1 : ((0 : Int) < ((t.length + 1 : Nat) : Int)) := by omega
    have h2 : ((t.length + 1 : Nat) : Int) - 1 = (t.length : Int) := by omega
    simp only [nd0, Y1n, Y1o, Y1p, Y1q, Y1w, Y1x, Y1y, Y1z, Y20, Y21, Y28, Y2a, AV.cells?, Nat.reduceAdd, Nat.reduceMul, len_snoc, h1]
    rw [binA_sub (by omega), h2]
    simp only [nd0, Y1n, Y1o, Y1p, Y1q, Y1w, Y1x, Y1y, Y1z, Y20, Y21, Y28, Y2a, AV.cells?, Nat.reduceAdd, Nat.reduceMul]
    rw [idxS_last]
    simp only [nd0, Y1n, Y1o, Y1p, Y1q, Y1w, Y1x, Y1y, Y1z, Y20, Y21, Y28, Y2a, AV.cells?, Nat.reduceAdd, Nat.reduceMul, by_eq]
    by_cases hd : d = c
    · subst hd
      simp only [nd0, Y1n, Y1o, Y1p, Y1q, Y1w, Y1x, Y1y, Y1z, Y20, Y21, Y28, Y2a, AV.cells?, Nat.reduceAdd, Nat.reduceMul]
      rw [sliceS_init]
      simp only [nd0, Y1n, Y1o, Y1p, Y1q, Y1w, Y1x, Y1y, Y1z, Y20, Y21, Y28, Y2a, AV.cells?, Nat.reduceAdd, Nat.reduceMul]
      exact back1.mk t.length (by simp) ⟨t, rfl, rfl, by omega, by rw [← hr, trimR_snoc]; simp⟩
    · simp only [nd0, Y1n, Y1o, Y1p, Y1q, Y1w, Y1x, Y1y, Y1z, Y20, Y21, Y28, Y2a, AV.cells?, Nat.reduceAdd, Nat.reduceMul, hd]
      exact hR _ _ (by rw [← hr, trimR_snoc]; simp [hd])

/-- cells of a set of letters -/
def tbl (p : UInt8 → Bool) : List AV := (List.range 256).map fun i => Bo (p (UInt8.ofNat i))
theorem tbl_len (p : UInt8 → Bool) : (tbl p).length = 256 := by simp [tbl]
theorem tbl_get (p : UInt8 → Bool) (c : UInt8) : (tbl p)[c.toNat]? = some (Bo (p c)) := by
  have := c.toNat_lt
  simp only [tbl, List.getElem?_map]
  rw [List.getElem?_range (by omega)]
  simp
theorem tbl_none : tbl (fun _ => false) = List.replicate 256 (Bo false) := by
  unfold tbl
  rw [List.map_const']
  simp
theorem tbl_set (p : UInt8 → Bool) (c : UInt8) : (tbl p).set c.toNat (Bo true) = tbl (fun d => p d || decide (d = c)) := by
  apply List.ext_getElem?
  intro i
  have hc := c.toNat_lt
  rw [List.getElem?_set]
  by_cases hi : i < 256
  · have h1 : (UInt8.ofNat i).toNat = i := by simp; omega
    by_cases h : c.toNat = i
    · subst h
      rw [if_pos rfl, if_pos (by rw [tbl_len]; omega), tbl_get]; simp
    · rw [if_neg h]
      have h2 : ¬ UInt8.ofNat i = c := fun e => h (by rw [← e, h1])
      have g1 := tbl_get p (UInt8.ofNat i)
      have g2 := tbl_get (fun d => p d || decide (d = c)) (UInt8.ofNat i)
      rw [h1] at g1 g2
      rw [g1, g2]; simp [h2]
  · have : ¬ c.toNat = i := by omega
    rw [if_neg this, List.getElem?_eq_none (by rw [tbl_len]; omega), List.getElem?_eq_none (by rw [tbl_len]; omega)]
theorem tbl_scalar (p : UInt8 → Bool) : (tbl p).all AV.scalar = true := by
  rw [List.all_eq_true]
  intro x hx
  obtain ⟨i, _, rfl⟩ := List.mem_map.1 hx
  rfl
theorem tbl_closed (p : UInt8 → Bool) : AV.closedL (tbl p) := closed_map (f := fun i => Bo (p (UInt8.ofNat i))) (fun _ => by trivial) _
theorem sub_all {cs : List AV} {n : Nat} (h : cs.length = n) : subL cs 0 n = some cs := by
  subst h; simp [subL]
theorem put_all {cs xs : List AV} (h : xs.length = cs.length) : putL cs 0 xs = some xs := by
  simp [putL, h]

theorem asciiHas_spec (hB : Body2 E P 14 F.pstrings_asciiSet_contains) (p : UInt8 → Bool) (c : UInt8) : FX E P 14 [.ptrF (tbl p) 0, By c] (Bo (p c)) := by
  refine FX.of' ⟨by simpa [AV.closed] using tbl_closed p, trivial, trivial⟩ trivial fun n R hR => hB _ _ _ _ ?_
  unfold F.pstrings_asciiSet_contains
  have := c.toNat_lt
  simp only [nd0, Y1n, Y1o, Y1p, Y1q, Y1w, Y1x, Y1y, Y1z, Y20, Y21, Y28, Y2a, AV.cells?, Nat.reduceAdd, Nat.reduceMul]
  rw [iaddrArr_F (by omega)]
  simp only [nd0, Y1n, Y1o, Y1p, Y1q, Y1w, Y1x, Y1y, Y1z, Y20, Y21, Y28, Y2a, AV.cells?, Nat.reduceAdd, Nat.reduceMul, tbl_get]
  exact hR _ _ rfl
/-- letters of one byte -/
def ascii (s : Str) : Prop := ∀ c ∈ s, c < 128
theorem makeSet_spec (hB : Body1 E P 8 F.strings_makeASCIISet) (s : Str) (hs : ascii s) (hl : s.length < 1099511627776) : FX E P 8 [S s] (.tup [.agg (tbl fun c => decide (c ∈ s)), Bo true]) := by
  refine FX.of' (by simp [AV.closed, AV.closedL]) (by simp [AV.closed, AV.closedL]; exact tbl_closed _) fun n R hR => hB _ _ _ ?_
  unfold F.strings_makeASCIISet
  rw [← tbl_none]
  refine wNew.L rfl ?_
  refine wLoop.one (fun m t H => ∃ pre rest, s = pre ++ rest ∧ t = Z pre.length ∧ m = rest.length ∧ H = ⟨[.cells n 256 (tbl fun c => decide (c ∈ pre))], n + 1⟩) s.length (gh1.mk ⟨[], s, rfl, rfl, rfl, by simp⟩) ?_
  rintro m t H ⟨pre, rest, rfl, rfl, rfl, rfl⟩
  simp only [nd0, Y1n, Y1o, Y1p, Y1q, Y1w, Y1x, Y1y, Y1z, Y20, Y21, Y28, Y2a, AV.cells?, Nat.reduceAdd, Nat.reduceMul]
  cases rest with
  | nil =>
    simp only [nd0, Y1n, Y1o, Y1p, Y1q, Y1w, Y1x, Y1y, Y1z, Y20, Y21, Y28, Y2a, AV.cells?, Nat.reduceAdd, Nat.reduceMul, List.append_nil, Int.lt_irrefl]
    rw [sub_all (tbl_len _)]
    simp only [nd0, Y1n, Y1o, Y1p, Y1q, Y1w, Y1x, Y1y, Y1z, Y20, Y21, Y28, Y2a, AV.cells?, Nat.reduceAdd, Nat.reduceMul]
    rw [storeN_L (tbl_len _) (tbl_scalar _)]
    simp only [nd0, Y1n, Y1o, Y1p, Y1q, Y1w, Y1x, Y1y, Y1z, Y20, Y21, Y28, Y2a, AV.cells?, Nat.reduceAdd, Nat.reduceMul]
    rw [put_all rfl]
    simp only [nd0, Y1n, Y1o, Y1p, Y1q, Y1w, Y1x, Y1y, Y1z, Y20, Y21, Y28, Y2a, AV.cells?, Nat.reduceAdd, Nat.reduceMul]
    rw [sub_all (tbl_len _)]
    simp only [nd0, Y1n, Y1o, Y1p, Y1q, Y1w, Y1x, Y1y, Y1z, Y20, Y21, Y28, Y2a, AV.cells?, Nat.reduceAdd, Nat.reduceMul, retPack, allSome]
    exact hR _ _ (by simp)
  | cons c rest =>
    have h1 : ((pre.length : Int) < ((pre ++ c :: rest).length : Int)) := by simp; omega
    simp only [nd0, Y1n, Y1o, Y1p, Y1q, Y1w, Y1x, Y1y, Y1z, Y20, Y21, Y28, Y2a, AV.cells?, Nat.reduceAdd, Nat.reduceMul, h1]
    rw [idxS (by simp)]
    have hc : c < 128 := hs c (by simp)
    have hc2 : ¬ ((128 : Int) ≤ (c.toNat : Int)) := by
      have : c.toNat < 128 := hc
      omega
    have hc3 := c.toNat_lt
    have hg : (pre ++ c :: rest)[pre.length]'(by simp) = c := by simp
    simp only [nd0, Y1n, Y1o, Y1p, Y1q, Y1w, Y1x, Y1y, Y1z, Y20, Y21, Y28, Y2a, AV.cells?, Nat.reduceAdd, Nat.reduceMul, hg, hc2]
    rw [iaddrArr_L (by omega)]
    simp only [nd0, Y1n, Y1o, Y1p, Y1q, Y1w, Y1x, Y1y, Y1z, Y20, Y21, Y28, Y2a, AV.cells?, Nat.reduceAdd, Nat.reduceMul]
    rw [store1_L rfl]
    simp only [nd0, Y1n, Y1o, Y1p, Y1q, Y1w, Y1x, Y1y, Y1z, Y20, Y21, Y28, Y2a, AV.cells?, Nat.reduceAdd, Nat.reduceMul, tbl_len]
    rw [if_pos (by omega), tbl_set]
    simp only [nd0, Y1n, Y1o, Y1p, Y1q, Y1w, Y1x, Y1y, Y1z, Y20, Y21, Y28, Y2a, AV.cells?, Nat.reduceAdd, Nat.reduceMul]
    rw [binA_succ (by simp at hl; omega)]
    simp only [nd0, Y1n, Y1o, Y1p, Y1q, Y1w, Y1x, Y1y, Y1z, Y20, Y21, Y28, Y2a, AV.cells?, Nat.reduceAdd, Nat.reduceMul]
    refine back1.mk rest.length (by simp) ⟨pre ++ [c], rest, by simp, by simp, rfl, ?_⟩
    simp

theorem trimLA_spec (hB : Body2 E P 10 F.strings_trimLeftASCII) (hc : ∀ p c, FX E P 14 [.ptrF (tbl p) 0, By c] (Bo (p c))) (s : Str) (p : UInt8 → Bool) : FX E P 10 [S s, .ptrF (tbl p) 0] (S (trimL p s)) := by
  refine FX.of' ⟨trivial, by simpa [AV.closed] using tbl_closed p, trivial⟩ trivial fun n R hR => hB _ _ _ _ ?_
  unfold F.strings_trimLeftASCII
  refine wJoin.one (fun t H => t = S (trimL p s)) ?_ (fun t H h => hR _ _ h)
  refine wLoop.one (fun m t H => ∃ r, t = S r ∧ m = r.length ∧ trimL p r = trimL p s) s.length (gh1.mk ⟨s, rfl, rfl, rfl⟩) ?_
  rintro m t H ⟨r, rfl, rfl, hr⟩
  simp only [nd0, Y1n, Y1o, Y1p, Y1q, Y1w, Y1x, Y1y, Y1z, Y20, Y21, Y28, Y2a, AV.cells?, Nat.reduceAdd, Nat.reduceMul]
  cases r with
  | nil =>
    simp only [nd0, Y1n, Y1o, Y1p, Y1q, Y1w, Y1x, Y1y, Y1z, Y20, Y21, Y28, Y2a, AV.cells?, Nat.reduceAdd, Nat.reduceMul, show ¬ ((0 : Int) < ((0 : Nat) : Int)) by simp]
    exact gh1.mk (by rw [← hr]; rfl)
  | cons d r =>
    have h1 : ((0 : Int) < ((r.length + 1 : Nat) : Int)) := by omega
    simp only [nd0, Y1n, Y1o, Y1p, Y1q, Y1w, Y1x, Y1y, Y1z, Y20, Y21, Y28, Y2a, AV.cells?, Nat.reduceAdd, Nat.reduceMul, h1]
    rw [idxS_zero]
    simp only [nd0, Y1n, Y1o, Y1p, Y1q, Y1w, Y1x, Y1y, Y1z, Y20, Y21, Y28, Y2a, AV.cells?, Nat.reduceAdd, Nat.reduceMul]
    refine wCall.fx (hc p d) fun n => ?_
    by_cases hd : p d = true
    · simp only [nd0, Y1n, Y1o, Y1p, Y1q, Y1w, Y1x, Y1y, Y1z, Y20, Y21, Y28, Y2a, AV.cells?, Nat.reduceAdd, Nat.reduceMul, hd]
      rw [sliceS_tail]
      simp only [nd0, Y1n, Y1o, Y1p, Y1q, Y1w, Y1x, Y1y, Y1z, Y20, Y21, Y28, Y2a, AV.cells?, Nat.reduceAdd, Nat.reduceMul]
      exact back1.mk r.length (by simp) ⟨r, rfl, rfl, by rw [← hr]; simp [trimL, hd]⟩
    · simp only [nd0, Y1n, Y1o, Y1p, Y1q, Y1w, Y1x, Y1y, Y1z, Y20, Y21, Y28, Y2a, AV.cells?, Nat.reduceAdd, Nat.reduceMul, hd]
      exact gh1.mk (by rw [← hr]; simp [trimL, hd])
theorem trimRA_spec (hB : Body2 E P 9 F.strings_trimRightASCII) (hc : ∀ p c, FX E P 14 [.ptrF (tbl p) 0, By c] (Bo (p c))) (s : Str) (p : UInt8 → Bool) (hs : s.length < 1099511627776) : FX E P 9 [S s, .ptrF (tbl p) 0] (S (trimR p s)) := by
  refine FX.of' ⟨trivial, by simpa [AV.closed] using tbl_closed p, trivial⟩ trivial fun n R hR => hB _ _ _ _ ?_
  unfold F.strings_trimRightASCII
  refine wJoin.one (fun t H => t = S (trimR p s)) ?_ (fun t H h => hR _ _ h)
  refine wLoop.one (fun m t H => ∃ r, t = S r ∧ m = r.length ∧ r.length ≤ s.length ∧ trimR p r = trimR p s) s.length (gh1.mk ⟨s, rfl, rfl, Nat.le_refl _, rfl⟩) ?_
  rintro m t H ⟨r, rfl, rfl, hle, hr⟩
  simp only [nd0, Y1n, Y1o, Y1p, Y1q, Y1w, Y1x, Y1y, Y1z, Y20, Y21, Y28, Y2a, AV.cells?, Nat.reduceAdd, Nat.reduceMul]
  by_cases h0 : r = []
  · subst h0
    simp only [nd0, Y1n, Y1o, Y1p, Y1q, Y1w, Y1x, Y1y, Y1z, Y20, Y21, Y28, Y2a, AV.cells?, Nat.reduceAdd, Nat.reduceMul, show ¬ ((0 : Int) < ((0 : Nat) : Int)) by simp]
    exact gh1.mk (by rw [← hr]; rfl)
  · obtain ⟨t, d, rfl⟩ := snoc_of h0
    simp only [List.length_append, List.length_singleton] at hle
    have h1 : ((0 : Int) < ((t.length + 1 : Nat) : Int)) := by omega
    have h2 : ((t.length + 1 : Nat) : Int) - 1 = (t.length : Int) := by omega
    simp only [nd0, Y1n, Y1o, Y1p, Y1q, Y1w, Y1x, Y1y, Y1z, Y20, Y21, Y28, Y2a, AV.cells?, Nat.reduceAdd, Nat.reduceMul, len_snoc, h1]
    rw [binA_sub (by omega), h2]
    simp only [nd0, Y1n, Y1o, Y1p, Y1q, Y1w, Y1x, Y1y, Y1z, Y20, Y21, Y28, Y2a, AV.cells?, Nat.reduceAdd, Nat.reduceMul]
    rw [idxS_last]
    simp only [nd0, Y1n, Y1o, Y1p, Y1q, Y1w, Y1x, Y1y, Y1z, Y20, Y21, Y28, Y2a, AV.cells?, Nat.reduceAdd, Nat.reduceMul]
    refine wCall.fx (hc p d) fun n => ?_
    by_cases hd : p d = true
    · simp only [nd0, Y1n, Y1o, Y1p, Y1q, Y1w, Y1x, Y1y, Y1z, Y20, Y21, Y28, Y2a, AV.cells?, Nat.reduceAdd, Nat.reduceMul, hd]
      rw [sliceS_init]
      simp only [nd0, Y1n, Y1o, Y1p, Y1q, Y1w, Y1x, Y1y, Y1z, Y20, Y21, Y28, Y2a, AV.cells?, Nat.reduceAdd, Nat.reduceMul]
      exact back1.mk t.length (by simp) ⟨t, rfl, rfl, by omega, by rw [← hr, trimR_snoc]; simp [hd]⟩
    · simp only [nd0, Y1n, Y1o, Y1p, Y1q, Y1w, Y1x, Y1y, Y1z, Y20, Y21, Y28, Y2a, AV.cells?, Nat.reduceAdd, Nat.reduceMul, hd]
      exact gh1.mk (by rw [← hr, trimR_snoc]; simp [hd])
end
/-- what 'Trim' leaves -/
def trim (cut s : Str) : Str := trimL (fun c => decide (c ∈ cut)) (trimR (fun c => decide (c ∈ cut)) s)
section
variable {E : Env} {P : Program}
structure TrimBodies (E : Env) (P : Program) : Prop where
  trim : Body2 E P 4 F.strings_Trim
  rb : Body2 E P 6 F.strings_trimRightByte
  lb : Body2 E P 7 F.strings_trimLeftByte
  mkSet : Body1 E P 8 F.strings_makeASCIISet
  ra : Body2 E P 9 F.strings_trimRightASCII
  la : Body2 E P 10 F.strings_trimLeftASCII
  has : Body2 E P 14 F.pstrings_asciiSet_contains
theorem Trim_spec (B : TrimBodies E P) (s cut : Str) (hc : ascii cut) (hs : s.length < 1099511627776) (hl : cut.length < 1099511627776) : FX E P 4 [S s, S cut] (S (trim cut s)) := by
  refine FX.of' (by simp [AV.closed, AV.closedL]) trivial fun n R hR => B.trim _ _ _ _ ?_
  unfold F.strings_Trim
  by_cases h1 : s = []
  · subst h1
    simp only [nd0, Y1n, Y1o, Y1p, Y1q, Y1w, Y1x, Y1y, Y1z, Y20, Y21, Y28, Y2a, AV.cells?, Nat.reduceAdd, Nat.reduceMul, show (AV.val (.string ⟨#[]⟩)) = S [] from rfl]
    exact hR _ _ rfl
  by_cases h2 : cut = []
  · subst h2
    simp only [nd0, Y1n, Y1o, Y1p, Y1q, Y1w, Y1x, Y1y, Y1z, Y20, Y21, Y28, Y2a, AV.cells?, Nat.reduceAdd, Nat.reduceMul, show (AV.val (.string ⟨#[]⟩)) = S [] from rfl, h1]
    exact hR _ _ (by
      have : ∀ l : Str, List.dropWhile (fun _ => false) l = l := fun l => by cases l <;> rfl
      simp [trim, trimL, trimR, this])
  simp only [nd0, Y1n, Y1o, Y1p, Y1q, Y1w, Y1x, Y1y, Y1z, Y20, Y21, Y28, Y2a, AV.cells?, Nat.reduceAdd, Nat.reduceMul, show (AV.val (.string ⟨#[]⟩)) = S [] from rfl, h1, h2]
  by_cases h3 : cut.length = 1
  · obtain ⟨c, rfl⟩ := List.length_eq_one_iff.1 h3
    have hc' : c < 128 := hc c (by simp)
    have hc2 : ((c.toNat : Int) < 128) := by
      have : c.toNat < 128 := hc'
      omega
    simp only [nd0, Y1n, Y1o, Y1p, Y1q, Y1w, Y1x, Y1y, Y1z, Y20, Y21, Y28, Y2a, AV.cells?, Nat.reduceAdd, Nat.reduceMul, show (((0 + 1 : Nat) : Int) = 1) from rfl, show (((1 : Nat) : Int) = 1) from rfl]
    rw [idxS_zero]
    simp only [nd0, Y1n, Y1o, Y1p, Y1q, Y1w, Y1x, Y1y, Y1z, Y20, Y21, Y28, Y2a, AV.cells?, Nat.reduceAdd, Nat.reduceMul, hc2]
    refine wCall.fx (trimRB_spec B.rb s c hs) fun n => ?_
    refine wCall.fx (trimLB_spec B.lb _ c) fun n => ?_
    exact hR _ _ (by simp [trim])
  · have : ¬ ((cut.length : Int) = 1) := by omega
    simp only [nd0, Y1n, Y1o, Y1p, Y1q, Y1w, Y1x, Y1y, Y1z, Y20, Y21, Y28, Y2a, AV.cells?, Nat.reduceAdd, Nat.reduceMul, this]
    refine wCall.fx (makeSet_spec B.mkSet cut hc hl) fun n => ?_
    simp only [nd0, Y1n, Y1o, Y1p, Y1q, Y1w, Y1x, Y1y, Y1z, Y20, Y21, Y28, Y2a, AV.cells?, Nat.reduceAdd, Nat.reduceMul]
    refine wNew.L rfl ?_
    simp only [nd0, Y1n, Y1o, Y1p, Y1q, Y1w, Y1x, Y1y, Y1z, Y20, Y21, Y28, Y2a, AV.cells?, Nat.reduceAdd, Nat.reduceMul]
    rw [storeN_L (tbl_len _) (tbl_scalar _)]
    simp only [nd0, Y1n, Y1o, Y1p, Y1q, Y1w, Y1x, Y1y, Y1z, Y20, Y21, Y28, Y2a, AV.cells?, Nat.reduceAdd, Nat.reduceMul]
    rw [put_all (by rw [tbl_len, List.length_replicate])]
    simp only [nd0, Y1n, Y1o, Y1p, Y1q, Y1w, Y1x, Y1y, Y1z, Y20, Y21, Y28, Y2a, AV.cells?, Nat.reduceAdd, Nat.reduceMul]
    have hf : ∀ n m g : Nat, FkL ⟨[.cells g 256 (tbl fun c => decide (c ∈ cut))], m⟩ S0 [.ptrL 0 0 g] [.ptrF (tbl fun c => decide (c ∈ cut)) 0] := fun n m g =>
      .cons (.ptrF 256 rfl rfl (by rw [List.drop_zero, List.take_of_length_le (by rw [tbl_len]; omega)]; exact .same _)) .nil
    refine wCall.bo (trimRA_spec B.ra (asciiHas_spec B.has) s (fun c => decide (c ∈ cut)) hs) trivial (.cons (.same _) (hf 0 _ _)) fun n1 => ?_
    refine wCall.bo (trimLA_spec B.la (asciiHas_spec B.has) _ (fun c => decide (c ∈ cut))) trivial (.cons (.same _) (hf 0 _ _)) fun n1 => ?_
    exact hR _ _ rfl
end
end Go.Sc
namespace Go.Sc
open Go
set_option linter.unusedSimpArgs false
set_option linter.unusedVariables false
def low (c : UInt8) : Bool := decide ((97 : Int) ≤ c.toNat) && decide ((c.toNat : Int) ≤ 122)
def dig (c : UInt8) : Bool := decide ((48 : Int) ≤ c.toNat) && decide ((c.toNat : Int) ≤ 57)
def nch (c : UInt8) : Bool := low c || dig c || decide ((c.toNat : Int) = 95)
def letters : Str := [97, 98, 99, 100, 101, 102, 103, 104, 105, 106, 107, 108, 109, 110, 111, 112, 113, 114, 115, 116, 117, 118, 119, 120, 121, 122, 48, 49, 50, 51, 52, 53, 54, 55, 56, 57, 95]
def words9 : List Str := [[105, 110, 112, 117, 116], [99, 111, 105, 108], [116, 105, 109, 101, 114], [99, 111, 117, 110, 116, 101, 114], [115, 101, 116], [114, 101, 115, 101, 116], [114, 117, 110], [99, 111, 117, 110, 116], [122, 101, 114, 111]]
/-- may a text be a name? -/
def nameOk : Str → Bool
  | [] => false
  | c :: r => low c && r.all nch && decide ((c :: r).length ≤ 8) && !decide ((c :: r) ∈ words9)

theorem mem_letters (c : UInt8) : decide (c ∈ letters) = nch c := by
  have : ∀ i : Fin 256, decide (UInt8.ofNat i.val ∈ letters) = nch (UInt8.ofNat i.val) := by decide +kernel
  have h := this ⟨c.toNat, c.toNat_lt⟩
  simpa using h
theorem dropWhile_nil {p : UInt8 → Bool} {s : Str} : s.dropWhile p = [] ↔ s.all p = true := by
  induction s with
  | nil => simp
  | cons c s ih =>
    simp only [List.dropWhile_cons, List.all_cons, Bool.and_eq_true]
    split
    · rename_i h; simp [h, ih]
    · rename_i h; simp [h]
theorem trim_nil {cut s : Str} : trim cut s = [] ↔ s.all (fun c => decide (c ∈ cut)) = true := by
  unfold trim trimL
  rw [dropWhile_nil]
  have : trimR (fun c => decide (c ∈ cut)) s = [] ∨ ∃ t c, trimR (fun c => decide (c ∈ cut)) s = t ++ [c] ∧ c ∉ cut ∧ c ∈ s := by
    unfold trimR
    cases h : s.reverse.dropWhile (fun c => decide (c ∈ cut)) with
    | nil => exact .inl rfl
    | cons c t =>
      refine .inr ⟨t.reverse, c, by simp, ?_, ?_⟩
      · have := List.head?_dropWhile_not (fun c => decide (c ∈ cut)) s.reverse
        rw [h] at this
        simpa using this
      · have := (List.dropWhile_sublist (fun c => decide (c ∈ cut)) (l := s.reverse)).subset (by rw [h]; exact List.mem_cons_self : c ∈ s.reverse.dropWhile _)
        simpa using this
  rcases this with h | ⟨t, c, h, hc, hs⟩
  · rw [h]
    simp only [List.all_nil, true_iff]
    have : s.reverse.dropWhile (fun c => decide (c ∈ cut)) = [] := by
      unfold trimR at h
      simpa using h
    rw [dropWhile_nil] at this
    simpa using this
  · rw [h]
    constructor
    · intro h2
      simp [hc] at h2
    · intro h2
      rw [List.all_eq_true] at h2
      have := h2 c hs
      simp [hc] at this

section
variable {E : Env} {P : Program}
structure NameBodies (E : Env) (P : Program) : Prop where
  t : TrimBodies E P
  name : Body1 E P 1 F.expr_Name
  contains : Body2 E P 5 F.slices_Contains_Lstring_string
  index : Body2 E P 13 F.slices_Index_Lstring_string
theorem Name_spec (B : NameBodies E P) (s : Str) : FX E P 1 [S s] (Bo (nameOk s)) := by
  refine FX.of' (by simp [AV.closed, AV.closedL]) trivial fun n R hR => B.name _ _ _ ?_
  unfold F.expr_Name
  cases s with
  | nil =>
    simp only [nd0, Y1n, Y1o, Y1p, Y1q, Y1w, Y1x, Y1y, Y1z, Y20, Y21, Y28, Y2a, AV.cells?, Nat.reduceAdd, Nat.reduceMul, show (AV.val (.string ⟨#[]⟩)) = S [] from rfl]
    exact hR _ _ rfl
  | cons c r =>
    simp only [nd0, Y1n, Y1o, Y1p, Y1q, Y1w, Y1x, Y1y, Y1z, Y20, Y21, Y28, Y2a, AV.cells?, Nat.reduceAdd, Nat.reduceMul, show (AV.val (.string ⟨#[]⟩)) = S [] from rfl, show ¬ (c :: r = []) by simp]
    by_cases h1 : r.length + 1 ≤ 8
    case neg =>
      have : ¬ (((r.length + 1 : Nat) : Int) ≤ 8) := by omega
      simp only [nd0, Y1n, Y1o, Y1p, Y1q, Y1w, Y1x, Y1y, Y1z, Y20, Y21, Y28, Y2a, AV.cells?, Nat.reduceAdd, Nat.reduceMul, this]
      exact hR _ _ (by simp [nameOk, h1])
    have h1' : (((r.length + 1 : Nat) : Int) ≤ 8) := by omega
    simp only [nd0, Y1n, Y1o, Y1p, Y1q, Y1w, Y1x, Y1y, Y1z, Y20, Y21, Y28, Y2a, AV.cells?, Nat.reduceAdd, Nat.reduceMul, h1']
    rw [idxS_zero]
    simp only [nd0, Y1n, Y1o, Y1p, Y1q, Y1w, Y1x, Y1y, Y1z, Y20, Y21, Y28, Y2a, AV.cells?, Nat.reduceAdd, Nat.reduceMul]
    by_cases h2 : (97 : Int) ≤ c.toNat
    case neg =>
      simp only [nd0, Y1n, Y1o, Y1p, Y1q, Y1w, Y1x, Y1y, Y1z, Y20, Y21, Y28, Y2a, AV.cells?, Nat.reduceAdd, Nat.reduceMul, h2]
      exact hR _ _ (by simp [nameOk, low, h2])
    simp only [nd0, Y1n, Y1o, Y1p, Y1q, Y1w, Y1x, Y1y, Y1z, Y20, Y21, Y28, Y2a, AV.cells?, Nat.reduceAdd, Nat.reduceMul, h2]
    rw [idxS_zero]
    simp only [nd0, Y1n, Y1o, Y1p, Y1q, Y1w, Y1x, Y1y, Y1z, Y20, Y21, Y28, Y2a, AV.cells?, Nat.reduceAdd, Nat.reduceMul]
    by_cases h3 : (c.toNat : Int) ≤ 122
    case neg =>
      simp only [nd0, Y1n, Y1o, Y1p, Y1q, Y1w, Y1x, Y1y, Y1z, Y20, Y21, Y28, Y2a, AV.cells?, Nat.reduceAdd, Nat.reduceMul, h3]
      exact hR _ _ (by simp [nameOk, low, h3])
    simp only [nd0, Y1n, Y1o, Y1p, Y1q, Y1w, Y1x, Y1y, Y1z, Y20, Y21, Y28, Y2a, AV.cells?, Nat.reduceAdd, Nat.reduceMul, h3]
    have hlow : low c = true := by simp [low]; omega
    refine wCall.fx (Trim_spec B.t (c :: r) letters (by unfold ascii; decide) (by simp; omega) (by decide)) fun n => ?_
    simp only [nd0, Y1n, Y1o, Y1p, Y1q, Y1w, Y1x, Y1y, Y1z, Y20, Y21, Y28, Y2a, AV.cells?, Nat.reduceAdd, Nat.reduceMul, show (AV.val (.string ⟨#[]⟩)) = S [] from rfl, trim_nil]
    by_cases h4 : (c :: r).all (fun c => decide (c ∈ letters)) = true
    case neg =>
      simp only [nd0, Y1n, Y1o, Y1p, Y1q, Y1w, Y1x, Y1y, Y1z, Y20, Y21, Y28, Y2a, AV.cells?, Nat.reduceAdd, Nat.reduceMul, h4]
      refine hR _ _ ?_
      simp only [mem_letters] at h4
      have : ¬ (r.all nch = true) := fun h => h4 (by rw [List.all_cons]; simp [nch, hlow]; simpa [nch] using h)
      simp [nameOk, this]
    simp only [nd0, Y1n, Y1o, Y1p, Y1q, Y1w, Y1x, Y1y, Y1z, Y20, Y21, Y28, Y2a, AV.cells?, Nat.reduceAdd, Nat.reduceMul, h4]
    have hr : r.all nch = true := by
      simp only [mem_letters] at h4
      rw [List.all_cons] at h4
      simp at h4
      simpa using h4.2
    refine wNewS.F' (l := words9.map fun s => S s) rfl rfl ?_
    refine wCall.fx (ContainsS_spec (IndexS_spec B.index) B.contains words9 (c :: r) (by decide)) fun n => ?_
    simp only [nd0, Y1n, Y1o, Y1p, Y1q, Y1w, Y1x, Y1y, Y1z, Y20, Y21, Y28, Y2a, AV.cells?, Nat.reduceAdd, Nat.reduceMul]
    exact hR _ _ (by simp [nameOk, hlow, hr, h1])

theorem NameCheck_spec (hB : Body1 E P 2 F.ref_NameCheck) (s : Str) (hs : s.length < 4611686018427387904) : FX E P 2 [S s] (Bo (nameOk s)) := by
  refine FX.of' (by simp [AV.closed, AV.closedL]) trivial fun n R hR => hB _ _ _ ?_
  unfold F.ref_NameCheck
  simp only [nd0, Y1n, Y1o, Y1p, Y1q, Y1w, Y1x, Y1y, Y1z, Y20, Y21, Y28, Y2a, AV.cells?, Nat.reduceAdd, Nat.reduceMul]
  refine wLoop.one (fun m t H => ∃ pre rest, s = pre ++ rest ∧ t = Z pre.length ∧ m = rest.length ∧ ∀ i c, pre[i]? = some c → if i = 0 then low c = true else nch c = true) s.length (gh1.mk ⟨[], s, rfl, rfl, rfl, by simp⟩) ?_
  rintro m t H ⟨pre, rest, rfl, rfl, rfl, hp⟩
  cases rest with
  | cons c rest =>
    have h1 : ((pre.length : Int) < ((pre ++ c :: rest).length : Int)) := by simp; omega
    have hg : (pre ++ c :: rest)[pre.length]'(by simp) = c := by simp
    have hbad : ¬ (if pre.length = 0 then low c = true else nch c = true) → nameOk (pre ++ c :: rest) = false := by
      intro h
      cases pre with
      | nil => simp at h; simp [nameOk, h]
      | cons d pre =>
        simp at h
        simp [nameOk, h]
    have hgo : (if pre.length = 0 then low c = true else nch c = true) → wGet (binA .add (Z pre.length) (.val (.int .i64 1))) H fun t39 H => back1 (fun m t H => ∃ pre' rest', pre ++ c :: rest = pre' ++ rest' ∧ t = Z pre'.length ∧ m = rest'.length ∧ ∀ i c, pre'[i]? = some c → if i = 0 then low c = true else nch c = true) (rest.length + 1) t39 H := by
      intro h
      rw [binA_succ (by simp at hs; omega)]
      simp only [nd0, Y1n, Y1o, Y1p, Y1q, Y1w, Y1x, Y1y, Y1z, Y20, Y21, Y28, Y2a, AV.cells?, Nat.reduceAdd, Nat.reduceMul]
      refine back1.mk rest.length (by simp) ⟨pre ++ [c], rest, by simp, by simp, rfl, fun i d hi => ?_⟩
      by_cases hil : i < pre.length
      · rw [List.getElem?_append_left hil] at hi
        exact hp i d hi
      · have hl := lt_of_get hi
        simp at hl
        have : i = pre.length := by omega
        subst this
        simp at hi
        subst hi
        exact h
    simp only [nd0, Y1n, Y1o, Y1p, Y1q, Y1w, Y1x, Y1y, Y1z, Y20, Y21, Y28, Y2a, AV.cells?, Nat.reduceAdd, Nat.reduceMul, h1]
    rw [idxS (by simp)]
    simp only [nd0, Y1n, Y1o, Y1p, Y1q, Y1w, Y1x, Y1y, Y1z, Y20, Y21, Y28, Y2a, AV.cells?, Nat.reduceAdd, Nat.reduceMul, hg]
    by_cases hlow : low c = true
    · have h2 : (97 : Int) ≤ c.toNat := by simp [low] at hlow; omega
      have h3 : (c.toNat : Int) ≤ 122 := by simp [low] at hlow; omega
      simp only [nd0, Y1n, Y1o, Y1p, Y1q, Y1w, Y1x, Y1y, Y1z, Y20, Y21, Y28, Y2a, AV.cells?, Nat.reduceAdd, Nat.reduceMul, h2, h3]
      exact hgo (by split <;> simp [nch, hlow])
    · have hlow' : (if (decide ((97 : Int) ≤ c.toNat)) = true then (decide ((c.toNat : Int) ≤ 122)) else false) = false := by
        simp only [low, Bool.and_eq_true, decide_eq_true_eq, not_and] at hlow
        split <;> simp_all
      have hp2 : ∀ K : Kt, (∀ b, K (Bo b) H) → True := fun _ _ => trivial
      have key : ∀ K : Kt, K (Bo false) H → (wGuard (Bo (decide ((97 : Int) ≤ c.toNat))) true H (fun k => k (By c) H) fun t17 H =>
          wGuard (Bo (decide ((97 : Int) ≤ c.toNat))) true H (fun k => wGet (binA .leq t17 (.val (.int .u8 122))) H k) fun t18 H =>
          wGet (pickA (Bo (decide ((97 : Int) ≤ c.toNat))) t18 (.val (.bool false))) H K) := by
        intro K hK
        by_cases h2 : (97 : Int) ≤ c.toNat
        · have h3 : ¬ (c.toNat : Int) ≤ 122 := fun h => hlow (by simp [low]; omega)
          simp only [nd0, Y1n, Y1o, Y1p, Y1q, Y1w, Y1x, Y1y, Y1z, Y20, Y21, Y28, Y2a, AV.cells?, Nat.reduceAdd, Nat.reduceMul, h2, h3]; exact hK
        · simp only [nd0, Y1n, Y1o, Y1p, Y1q, Y1w, Y1x, Y1y, Y1z, Y20, Y21, Y28, Y2a, AV.cells?, Nat.reduceAdd, Nat.reduceMul, h2]; exact hK
      refine key _ ?_
      simp only [nd0, Y1n, Y1o, Y1p, Y1q, Y1w, Y1x, Y1y, Y1z, Y20, Y21, Y28, Y2a, AV.cells?, Nat.reduceAdd, Nat.reduceMul]
      by_cases h0 : pre.length = 0
      · have h0' : ((pre.length : Int) = 0) := by omega
        simp only [nd0, Y1n, Y1o, Y1p, Y1q, Y1w, Y1x, Y1y, Y1z, Y20, Y21, Y28, Y2a, AV.cells?, Nat.reduceAdd, Nat.reduceMul, h0']
        exact hR _ _ (by rw [hbad (by simp [h0, hlow])])
      · have h0' : ¬ ((pre.length : Int) = 0) := by omega
        simp only [nd0, Y1n, Y1o, Y1p, Y1q, Y1w, Y1x, Y1y, Y1z, Y20, Y21, Y28, Y2a, AV.cells?, Nat.reduceAdd, Nat.reduceMul, h0']
        by_cases h5 : (48 : Int) ≤ c.toNat
        · by_cases h6 : (c.toNat : Int) ≤ 57
          · simp only [nd0, Y1n, Y1o, Y1p, Y1q, Y1w, Y1x, Y1y, Y1z, Y20, Y21, Y28, Y2a, AV.cells?, Nat.reduceAdd, Nat.reduceMul, h5, h6]
            exact hgo (by simp [h0, nch, dig]; omega)
          · by_cases h7 : (c.toNat : Int) = 95
            · simp only [nd0, Y1n, Y1o, Y1p, Y1q, Y1w, Y1x, Y1y, Y1z, Y20, Y21, Y28, Y2a, AV.cells?, Nat.reduceAdd, Nat.reduceMul, h5, h6, decide_eq_true h7]
              exact hgo (by simp [h0, nch, h7])
            · simp only [nd0, Y1n, Y1o, Y1p, Y1q, Y1w, Y1x, Y1y, Y1z, Y20, Y21, Y28, Y2a, AV.cells?, Nat.reduceAdd, Nat.reduceMul, h5, h6, h7]
              exact hR _ _ (by rw [hbad (by simp [h0, nch, dig, hlow]; omega)])
        · have h7 : ¬ (c.toNat : Int) = 95 := by omega
          simp only [nd0, Y1n, Y1o, Y1p, Y1q, Y1w, Y1x, Y1y, Y1z, Y20, Y21, Y28, Y2a, AV.cells?, Nat.reduceAdd, Nat.reduceMul, h5, h7]
          exact hR _ _ (by rw [hbad (by simp [h0, nch, dig, hlow]; omega)])
  | nil =>
    simp only [List.append_nil] at *
    simp only [nd0, Y1n, Y1o, Y1p, Y1q, Y1w, Y1x, Y1y, Y1z, Y20, Y21, Y28, Y2a, AV.cells?, Nat.reduceAdd, Nat.reduceMul, Int.lt_irrefl]
    refine wJoin.one (fun t H => t = Bo (decide (pre ∈ [] :: words9))) ?_ ?_
    · have key : ∀ (H : AH) b, b = decide (pre ∈ [] :: words9) → gh1 (fun t H => t = Bo (decide (pre ∈ [] :: words9))) (Bo b) H := fun H b e => gh1.mk (by rw [e])
      repeat' (refine wIf.dec (fun h => ?_) (fun h => ?_))
      all_goals exact key _ _ (by simp [words9, *])
    · rintro t H rfl
      have hall : ∀ c r, pre = c :: r → low c = true ∧ r.all nch = true := by
        rintro c r rfl
        refine ⟨by simpa using hp 0 c rfl, ?_⟩
        rw [List.all_eq_true]
        intro d hd
        obtain ⟨i, hi, rfl⟩ := List.getElem_of_mem hd
        have := hp (i + 1) r[i] (by simp [hi])
        simpa using this
      by_cases hw : pre ∈ [] :: words9
      · simp only [nd0, Y1n, Y1o, Y1p, Y1q, Y1w, Y1x, Y1y, Y1z, Y20, Y21, Y28, Y2a, AV.cells?, Nat.reduceAdd, Nat.reduceMul, hw]
        refine hR _ _ ?_
        cases pre with
        | nil => rfl
        | cons c r => simp at hw; simp [nameOk, hw]
      · simp only [nd0, Y1n, Y1o, Y1p, Y1q, Y1w, Y1x, Y1y, Y1z, Y20, Y21, Y28, Y2a, AV.cells?, Nat.reduceAdd, Nat.reduceMul, hw]
        refine hR _ _ ?_
        cases pre with
        | nil => simp at hw
        | cons c r =>
          obtain ⟨h1, h2⟩ := hall c r rfl
          simp at hw
          simp [nameOk, h1, h2, hw]
          omega
end
end Go.Sc
namespace Go.Sc
open Go
set_option linter.unusedSimpArgs false
set_option linter.unusedVariables false
inductive Ex where
  | k (b : Bool)
  | bit (s : Str)
  | rise (s : Str)
  | fall (s : Str)
  | not (x : Ex)
  | and (l : List Ex)
  | or (l : List Ex)
  deriving Inhabited
inductive Rs (α : Type) where
  | ok (x : α) (i : Nat)
  | no (e p : Nat)

/-! ### what is read -/
def skipTo (s : Str) (i : Nat) : Nat := i + ((s.drop i).takeWhile (· == 32)).length
theorem skipTo_le (s : Str) (i : Nat) : i ≤ skipTo s i := by unfold skipTo; omega
theorem skipTo_len {s : Str} {i : Nat} (h : i ≤ s.length) : skipTo s i ≤ s.length := by
  have h1 := List.IsPrefix.length_le (List.takeWhile_prefix (fun c : UInt8 => c == 32) (l := s.drop i))
  rw [List.length_drop] at h1
  unfold skipTo; omega
theorem skipTo_step {s : Str} {i : Nat} (h : s[i]? = some 32) : skipTo s i = skipTo s (i + 1) := by
  have hl := lt_of_get h
  rw [List.getElem?_eq_getElem hl] at h
  injection h with h
  unfold skipTo
  rw [List.drop_eq_getElem_cons hl, h, List.takeWhile_cons]
  simp; omega
theorem skipTo_stop {s : Str} {i : Nat} (h : s[i]? ≠ some 32) : skipTo s i = i := by
  unfold skipTo
  by_cases hl : i < s.length
  · rw [List.getElem?_eq_getElem hl] at h
    rw [List.drop_eq_getElem_cons hl, List.takeWhile_cons]
    have : ¬ s[i] = 32 := fun e => h (by rw [e])
    simp [this]
  · rw [List.drop_eq_nil_of_le (by omega)]; simp
theorem skipTo_at (s : Str) (i : Nat) : s[skipTo s i]? ≠ some 32 := by
  generalize hn : s.length - i = n
  induction n generalizing i with
  | zero =>
    have : skipTo s i = i := skipTo_stop (by rw [List.getElem?_eq_none (by omega)]; simp)
    rw [this, List.getElem?_eq_none (by omega)]; simp
  | succ n ih =>
    by_cases h : s[i]? = some 32
    · rw [skipTo_step h]; exact ih _ (by omega)
    · rw [skipTo_stop h]; exact h
theorem skipTo_idem (s : Str) (i : Nat) : skipTo s (skipTo s i) = skipTo s i := skipTo_stop (skipTo_at s i)

def stop9 : Str := [32, 38, 124, 33, 94, 126, 40, 41, 61]
def stop11 : Str := [32, 38, 124, 33, 94, 126, 40, 41, 48, 49, 61]
/-- does a word that begins at i go on at k? -/
def wc (s : Str) (i k : Nat) : Bool := match s[k]? with
  | none => false
  | some c => !decide (c ∈ stop9) && (decide (i < k) || (!decide (c = 48) && !decide (c = 49)))
theorem wc_lt {s : Str} {i k : Nat} (h : wc s i k = true) : k < s.length := by
  unfold wc at h
  split at h
  · cases h
  · rename_i h1; exact lt_of_get h1
def wEnd (s : Str) (i k : Nat) : Nat := if h : wc s i k = true then wEnd s i (k + 1) else k
termination_by s.length - k
decreasing_by have := wc_lt h; omega
theorem wEnd_step {s : Str} {i k : Nat} (h : wc s i k = true) : wEnd s i k = wEnd s i (k + 1) := by rw [wEnd, dif_pos h]
theorem wEnd_stop {s : Str} {i k : Nat} (h : wc s i k = false) : wEnd s i k = k := by rw [wEnd, dif_neg (by rw [h]; simp)]
theorem wEnd_ge (s : Str) (i k : Nat) : k ≤ wEnd s i k := by
  generalize hn : s.length - k = n
  induction n generalizing k with
  | zero =>
    have : wc s i k = false := by
      cases h : wc s i k
      · rfl
      · have := wc_lt h; omega
    rw [wEnd_stop this]; exact Nat.le_refl _
  | succ n ih =>
    cases h : wc s i k with
    | false => rw [wEnd_stop h]; exact Nat.le_refl _
    | true => rw [wEnd_step h]; have := ih (k + 1) (by omega); omega
theorem wEnd_len {s : Str} {i k : Nat} (hk : k ≤ s.length) : wEnd s i k ≤ s.length := by
  generalize hn : s.length - k = n
  induction n generalizing k with
  | zero =>
    have : wc s i k = false := by
      cases h : wc s i k
      · rfl
      · have := wc_lt h; omega
    rw [wEnd_stop this]; exact hk
  | succ n ih =>
    cases h : wc s i k with
    | false => rw [wEnd_stop h]; exact hk
    | true => rw [wEnd_step h]; exact ih (by have := wc_lt h; omega) (by omega)
def wordAt (s : Str) (i : Nat) : Str := (s.take (wEnd s i i)).drop i
/-- a name -/
def wordR (s : Str) (i : Nat) : Rs Str :=
  if wordAt s (skipTo s i) = [] then .no 3 (skipTo s i) else if nameOk (wordAt s (skipTo s i)) = false then .no 5 (skipTo s i) else .ok (wordAt s (skipTo s i)) (wEnd s (skipTo s i) (skipTo s i))

/-- parts with a sign between -/
def rowR (s : Str) (c : UInt8) (f : Nat → Rs Ex) : Nat → Nat → List Ex → Rs (List Ex)
  | 0, i, _ => .no 3 i
  | n + 1, i, l => match f i with
    | .no e p => .no e p
    | .ok x j => if s[skipTo s j]? = some c then rowR s c f n (skipTo s j + 1) (l ++ [x]) else .ok (l ++ [x]) (skipTo s j)
def foldR (mk : List Ex → Ex) : List Ex → Ex
  | [x] => x
  | l => mk l
def allR (s : Str) (c : UInt8) (mk : List Ex → Ex) (f : Nat → Rs Ex) (i : Nat) : Rs Ex := match rowR s c f (s.length + 1) i [] with
  | .ok l j => .ok (foldR mk l) j
  | .no e p => .no e p
def andR (s : Str) (f : Nat → Rs Ex) : Nat → Rs Ex := allR s 38 .and f
def orR (s : Str) (f : Nat → Rs Ex) : Nat → Rs Ex := allR s 124 .or (andR s f)
def Rs.map {α β : Type} (g : α → β) : Rs α → Rs β
  | .ok x j => .ok (g x) j
  | .no e p => .no e p
def closeR (s : Str) : Rs Ex → Rs Ex
  | .ok x j => if s[skipTo s j]? = some 41 then .ok x (skipTo s j + 1) else .no 3 (skipTo s j)
  | .no e p => .no e p
/-- a contact, or what stands in parentheses -/
def oneR (s : Str) : Nat → Nat → Rs Ex
  | 0, i => .no 4 (skipTo s i)
  | d + 1, i =>
    if s[skipTo s i]? = some 33 then (oneR s d (skipTo s i + 1)).map .not
    else if s[skipTo s i]? = some 40 then closeR s (orR s (oneR s d) (skipTo s i + 1))
    else if s[skipTo s i]? = some 48 then .ok (.k false) (skipTo s i + 1)
    else if s[skipTo s i]? = some 49 then .ok (.k true) (skipTo s i + 1)
    else if s[skipTo s i]? = some 94 then (wordR s (skipTo s i + 1)).map .rise
    else if s[skipTo s i]? = some 126 then (wordR s (skipTo s i + 1)).map .fall
    else (wordR s (skipTo s i)).map .bit
/-- a whole expression: its error without a place is `inl` -/
def parseR (s : Str) : Rs Ex := match orR s (oneR s 20) 0 with
  | .no e p => .no e p
  | .ok x j => if skipTo s j < s.length then .no 3 (skipTo s j) else .ok x (skipTo s j)

/-! ### how great it is -/
mutual
def Ex.wt : Ex → Nat
  | .k _ => 1
  | .bit s => s.length
  | .rise s => s.length + 1
  | .fall s => s.length + 1
  | .not x => x.wt + 1
  | .and l => Ex.wtL l + 3 * l.length + 2
  | .or l => Ex.wtL l + 3 * l.length + 2
def Ex.wtL : List Ex → Nat
  | [] => 0
  | x :: l => x.wt + Ex.wtL l
end
/- names may be, and there are two parts or more -/
mutual
def Ex.fine : Ex → Prop
  | .k _ => True
  | .bit s => nameOk s = true
  | .rise s => nameOk s = true
  | .fall s => nameOk s = true
  | .not x => x.fine
  | .and l => 2 ≤ l.length ∧ Ex.fineL l
  | .or l => 2 ≤ l.length ∧ Ex.fineL l
def Ex.fineL : List Ex → Prop
  | [] => True
  | x :: l => x.fine ∧ Ex.fineL l
end
/-- what a reader comes to: on, and not too great -/
def GoodR (s : Str) (f : Nat → Rs Ex) : Prop := ∀ i x j, i ≤ s.length → f i = .ok x j → i ≤ j ∧ j ≤ s.length ∧ x.wt ≤ 8 * (j - i) ∧ x.fine
theorem wordR_good {s w : Str} {i j : Nat} (hi : i ≤ s.length) (h : wordR s i = .ok w j) : i ≤ j ∧ j ≤ s.length ∧ w.length ≤ j - i ∧ nameOk w = true := by
  unfold wordR at h
  split at h
  · cases h
  split at h
  · cases h
  · rename_i h1 h2
    injection h with h3 h4
    subst h3 h4
    have a1 := skipTo_le s i
    have a2 := skipTo_len hi
    have a3 := wEnd_ge s (skipTo s i) (skipTo s i)
    have a4 := wEnd_len (i := skipTo s i) a2
    refine ⟨by omega, a4, ?_, by simpa using h2⟩
    simp only [wordAt, List.length_drop, List.length_take]
    omega
theorem rowR_good {s : Str} {c : UInt8} {f : Nat → Rs Ex} (hf : GoodR s f) : ∀ (n i : Nat) (l : List Ex) {l' : List Ex} {j : Nat}, i ≤ s.length → rowR s c f n i l = .ok l' j →
    ∃ l1, l' = l ++ l1 ∧ l1 ≠ [] ∧ i ≤ j ∧ j ≤ s.length ∧ Ex.wtL l1 + 8 * (l1.length - 1) ≤ 8 * (j - i) ∧ Ex.fineL l1
  | 0, i, l, l', j, hi, h => by simp [rowR] at h
  | n + 1, i, l, l', j, hi, h => by
    unfold rowR at h
    split at h
    · cases h
    · rename_i x k hx
      obtain ⟨a1, a2, a3, a4⟩ := hf i x k hi hx
      have b1 := skipTo_le s k
      have b2 := skipTo_len a2
      split at h
      · rename_i hc
        have hlt := lt_of_get hc
        obtain ⟨l1, rfl, c1, c2, c3, c4, c5⟩ := rowR_good hf n (skipTo s k + 1) (l ++ [x]) (by omega) h
        refine ⟨x :: l1, by simp, by simp, by omega, c3, ?_, by simp only [Ex.fineL]; exact ⟨a4, c5⟩⟩
        have : 0 < l1.length := List.length_pos_iff.2 c1
        simp only [Ex.wtL, List.length_cons]
        omega
      · injection h with h1 h2
        subst h1 h2
        exact ⟨[x], rfl, by simp, by omega, b2, by simp [Ex.wtL]; omega, by simp [Ex.fineL, a4]⟩
theorem allR_good {s : Str} {c : UInt8} {mk : List Ex → Ex} {f : Nat → Rs Ex} (hm : ∀ l, (mk l).wt = Ex.wtL l + 3 * l.length + 2) (hm2 : ∀ l, 2 ≤ l.length → Ex.fineL l → (mk l).fine) (hf : GoodR s f) : GoodR s (allR s c mk f) := by
  intro i x j hi h
  unfold allR at h
  split at h
  · rename_i l k hl
    injection h with h1 h2
    subst h1 h2
    obtain ⟨l1, rfl, c1, c2, c3, c4, c5⟩ := rowR_good hf _ _ _ hi hl
    refine ⟨c2, c3, ?_⟩
    cases l with
    | nil => exact absurd rfl c1
    | cons y l2 =>
      cases l2 with
      | nil => exact ⟨by simpa [foldR, Ex.wtL] using c4, by simpa [foldR, Ex.fineL] using c5⟩
      | cons z l3 =>
        refine ⟨?_, hm2 _ (by simp) c5⟩
        show (mk (y :: z :: l3)).wt ≤ _
        rw [hm]
        simp only [List.length_cons] at c4 ⊢
        omega
  · cases h
theorem andR_good {s : Str} {f : Nat → Rs Ex} (hf : GoodR s f) : GoodR s (andR s f) := allR_good (fun _ => rfl) (fun _ h1 h2 => ⟨h1, h2⟩) hf
theorem orR_good {s : Str} {f : Nat → Rs Ex} (hf : GoodR s f) : GoodR s (orR s f) := allR_good (fun _ => rfl) (fun _ h1 h2 => ⟨h1, h2⟩) (andR_good hf)
theorem map_ok {α β : Type} {g : α → β} {r : Rs α} {y : β} {j : Nat} (h : r.map g = .ok y j) : ∃ x, r = .ok x j ∧ y = g x := by
  cases r with
  | ok x k => injection h with h1 h2; subst h1 h2; exact ⟨x, rfl, rfl⟩
  | no e p => cases h
theorem oneR_good (s : Str) : ∀ d, GoodR s (oneR s d)
  | 0, i, x, j, hi, h => by simp [oneR] at h
  | d + 1, i, x, j, hi, h => by
    have ih := oneR_good s d
    have b1 := skipTo_le s i
    have b2 := skipTo_len hi
    unfold oneR at h
    split at h
    · rename_i hc
      have hlt := lt_of_get hc
      obtain ⟨y, hy, rfl⟩ := map_ok h
      obtain ⟨a1, a2, a3, a4⟩ := ih _ _ _ (by omega) hy
      exact ⟨by omega, a2, by simp only [Ex.wt]; omega, a4⟩
    split at h
    · rename_i hc
      have hlt := lt_of_get hc
      cases ho : orR s (oneR s d) (skipTo s i + 1) with
      | no e p => rw [ho] at h; cases h
      | ok y k =>
        rw [ho] at h
        obtain ⟨a1, a2, a3, a4⟩ := orR_good ih _ _ _ (by omega) ho
        simp only [closeR] at h
        split at h
        · rename_i hc2
          have hlt2 := lt_of_get hc2
          have := skipTo_le s k
          injection h with h1 h2
          subst h1 h2
          exact ⟨by omega, by omega, by omega, a4⟩
        · cases h
    split at h
    · rename_i hc
      have hlt := lt_of_get hc
      injection h with h1 h2
      subst h1 h2
      exact ⟨by omega, by omega, by simp only [Ex.wt]; omega, trivial⟩
    split at h
    · rename_i hc
      have hlt := lt_of_get hc
      injection h with h1 h2
      subst h1 h2
      exact ⟨by omega, by omega, by simp only [Ex.wt]; omega, trivial⟩
    split at h
    · rename_i hc
      have hlt := lt_of_get hc
      obtain ⟨y, hy, rfl⟩ := map_ok h
      obtain ⟨a1, a2, a3, a4⟩ := wordR_good (by omega) hy
      exact ⟨by omega, a2, by simp only [Ex.wt]; omega, a4⟩
    split at h
    · rename_i hc
      have hlt := lt_of_get hc
      obtain ⟨y, hy, rfl⟩ := map_ok h
      obtain ⟨a1, a2, a3, a4⟩ := wordR_good (by omega) hy
      exact ⟨by omega, a2, by simp only [Ex.wt]; omega, a4⟩
    · obtain ⟨y, hy, rfl⟩ := map_ok h
      obtain ⟨a1, a2, a3, a4⟩ := wordR_good b2 hy
      exact ⟨by omega, a2, by simp only [Ex.wt]; omega, a4⟩
theorem parseR_good {s : Str} {x : Ex} {j : Nat} (h : parseR s = .ok x j) : x.wt ≤ 8 * s.length ∧ x.fine := by
  unfold parseR at h
  split at h
  · cases h
  · rename_i y k hy
    obtain ⟨a1, a2, a3, a4⟩ := orR_good (oneR_good s 20) 0 y k (by omega) hy
    split at h
    · cases h
    · injection h with h1 _
      subst h1
      exact ⟨by omega, a4⟩
/-- errors are none that is nought -/
def ErrR (f : Nat → Rs Ex) : Prop := ∀ i e p, f i = .no e p → e ≠ 0
theorem wordR_err {s : Str} {i e p : Nat} (h : wordR s i = .no e p) : e ≠ 0 := by
  unfold wordR at h
  split at h
  · injection h with h1; omega
  split at h
  · injection h with h1; omega
  · cases h
theorem rowR_err {s : Str} {c : UInt8} {f : Nat → Rs Ex} (hf : ErrR f) : ∀ (n i : Nat) (l : List Ex) {e p : Nat}, rowR s c f n i l = .no e p → e ≠ 0
  | 0, i, l, e, p, h => by simp only [rowR] at h; injection h with h1; omega
  | n + 1, i, l, e, p, h => by
    unfold rowR at h
    split at h
    · rename_i e' p' hx
      injection h with h1 h2
      subst h1
      exact hf _ _ _ hx
    · split at h
      · exact rowR_err hf n _ _ h
      · cases h
theorem allR_err {s : Str} {c : UInt8} {mk : List Ex → Ex} {f : Nat → Rs Ex} (hf : ErrR f) : ErrR (allR s c mk f) := by
  intro i e p h
  unfold allR at h
  split at h
  · cases h
  · rename_i e' p' hx
    injection h with h1 h2
    subst h1
    exact rowR_err hf _ _ _ hx
theorem map_no {α β : Type} {g : α → β} {r : Rs α} {e p : Nat} (h : r.map g = .no e p) : r = .no e p := by
  cases r with
  | ok x k => cases h
  | no e' p' => injection h with h1 h2; rw [h1, h2]
theorem oneR_err (s : Str) : ∀ d, ErrR (oneR s d)
  | 0, i, e, p, h => by simp only [oneR] at h; injection h with h1; omega
  | d + 1, i, e, p, h => by
    have ih := oneR_err s d
    unfold oneR at h
    split at h
    · exact ih _ _ _ (map_no h)
    split at h
    · cases ho : orR s (oneR s d) (skipTo s i + 1) with
      | no e' p' =>
        rw [ho] at h
        simp only [closeR] at h
        injection h with h1 h2
        subst h1
        exact allR_err (allR_err ih) _ _ _ ho
      | ok y k =>
        rw [ho] at h
        simp only [closeR] at h
        split at h
        · cases h
        · injection h with h1; omega
    split at h
    · cases h
    split at h
    · cases h
    split at h
    · exact wordR_err (map_no h)
    split at h
    · exact wordR_err (map_no h)
    · exact wordR_err (map_no h)
theorem parseR_err {s : Str} {e p : Nat} (h : parseR s = .no e p) : e ≠ 0 := by
  unfold parseR at h
  split at h
  · rename_i e' p' hx
    injection h with h1 h2
    subst h1
    exact allR_err (allR_err (oneR_err s 20)) _ _ _ hx
  · split at h
    · injection h with h1; omega
    · cases h
/-! ### how it is written -/
def joinS (sep : Str) : List Str → Str
  | [] => []
  | [x] => x
  | x :: y :: l => x ++ sep ++ joinS sep (y :: l)
def around (b : Bool) (t : Str) : Str := if b then 40 :: t ++ [41] else t
mutual
def Ex.wr : Nat → Ex → Str
  | _, .k b => if b then [49] else [48]
  | _, .bit s => s
  | _, .rise s => 94 :: s
  | _, .fall s => 126 :: s
  | _, .not x => 33 :: Ex.wr 2 x
  | st, .and l => around (decide (2 ≤ st)) (joinS [32, 38, 32] (Ex.wrL 2 l))
  | st, .or l => around (decide (1 ≤ st)) (joinS [32, 124, 32] (Ex.wrL 1 l))
def Ex.wrL : Nat → List Ex → List Str
  | _, [] => []
  | st, x :: l => Ex.wr st x :: Ex.wrL st l
end
/-! ### as values -/
mutual
/-- the program's -/
def Ex.enc : Ex → AV
  | .k b => .ifc 11 (Bo b)
  | .bit s => .ifc 14 (S s)
  | .rise s => .ifc 12 (S s)
  | .fall s => .ifc 13 (S s)
  | .not x => .ifc 10 (.agg [x.enc])
  | .and l => .ifc 9 (.slN (Ex.encL l) l.length)
  | .or l => .ifc 8 (.slN (Ex.encL l) l.length)
def Ex.encL : List Ex → List AV
  | [] => []
  | x :: l => x.enc :: Ex.encL l
end
mutual
/-- the document's -/
def Ex.ref : Ex → AV
  | .k b => .ptrF [S (if b then [49] else [48]), S [], nilS] 0
  | .bit s => .ptrF [S [98, 105, 116], S s, nilS] 0
  | .rise s => .ptrF [S [94], S s, nilS] 0
  | .fall s => .ptrF [S [126], S s, nilS] 0
  | .not x => .ptrF [S [33], S [], .slN [x.ref] 1] 0
  | .and l => .ptrF [S [38], S [], .slN (Ex.refL l) l.length] 0
  | .or l => .ptrF [S [124], S [], .slN (Ex.refL l) l.length] 0
def Ex.refL : List Ex → List AV
  | [] => []
  | x :: l => x.ref :: Ex.refL l
end
theorem Ex.encL_map : ∀ l : List Ex, Ex.encL l = l.map Ex.enc
  | [] => rfl
  | x :: l => by simp [Ex.encL, Ex.encL_map l]
theorem Ex.refL_map : ∀ l : List Ex, Ex.refL l = l.map Ex.ref
  | [] => rfl
  | x :: l => by simp [Ex.refL, Ex.refL_map l]
mutual
theorem Ex.enc_closed : ∀ x : Ex, x.enc.closed
  | .k _ => trivial
  | .bit _ => trivial
  | .rise _ => trivial
  | .fall _ => trivial
  | .not x => by simp only [Ex.enc, AV.closed, AV.closedL]; exact ⟨Ex.enc_closed x, trivial⟩
  | .and l => Ex.encL_closed l
  | .or l => Ex.encL_closed l
theorem Ex.encL_closed : ∀ l : List Ex, AV.closedL (Ex.encL l)
  | [] => trivial
  | x :: l => ⟨Ex.enc_closed x, Ex.encL_closed l⟩
end
mutual
theorem Ex.ref_closed : ∀ x : Ex, x.ref.closed
  | .k _ => ⟨trivial, trivial, trivial, trivial⟩
  | .bit _ => ⟨trivial, trivial, trivial, trivial⟩
  | .rise _ => ⟨trivial, trivial, trivial, trivial⟩
  | .fall _ => ⟨trivial, trivial, trivial, trivial⟩
  | .not x => by simp only [Ex.ref, AV.closed, AV.closedL]; exact ⟨trivial, trivial, ⟨Ex.ref_closed x, trivial⟩, trivial⟩
  | .and l => ⟨trivial, trivial, Ex.refL_closed l, trivial⟩
  | .or l => ⟨trivial, trivial, Ex.refL_closed l, trivial⟩
theorem Ex.refL_closed : ∀ l : List Ex, AV.closedL (Ex.refL l)
  | [] => trivial
  | x :: l => ⟨Ex.ref_closed x, Ex.refL_closed l⟩
end
theorem Ex.enc_scalar (x : Ex) : x.enc.scalar = true := by cases x <;> rfl
theorem Ex.ref_scalar (x : Ex) : x.ref.scalar = true := by cases x <;> rfl
end Go.Sc
