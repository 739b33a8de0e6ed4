/- PLAIN LAWS OF CLAUSES: what spreads is so of all values that hold; the first values, true ahead of false. CONTRACTS: package gate: the solver. (of the seat YtpjddempmcphjaaDoor) -/
import Derived.Test.YtpjddempmcphjaaDoorCore6
namespace Go.Sc
open Go
set_option linter.unusedSimpArgs false
set_option linter.unnecessarySimpa false
set_option linter.unusedVariables false

/-- what a literal comes to: 1, -1, or 0 -/
def lv (of : List Int) (x : Int) : Int := if x < 0 then - cell of (-x).toNat else cell of x.toNat
def lh (a : Nat → Bool) (x : Int) : Bool := if x < 0 then !a (-x).toNat else a x.toNat
def Sats (a : Nat → Bool) (all : List (List Int)) : Prop := ∀ c ∈ all, ∃ x ∈ c, lh a x = true
def okLit (V : Nat) (x : Int) : Prop := x ≠ 0 ∧ -(V : Int) ≤ x ∧ x ≤ V
def vr (x : Int) : Nat := x.natAbs
def litSet (of : List Int) (x : Int) : List Int := of.set (vr x) (if x < 0 then -1 else 1)
structure Sol (V : Nat) (of : List Int) : Prop where
  len : of.length = V + 1
  val : ∀ i, cell of i = 0 ∨ cell of i = 1 ∨ cell of i = -1
def Exts (V : Nat) (a : Nat → Bool) (of : List Int) : Prop := ∀ i, 1 ≤ i → i ≤ V → (cell of i = 1 → a i = true) ∧ (cell of i = -1 → a i = false)
def opens (V : Nat) (of : List Int) : Nat := (List.range V).countP fun i => decide (cell of (i + 1) = 0)
def Grow (V : Nat) (of tr of' tr' : List Int) : Prop :=
  ∃ new : List Int, tr' = tr ++ new ∧ (∀ t ∈ new, 1 ≤ t ∧ t ≤ V ∧ cell of t.toNat = 0 ∧ cell of' t.toNat ≠ 0) ∧ ∀ i : Nat, (i : Int) ∉ new → cell of' i = cell of i
theorem Grow.refl (V : Nat) (of tr : List Int) : Grow V of tr of tr := ⟨[], by simp, by simp, by simp⟩
theorem Grow.trans {V : Nat} {a ta b tb c tc : List Int} (h : Grow V a ta b tb) (k : Grow V b tb c tc) : Grow V a ta c tc := by
  obtain ⟨n1, rfl, h2, h3⟩ := h
  obtain ⟨n2, rfl, k2, k3⟩ := k
  refine ⟨n1 ++ n2, by simp, fun t ht => ?_, fun i hi => ?_⟩
  · rcases List.mem_append.1 ht with h | h
    · obtain ⟨q1, q2, q3, q4⟩ := h2 t h
      refine ⟨q1, q2, q3, ?_⟩
      by_cases hm : t ∈ n2
      · exact absurd (k2 t hm).2.2.1 q4
      · rw [k3 t.toNat (by rw [Int.toNat_of_nonneg (by omega)]; exact hm)]; exact q4
    · obtain ⟨q1, q2, q3, q4⟩ := k2 t h
      refine ⟨q1, q2, ?_, q4⟩
      by_cases hm : t ∈ n1
      · exact absurd q3 (h2 t hm).2.2.2
      · rw [← h3 t.toNat (by rw [Int.toNat_of_nonneg (by omega)]; exact hm)]; exact q3
  · simp only [List.mem_append, not_or] at hi
    rw [k3 i hi.2, h3 i hi.1]
theorem cell_set {l : List Int} {i j : Nat} {v : Int} (h : i < l.length) : cell (l.set i v) j = if j = i then v else cell l j := by
  unfold cell
  by_cases e : j = i
  · subst e; simp [h]
  · rw [if_neg e, List.getElem?_set_ne (fun h => e h.symm)]
theorem vr_lt {V : Nat} {x : Int} (h : okLit V x) : 1 ≤ vr x ∧ vr x ≤ V := by unfold okLit vr at *; omega
theorem lv_vr {of : List Int} {x : Int} (h : x ≠ 0) : lv of x = 0 ↔ cell of (vr x) = 0 := by
  unfold lv vr
  by_cases hx : x < 0
  · rw [if_pos hx, show x.natAbs = (-x).toNat by omega]; omega
  · rw [if_neg hx, show x.natAbs = x.toNat by omega]
theorem Sol.set {V : Nat} {of : List Int} {x : Int} (h : Sol V of) (hx : okLit V x) : Sol V (litSet of x) := by
  have hl := h.len
  have := vr_lt hx
  refine ⟨by simp [litSet, h.len], fun i => ?_⟩
  unfold litSet
  rw [cell_set (by omega)]
  split
  · split <;> simp
  · exact h.val i
theorem Grow.set {V : Nat} {of tr : List Int} {x : Int} (hs : Sol V of) (hx : okLit V x) (h0 : lv of x = 0) : Grow V of tr (litSet of x) (tr ++ [(vr x : Int)]) := by
  have hl := hs.len
  have hv := vr_lt hx
  refine ⟨[(vr x : Int)], rfl, fun t ht => ?_, fun i hi => ?_⟩
  · simp at ht; subst ht
    refine ⟨by omega, by omega, by rw [Int.toNat_natCast]; exact (lv_vr hx.1).1 h0, ?_⟩
    rw [Int.toNat_natCast]
    unfold litSet
    rw [cell_set (by omega), if_pos rfl]
    split <;> simp
  · simp at hi
    unfold litSet
    rw [cell_set (by omega), if_neg (by omega)]
theorem Exts.set {V : Nat} {a : Nat → Bool} {of : List Int} {x : Int} (hs : Sol V of) (hx : okLit V x) (h : Exts V a of) (hl : lh a x = true) : Exts V a (litSet of x) := by
  have hlen := hs.len
  have hv := vr_lt hx
  intro i h1 h2
  unfold litSet
  rw [cell_set (by omega)]
  by_cases e : i = vr x
  · subst e
    rw [if_pos rfl]
    unfold lh at hl
    by_cases hn : x < 0
    · rw [if_pos hn] at hl ⊢
      have : (-x).toNat = vr x := by unfold vr; omega
      rw [this] at hl
      simp at hl
      simp [hl]
    · rw [if_neg hn] at hl ⊢
      have : x.toNat = vr x := by unfold vr; omega
      rw [this] at hl
      simp [hl]
  · rw [if_neg e]; exact h i h1 h2
theorem Exts.of_grow {V : Nat} {a : Nat → Bool} {of tr of' tr' : List Int} (hg : Grow V of tr of' tr') (h : Exts V a of') : Exts V a of := by
  obtain ⟨n, _, h2, h3⟩ := hg
  intro i h1 h4
  by_cases hm : (i : Int) ∈ n
  · have := (h2 _ hm).2.2.1
    rw [Int.toNat_natCast] at this
    rw [this]; simp
  · rw [← h3 i hm]; exact h i h1 h4
theorem opens_lt {V : Nat} {of : List Int} {x : Int} (hs : Sol V of) (hx : okLit V x) (h0 : lv of x = 0) : opens V (litSet of x) < opens V of := by
  have hl := hs.len
  have hv := vr_lt hx
  unfold opens
  refine countP_lt (fun i hi hp => ?_) ⟨vr x - 1, by rw [List.mem_range]; omega, ?_, ?_⟩
  · simp only [decide_eq_true_eq] at hp ⊢
    unfold litSet at hp
    rw [cell_set (by omega)] at hp
    split at hp
    · split at hp <;> simp at hp
    · exact hp
  · simp only [decide_eq_true_eq]
    rw [show vr x - 1 + 1 = vr x by omega]
    exact (lv_vr hx.1).1 h0
  · simp only [decide_eq_false_iff_not]
    rw [show vr x - 1 + 1 = vr x by omega]
    unfold litSet
    rw [cell_set (by omega), if_pos rfl]
    split <;> simp
theorem opens_le_grow {V : Nat} {of tr of' tr' : List Int} (hg : Grow V of tr of' tr') : opens V of' ≤ opens V of := by
  obtain ⟨n, _, h2, h3⟩ := hg
  unfold opens
  refine List.countP_mono_left fun i hi hp => ?_
  simp only [decide_eq_true_eq] at hp ⊢
  by_cases hm : ((i + 1 : Nat) : Int) ∈ n
  · have := (h2 _ hm).2.2.2
    rw [Int.toNat_natCast] at this
    exact absurd hp this
  · rw [← h3 _ hm]; exact hp
theorem opens_pos {V : Nat} {of : List Int} {v : Nat} (h1 : 1 ≤ v) (h2 : v ≤ V) (h : cell of v = 0) : 0 < opens V of := by
  unfold opens
  rw [List.countP_pos_iff]
  exact ⟨v - 1, by rw [List.mem_range]; omega, by simp only [decide_eq_true_eq]; rw [show v - 1 + 1 = v by omega]; exact h⟩
def reset (of : List Int) (l : List Int) : List Int := l.foldl (fun o t => o.set t.toNat 0) of
theorem reset_cell : ∀ (l : List Int) (of : List Int), (∀ t ∈ l, 0 ≤ t ∧ t.toNat < of.length) → ∀ i : Nat, cell (reset of l) i = if (i : Int) ∈ l then 0 else cell of i
  | [], of, _, i => by simp [reset]
  | t :: l, of, h, i => by
    have ht := h t (by simp)
    have ih := reset_cell l (of.set t.toNat 0) (fun u hu => by simpa using h u (by simp [hu])) i
    show cell (reset (of.set t.toNat 0) l) i = _
    rw [ih]
    by_cases hm : (i : Int) ∈ l
    · simp [hm]
    · rw [if_neg hm, cell_set ht.2]
      by_cases e : i = t.toNat
      · rw [if_pos e, if_pos (by simp; left; omega)]
      · rw [if_neg e, if_neg (by simp [hm]; omega)]
theorem reset_len : ∀ (l : List Int) (of : List Int), (reset of l).length = of.length
  | [], of => rfl
  | t :: l, of => by show (reset (of.set t.toNat 0) l).length = _; rw [reset_len l]; simp
theorem reset_snoc (of : List Int) (l : List Int) (t : Int) : reset of (l ++ [t]) = (reset of l).set t.toNat 0 := by simp [reset]
theorem Grow.back {V : Nat} {of tr of' tr' : List Int} (hs : Sol V of) (hs' : Sol V of') (hg : Grow V of tr of' tr') : reset of' (tr'.drop tr.length) = of ∧ tr'.take tr.length = tr := by
  obtain ⟨n, rfl, h2, h3⟩ := hg
  have l1 := hs.len; have l2 := hs'.len
  refine ⟨?_, by simp⟩
  rw [List.drop_left]
  refine List.ext_getElem? fun i => ?_
  by_cases hi : i < V + 1
  · have hc : cell (reset of' n) i = cell of i := by
      rw [reset_cell n of' (fun t ht => by have := h2 t ht; omega) i]
      by_cases hm : (i : Int) ∈ n
      · rw [if_pos hm]
        have := (h2 _ hm).2.2.1
        rw [Int.toNat_natCast] at this
        exact this.symm
      · rw [if_neg hm, h3 i hm]
    have e1 : (reset of' n)[i]? = some (cell (reset of' n) i) := by simp [cell, List.getElem?_eq_getElem (show i < (reset of' n).length by rw [reset_len]; omega)]
    have e2 : of[i]? = some (cell of i) := by simp [cell, List.getElem?_eq_getElem (show i < of.length by omega)]
    rw [e1, e2, hc]
  · rw [List.getElem?_eq_none (by rw [reset_len]; omega), List.getElem?_eq_none (by omega)]

/-! ### spreading -/
def SpreadOk (V : Nat) (all : List (List Int)) (of of' : List Int) (b : Bool) : Prop :=
  (∀ a, Sats a all → Exts V a of → Exts V a of') ∧ (b = false → ∀ a, Sats a all → ¬ Exts V a of) ∧ (b = true → ∀ c ∈ all, (∃ x ∈ c, lv of' x = 1) ∨ ∃ x ∈ c, lv of' x = 0)
/-- what the scan of a clause knows -/
structure Scan (of : List Int) (pre : List Int) (left many : Int) (holds : Bool) : Prop where
  h : holds = true ↔ ∃ x ∈ pre, lv of x = 1
  pos : 0 ≤ many
  le : many ≤ pre.length
  zero : many = 0 → left = 0 ∧ ∀ x ∈ pre, lv of x ≠ 0
  one : many = 1 → left ≠ 0 ∧ left ∈ pre ∧ lv of left = 0 ∧ ∀ x ∈ pre, lv of x = 0 → x = left
  more : 1 < many → ∃ x ∈ pre, lv of x = 0
theorem Scan.nil (of : List Int) : Scan of [] 0 0 false := ⟨by simp, by omega, by simp, by simp, by simp, by simp⟩
theorem Scan.hit {of pre : List Int} {left many : Int} {hb : Bool} {x : Int} (h : Scan of pre left many hb) (hx : lv of x = 1) : Scan of (pre ++ [x]) left many true := by
  refine ⟨by simp [hx], h.pos, by have := h.le; simp; omega, fun hm => ⟨(h.zero hm).1, fun y hy => ?_⟩, fun hm => ⟨(h.one hm).1, by simp [(h.one hm).2.1], (h.one hm).2.2.1, fun y hy hy0 => ?_⟩, fun hm => ?_⟩
  · rcases List.mem_append.1 hy with hy | hy
    · exact (h.zero hm).2 y hy
    · simp at hy; subst hy; omega
  · rcases List.mem_append.1 hy with hy | hy
    · exact (h.one hm).2.2.2 y hy hy0
    · simp at hy; subst hy; omega
  · obtain ⟨y, hy, hy0⟩ := h.more hm
    exact ⟨y, by simp [hy], hy0⟩
theorem Scan.miss {of pre : List Int} {left many : Int} {hb : Bool} {x : Int} (h : Scan of pre left many hb) (hx : lv of x ≠ 1) (hx0 : lv of x ≠ 0) : Scan of (pre ++ [x]) left many hb := by
  refine ⟨?_, h.pos, by have := h.le; simp; omega, fun hm => ⟨(h.zero hm).1, fun y hy => ?_⟩, fun hm => ⟨(h.one hm).1, by simp [(h.one hm).2.1], (h.one hm).2.2.1, fun y hy hy0 => ?_⟩, fun hm => ?_⟩
  · rw [h.h]
    constructor
    · rintro ⟨y, hy, hy1⟩; exact ⟨y, by simp [hy], hy1⟩
    · rintro ⟨y, hy, hy1⟩
      rcases List.mem_append.1 hy with hy | hy
      · exact ⟨y, hy, hy1⟩
      · simp at hy; subst hy; exact absurd hy1 hx
  · rcases List.mem_append.1 hy with hy | hy
    · exact (h.zero hm).2 y hy
    · simp at hy; subst hy; exact hx0
  · rcases List.mem_append.1 hy with hy | hy
    · exact (h.one hm).2.2.2 y hy hy0
    · simp at hy; subst hy; exact absurd hy0 hx0
  · obtain ⟨y, hy, hy0⟩ := h.more hm
    exact ⟨y, by simp [hy], hy0⟩
theorem Scan.open_ {of pre : List Int} {left many : Int} {hb : Bool} {x : Int} (h : Scan of pre left many hb) (hx0 : lv of x = 0) (hx : x ≠ 0) : Scan of (pre ++ [x]) x (if x = left then many else many + 1) hb := by
  have hp := h.pos
  have hle := h.le
  refine ⟨?_, by split <;> omega, by simp; split <;> omega, fun hm => ?_, fun hm => ?_, fun hm => ⟨x, by simp, hx0⟩⟩
  · rw [h.h]
    constructor
    · rintro ⟨y, hy, hy1⟩; exact ⟨y, by simp [hy], hy1⟩
    · rintro ⟨y, hy, hy1⟩
      rcases List.mem_append.1 hy with hy | hy
      · exact ⟨y, hy, hy1⟩
      · simp at hy; subst hy; omega
  · split at hm
    · rename_i e
      have := (h.zero hm).1
      omega
    · omega
  · refine ⟨hx, by simp, hx0, fun y hy hy0 => ?_⟩
    rcases List.mem_append.1 hy with hy | hy
    · split at hm
      · rename_i e
        rw [e]; exact (h.one hm).2.2.2 y hy hy0
      · exact absurd hy0 ((h.zero (by omega)).2 y hy)
    · simpa using hy
/-- of all literals but open ones it is known what they are -/
theorem lh_of {V : Nat} {a : Nat → Bool} {of : List Int} {x : Int} (hs : Sol V of) (hx : okLit V x) (h : Exts V a of) (h1 : lv of x ≠ 1) (h0 : lv of x ≠ 0) : lh a x = false := by
  have hv := vr_lt hx
  have hval := hs.val (vr x)
  obtain ⟨e1, e2⟩ := h (vr x) hv.1 hv.2
  unfold lv at h1 h0
  unfold lh
  by_cases hn : x < 0
  · rw [if_pos hn] at h1 h0 ⊢
    have e : (-x).toNat = vr x := by unfold vr; omega
    rw [e] at h1 h0 ⊢
    rw [e1 (by omega)]; rfl
  · rw [if_neg hn] at h1 h0 ⊢
    have e : x.toNat = vr x := by unfold vr; omega
    rw [e] at h1 h0 ⊢
    exact e2 (by omega)
theorem clause_none {V : Nat} {a : Nat → Bool} {of c : List Int} {left : Int} (hs : Sol V of) (hc : ∀ x ∈ c, okLit V x) (h : Scan of c left 0 false) (he : Exts V a of) : ¬ ∃ x ∈ c, lh a x = true := by
  rintro ⟨x, hx, hl⟩
  have h1 : lv of x ≠ 1 := fun h1 => by have := h.h.2 ⟨x, hx, h1⟩; cases this
  rw [lh_of hs (hc x hx) he h1 ((h.zero rfl).2 x hx)] at hl
  cases hl
theorem clause_unit {V : Nat} {a : Nat → Bool} {of c : List Int} {left : Int} (hs : Sol V of) (hc : ∀ x ∈ c, okLit V x) (h : Scan of c left 1 false) (he : Exts V a of) (ha : ∃ x ∈ c, lh a x = true) : lh a left = true := by
  obtain ⟨x, hx, hl⟩ := ha
  have h1 : lv of x ≠ 1 := fun h1 => by have := h.h.2 ⟨x, hx, h1⟩; cases this
  by_cases h0 : lv of x = 0
  · rw [← (h.one rfl).2.2.2 x hx h0]; exact hl
  · rw [lh_of hs (hc x hx) he h1 h0] at hl; cases hl

/-! ### the first values, true ahead of false -/
def lexle (V : Nat) (a b : Nat → Bool) : Prop := ∀ i, 1 ≤ i → i ≤ V → a i = true → b i = false → ∃ j, 1 ≤ j ∧ j < i ∧ a j = false ∧ b j = true
def asg (of : List Int) : Nat → Bool := fun i => decide (cell of i = 1)
def SearchT (V : Nat) (all : List (List Int)) (of of' : List Int) : Prop :=
  (∀ i, 1 ≤ i → i ≤ V → cell of' i ≠ 0) ∧ Sats (asg of') all ∧ Exts V (asg of') of ∧ ∀ a, Sats a all → Exts V a of → lexle V a (asg of')
def SearchF (V : Nat) (all : List (List Int)) (of : List Int) : Prop := ∀ a, Sats a all → ¬ Exts V a of
theorem asg_exts {V : Nat} (of : List Int) : Exts V (asg of) of := fun i _ _ => ⟨fun h => by simp [asg, h], fun h => by simp [asg, h]⟩
theorem search_leaf {V : Nat} {all : List (List Int)} {of tr of' tr' : List Int} (hs : Sol V of') (hall : ∀ c ∈ all, ∀ x ∈ c, okLit V x) (hg : Grow V of tr of' tr') (hsp : SpreadOk V all of of' true) (htot : ∀ i, 1 ≤ i → i ≤ V → cell of' i ≠ 0) : SearchT V all of of' := by
  refine ⟨htot, fun c hc => ?_, Exts.of_grow hg (asg_exts of'), fun a ha he i h1 h2 h3 h4 => ?_⟩
  · rcases hsp.2.2 rfl c hc with ⟨x, hx, h1⟩ | ⟨x, hx, h0⟩
    · refine ⟨x, hx, ?_⟩
      unfold lv at h1
      unfold lh asg
      by_cases hn : x < 0
      · rw [if_pos hn] at h1 ⊢
        simp; omega
      · rw [if_neg hn] at h1 ⊢
        simp [h1]
    · have hx' := hall c hc x hx
      have hv := vr_lt hx'
      exact absurd ((lv_vr hx'.1).1 h0) (htot _ hv.1 hv.2)
  · obtain ⟨e1, e2⟩ := hsp.1 a ha he i h1 h2
    have hval := hs.val i
    have := htot i h1 h2
    unfold asg at h4
    simp at h4
    rw [e2 (by omega)] at h3
    cases h3
theorem setL_pos {V : Nat} {of : List Int} {v : Nat} (hs : Sol V of) (h1 : 1 ≤ v) (h2 : v ≤ V) (i : Nat) : cell (litSet of (v : Int)) i = if i = v then 1 else cell of i := by
  have hl := hs.len
  unfold litSet
  rw [if_neg (by omega), show vr (v : Int) = v by unfold vr; omega, cell_set (by omega)]
theorem search_yes {V : Nat} {all : List (List Int)} {of tr of1 tr1 of' : List Int} {v : Nat} (hs1 : Sol V of1) (hg : Grow V of tr of1 tr1) (hsp : SpreadOk V all of of1 true) (h1 : 1 ≤ v) (h2 : v ≤ V) (hv0 : cell of1 v = 0) (hvf : ∀ i, 1 ≤ i → i < v → cell of1 i ≠ 0)
    (h : SearchT V all (litSet of1 (v : Int)) of') : SearchT V all of of' := by
  have hx : okLit V (v : Int) := by unfold okLit; omega
  have hg2 : Grow V of1 tr1 (litSet of1 (v : Int)) (tr1 ++ [(vr (v : Int) : Int)]) := Grow.set hs1 hx (by rw [lv_vr (by omega)]; simpa [vr] using hv0)
  obtain ⟨q1, q2, q3, q4⟩ := h
  have hb := Exts.of_grow hg2 q3
  refine ⟨q1, q2, Exts.of_grow hg hb, fun a ha he => ?_⟩
  have hea := hsp.1 a ha he
  by_cases hav : a v = true
  · exact q4 a ha (Exts.set hs1 hx hea (by unfold lh; rw [if_neg (by omega)]; simpa using hav))
  · intro i i1 i2 i3 i4
    have hasv : asg of' v = true := (q3 v h1 h2).1 (by rw [setL_pos hs1 h1 h2, if_pos rfl])
    by_cases hiv : i < v
    · have hc := hvf i i1 hiv
      have hval := hs1.val i
      obtain ⟨e1, e2⟩ := hea i i1 i2
      obtain ⟨f1, f2⟩ := hb i i1 i2
      by_cases hc1 : cell of1 i = 1
      · rw [f1 hc1] at i4; cases i4
      · rw [e2 (by omega)] at i3; cases i3
    · by_cases hiv2 : i = v
      · subst hiv2; exact absurd i3 hav
      · exact ⟨v, h1, by omega, by simpa using hav, hasv⟩
theorem search_no {V : Nat} {all : List (List Int)} {of tr of1 tr1 of' : List Int} {v : Nat} (hs1 : Sol V of1) (hg : Grow V of tr of1 tr1) (hsp : SpreadOk V all of of1 true) (h1 : 1 ≤ v) (h2 : v ≤ V) (hv0 : cell of1 v = 0)
    (hF : SearchF V all (litSet of1 (v : Int))) (h : SearchT V all (litSet of1 (-(v : Int))) of') : SearchT V all of of' := by
  have hx : okLit V (v : Int) := by unfold okLit; omega
  have hx' : okLit V (-(v : Int)) := by unfold okLit; omega
  have hg2 : Grow V of1 tr1 (litSet of1 (-(v : Int))) (tr1 ++ [(vr (-(v : Int)) : Int)]) := Grow.set hs1 hx' (by rw [lv_vr (by omega)]; simpa [vr] using hv0)
  obtain ⟨q1, q2, q3, q4⟩ := h
  refine ⟨q1, q2, Exts.of_grow hg (Exts.of_grow hg2 q3), fun a ha he => ?_⟩
  have hea := hsp.1 a ha he
  have hav : a v = false := by
    by_cases hav : a v = true
    · exact absurd (Exts.set hs1 hx hea (by unfold lh; rw [if_neg (by omega)]; simpa using hav)) (hF a ha)
    · simpa using hav
  exact q4 a ha (Exts.set hs1 hx' hea (by unfold lh; rw [if_pos (by omega)]; simpa using hav))
theorem search_none {V : Nat} {all : List (List Int)} {of of1 : List Int} {v : Nat} (hs1 : Sol V of1) (hsp : SpreadOk V all of of1 true) (h1 : 1 ≤ v) (h2 : v ≤ V)
    (hF : SearchF V all (litSet of1 (v : Int))) (hF' : SearchF V all (litSet of1 (-(v : Int)))) : SearchF V all of := by
  intro a ha he
  have hx : okLit V (v : Int) := by unfold okLit; omega
  have hx' : okLit V (-(v : Int)) := by unfold okLit; omega
  have hea := hsp.1 a ha he
  by_cases hav : a v = true
  · exact hF a ha (Exts.set hs1 hx hea (by unfold lh; rw [if_neg (by omega)]; simpa using hav))
  · exact hF' a ha (Exts.set hs1 hx' hea (by unfold lh; rw [if_pos (by omega)]; simpa using hav))

/-! ### values as a number's bits -/
def bitsK (V k : Nat) : Nat → Bool := fun i => k.testBit (V - i)
theorem bits_ex (f : Nat → Bool) : ∀ V : Nat, ∃ k, k < 2 ^ V ∧ ∀ j, j < V → k.testBit j = f j
  | 0 => ⟨0, by simp, by simp⟩
  | V + 1 => by
    obtain ⟨k, h1, h2⟩ := bits_ex f V
    have hp : 2 ^ (V + 1) = 2 ^ V + 2 ^ V := by rw [Nat.pow_succ]; omega
    cases hf : f V with
    | true =>
      refine ⟨2 ^ V + k, by omega, fun j hj => ?_⟩
      by_cases e : j < V
      · rw [Nat.testBit_two_pow_add_gt e]; exact h2 j e
      · have : j = V := by omega
        subst this
        rw [Nat.testBit_two_pow_add_eq, Nat.testBit_lt_two_pow h1, hf]; rfl
    | false =>
      refine ⟨k, by omega, fun j hj => ?_⟩
      by_cases e : j < V
      · exact h2 j e
      · have : j = V := by omega
        subst this
        rw [Nat.testBit_lt_two_pow h1, hf]
theorem lt_of_bits {x y i : Nat} (hx : x.testBit i = false) (hy : y.testBit i = true) (h : ∀ j, i < j → x.testBit j = y.testBit j) : x < y := by
  have e : x / 2 ^ (i + 1) = y / 2 ^ (i + 1) := Nat.eq_of_testBit_eq fun j => by
    rw [Nat.testBit_div_two_pow, Nat.testBit_div_two_pow]; exact h _ (by omega)
  rw [Nat.testBit_eq_decide_div_mod_eq] at hx hy
  simp only [decide_eq_false_iff_not, decide_eq_true_eq] at hx hy
  rw [Nat.pow_succ, ← Nat.div_div_eq_div_mul, ← Nat.div_div_eq_div_mul] at e
  apply Classical.byContradiction
  intro hn
  have := Nat.div_le_div_right (c := 2 ^ i) (Nat.le_of_not_lt hn)
  omega
theorem Sats.congr {V : Nat} {all : List (List Int)} {a b : Nat → Bool} (hall : ∀ c ∈ all, ∀ x ∈ c, okLit V x) (h : ∀ i, 1 ≤ i → i ≤ V → a i = b i) (ha : Sats a all) : Sats b all := by
  intro c hc
  obtain ⟨x, hx, hl⟩ := ha c hc
  have hv := vr_lt (hall c hc x hx)
  refine ⟨x, hx, ?_⟩
  unfold lh at hl ⊢
  by_cases hn : x < 0
  · rw [if_pos hn] at hl ⊢
    rw [show (-x).toNat = vr x by unfold vr; omega] at hl ⊢
    rw [← h _ hv.1 hv.2]; exact hl
  · rw [if_neg hn] at hl ⊢
    rw [show x.toNat = vr x by unfold vr; omega] at hl ⊢
    rw [← h _ hv.1 hv.2]; exact hl
theorem as_bits (V : Nat) (a : Nat → Bool) : ∃ k, k < 2 ^ V ∧ ∀ i, 1 ≤ i → i ≤ V → bitsK V k i = a i := by
  obtain ⟨k, h1, h2⟩ := bits_ex (fun j => a (V - j)) V
  refine ⟨k, h1, fun i i1 i2 => ?_⟩
  unfold bitsK
  rw [h2 (V - i) (by omega), show V - (V - i) = i by omega]
/-- both find the same values -/
theorem first_same {V : Nat} {all : List (List Int)} {of of' : List Int} {k : Nat} (hall : ∀ c ∈ all, ∀ x ∈ c, okLit V x) (h0 : ∀ i, cell of i = 0) (hk : k < 2 ^ V) (hks : Sats (bitsK V k) all) (hmax : ∀ k', k < k' → k' < 2 ^ V → ¬ Sats (bitsK V k') all)
    (h : SearchT V all of of') : ∀ i, 1 ≤ i → i ≤ V → bitsK V k i = asg of' i := by
  obtain ⟨q1, q2, q3, q4⟩ := h
  obtain ⟨k', hk', hb⟩ := as_bits V (asg of')
  have hle : ¬ k < k' := fun hlt => hmax k' hlt hk' (Sats.congr hall (fun i i1 i2 => (hb i i1 i2).symm) q2)
  have hlex := q4 (bitsK V k) hks (fun i _ _ => by rw [h0 i]; simp)
  intro i
  induction i using Nat.strongRecOn with
  | ind i ih =>
    intro i1 i2
    cases hbi : bitsK V k i with
    | true =>
      cases hai : asg of' i with
      | true => rfl
      | false =>
        obtain ⟨j, j1, j2, j3, j4⟩ := hlex i i1 i2 hbi hai
        rw [ih j j2 j1 (by omega), j4] at j3
        cases j3
    | false =>
      cases hai : asg of' i with
      | false => rfl
      | true =>
        exfalso
        refine hle (lt_of_bits (i := V - i) hbi (by rw [← hai, ← hb i i1 i2]; rfl) fun j hj => ?_)
        by_cases hjV : j < V
        · have e := ih (V - j) (by omega) (by omega) (by omega)
          rw [← hb (V - j) (by omega) (by omega)] at e
          unfold bitsK at e
          rwa [show V - (V - j) = j by omega] at e
        · rw [Nat.testBit_lt_two_pow (Nat.lt_of_lt_of_le hk (Nat.pow_le_pow_right (by decide) (by omega))), Nat.testBit_lt_two_pow (Nat.lt_of_lt_of_le hk' (Nat.pow_le_pow_right (by decide) (by omega)))]
theorem first_none {V : Nat} {all : List (List Int)} {of of' : List Int} (hall : ∀ c ∈ all, ∀ x ∈ c, okLit V x) (hmax : ∀ k', k' < 2 ^ V → ¬ Sats (bitsK V k') all) : ¬ SearchT V all of of' := by
  rintro ⟨_, q2, _, _⟩
  obtain ⟨k', hk', hb⟩ := as_bits V (asg of')
  exact hmax k' hk' (Sats.congr hall (fun i i1 i2 => (hb i i1 i2).symm) q2)
end Go.Sc
namespace Go.Sc.F
open Go Go.Sc
set_option linter.unusedVariables false

/-- signalbox/signalboxlaw.GateSolves -/
def law_GateSolves (E : Env) (P : Program) (a0 a1 : AV) (H : AH) (R : Kt) : Prop :=
  wGet (lenA a1) H fun t14 H =>
  wGet (binA .gtr t14 (.val (.int .i64 60))) H fun t15 H =>
  wGuard t15 true H (fun k => k a1 H) fun t17 H =>
  wGuard t15 true H (fun k => wGet (lenA t17) H k) fun t18 H =>
  wGuard t15 true H (fun k => wGet (binA .leq t18 (.val (.int .i64 3000))) H k) fun t19 H =>
  wGet (pickA t15 t19 (.val (.bool false))) H fun t20 H =>
  wGuard t20 false H (fun k => k a1 H) fun t22 H =>
  wGuard t20 false H (fun k => wGet (lenA t22) H k) fun t23 H =>
  wGuard t20 false H (fun k => wGet (binA .gtr t23 (.val (.int .i64 3100))) H k) fun t24 H =>
  wGet (pickA t20 (.val (.bool true)) t24) H fun t25 H =>
  wGuard t25 false H (fun k => k a0 H) fun t27 H =>
  wGuard t25 false H (fun k => wGet (binA .gtr t27 (.val (.int .i64 8))) H k) fun t28 H =>
  wGuard t25 false H (fun k => k t28 H) fun t29 H =>
  wGuard t29 true H (fun k => k a0 H) fun t30 H =>
  wGuard t29 true H (fun k => wGet (binA .leq t30 (.val (.int .i64 1000))) H k) fun t31 H =>
  wGuard t25 false H (fun k => wGet (pickA t29 t31 (.val (.bool false))) H k) fun t32 H =>
  wGet (pickA t25 (.val (.bool true)) t32) H fun t33 H =>
  wIf t33 (
    R (.val (.bool true)) H) (
    wLoop 2 (fun I1 => I1 (.val (.int .i64 0)) (.val (.int .i64 0)) H) fun I1 t5 t6 H =>
      wGet (lenA a1) H fun t36 H =>
      wGet (binA .lss t6 t36) H fun t37 H =>
      wIf t37 (
        wGet (iaddr 1 a1 t6) H fun t43 H =>
        wGet (load1 t43 H) H fun t44 H =>
        wGet (lenA t44) H fun t45 H =>
        wGet (binA .add t5 t45) H fun t46 H =>
        wGet (binA .add t6 (.val (.int .i64 1))) H fun t39 H =>
        I1 t46 t39 H) (
        wGet (binA .gtr t5 (.val (.int .i64 400))) H fun t48 H =>
        wIf t48 (
          R (.val (.bool true)) H) (
          wAgg (fillA [(.val (.int .i64 0)), (.val (.slice none 0 0))] [(0, 1, a0), (1, 1, a1)]) H fun t51 H =>
          wCall E P 99 [t51] H fun t52 H =>
          wNew 2 (some [(.val (.int .i64 0)), (.val (.int .i64 0))]) H fun t7 H =>
          wPut (storeN 2 t7 t52 H) fun _u H =>
          wAgg (fillA [(.val (.int .i64 0)), (.val (.slice none 0 0))] [(0, 1, a0), (1, 1, a1)]) H fun t55 H =>
          wNew 2 (some [(.val (.int .i64 0)), (.val (.slice none 0 0))]) H fun t8 H =>
          wPut (storeN 2 t8 t55 H) fun _u H =>
          wGet (loadN 2 t8 H) H fun t57 H =>
          wCall E P 100 [t57] H fun t58 H =>
          wGet (extractA t58 0) H fun t59 H =>
          wGet (extractA t58 1) H fun t60 H =>
          wGet (loadN 2 t8 H) H fun t61 H =>
          wGet (loadN 2 t7 H) H fun t63 H =>
          wCall E P 101 [t61] H fun t62 H =>
          (wGet (loadN 2 t7 H) H (fun y H2 => y = t63 ∧ H2 = H)) ∧
          wCall E P 77 [t62, t63] H fun t64 H =>
          wGet (unA .not t64) H fun t65 H =>
          wIf t65 (
            R (.val (.bool false)) H) (
            wGet (faddr 0 t7) H fun t66 H =>
            wGet (load1 t66 H) H fun t67 H =>
            wGet (binA .neq t67 (.val (.int .i64 0))) H fun t68 H =>
            wIf t68 (
              wGet (loadN 2 t7 H) H fun t70 H =>
              wCall E P 77 [t60, t70] H fun t71 H =>
              wGuard t71 true H (fun k => k t59 H) fun t73 H =>
              wGuard t71 true H (fun k => wGet (lenA t73) H k) fun t74 H =>
              wGuard t71 true H (fun k => wGet (binA .eql t74 (.val (.int .i64 0))) H k) fun t75 H =>
              wGet (pickA t71 t75 (.val (.bool false))) H fun t76 H =>
              R t76 H) (
              wAgg (fillA [(.val (.int .i64 0)), (.val (.slice none 0 0))] [(0, 1, a0), (1, 1, a1)]) H fun t80 H =>
              wCall E P 102 [t80] H fun t81 H =>
              wGet (extractA t81 0) H fun t82 H =>
              wGet (extractA t81 1) H fun t83 H =>
              wGet (unA .not t83) H fun t85 H =>
              wIf t85 (
                wCall E P 89 [t60, (.val (.int .i64 8))] H fun t87 H =>
                wGuard t87 true H (fun k => k t59 H) fun t89 H =>
                wGuard t87 true H (fun k => wGet (lenA t89) H k) fun t90 H =>
                wGuard t87 true H (fun k => wGet (binA .eql t90 (.val (.int .i64 0))) H k) fun t91 H =>
                wGet (pickA t87 t91 (.val (.bool false))) H fun t92 H =>
                R t92 H) (
                wBool (eqA .iface t60 (.val (.nilIface))) H false fun t94 H =>
                wGuard t94 true H (fun k => k t59 H) fun t96 H =>
                wGuard t94 true H (fun k => k t82 H) fun t97 H =>
                wGuard t94 true H (fun k => wCall E P 103 [t96, t97] H k) fun t98 H =>
                wGet (pickA t94 t98 (.val (.bool false))) H fun t99 H =>
                R t99 H))))))

/-- signalbox/signalboxref.GateCheck -/
def ref_GateCheck (E : Env) (P : Program) (a0 : AV) (H : AH) (R : Kt) : Prop :=
  wNew 2 (AV.cells? a0) H fun t1 H =>
  wNew 2 (some [(.val (.int .i64 0)), (.val (.int .i64 0))]) H fun t2 H =>
  wGet (faddr 0 t1) H fun t7 H =>
  wGet (load1 t7 H) H fun t8 H =>
  wCall E P 86 [t8, (.val (.int .i64 0)), (.val (.int .i64 1000))] H fun t9 H =>
  wGet (unA .not t9) H fun t10 H =>
  wGuard t10 false H (fun k => wGet (faddr 1 t1) H k) fun t12 H =>
  wGuard t10 false H (fun k => wGet (load1 t12 H) H k) fun t13 H =>
  wGuard t10 false H (fun k => wGet (lenA t13) H k) fun t14 H =>
  wGuard t10 false H (fun k => wGet (binA .gtr t14 (.val (.int .i64 3000))) H k) fun t15 H =>
  wGet (pickA t10 (.val (.bool true)) t15) H fun t16 H =>
  wIf t16 (
    wCall E P 87 [(.val (.int .i64 4))] H fun t17 H =>
    wPut (storeN 2 t2 t17 H) fun _u H =>
    wGet (retPack [loadN 2 t2 H]) H R) (
    wGet (faddr 1 t1) H fun t18 H =>
    wGet (load1 t18 H) H fun t19 H =>
    wGet (lenA t19) H fun t20 H =>
    wLoop 1 (fun I1 => I1 (.val (.int .i64 0)) H) fun I1 t21 H =>
      wGet (binA .lss t21 t20) H fun t22 H =>
      wIf t22 (
        wGet (iaddr 1 t19 t21) H fun t24 H =>
        wGet (load1 t24 H) H fun t25 H =>
        wGet (lenA t25) H fun t27 H =>
        wLoop 1 (fun I2 => I2 (.val (.int .i64 0)) H) fun I2 t28 H =>
          wGet (binA .lss t28 t27) H fun t29 H =>
          wIf t29 (
            wGet (iaddr 1 t25 t28) H fun t30 H =>
            wGet (load1 t30 H) H fun t31 H =>
            wGet (binA .eql t31 (.val (.int .i64 0))) H fun t33 H =>
            wGuard t33 false H (fun k => k t31 H) fun t35 H =>
            wGuard t33 false H (fun k => wGet (faddr 0 t1) H k) fun t36 H =>
            wGuard t33 false H (fun k => wGet (load1 t36 H) H k) fun t37 H =>
            wGuard t33 false H (fun k => wGet (unA .neg t37) H k) fun t38 H =>
            wGuard t33 false H (fun k => wGet (faddr 0 t1) H k) fun t39 H =>
            wGuard t33 false H (fun k => wGet (load1 t39 H) H k) fun t40 H =>
            wGuard t33 false H (fun k => wCall E P 86 [t35, t38, t40] H k) fun t41 H =>
            wGuard t33 false H (fun k => wGet (unA .not t41) H k) fun t42 H =>
            wGet (pickA t33 (.val (.bool true)) t42) H fun t43 H =>
            wIf t43 (
              wAgg (fillA [(.val (.int .i64 0)), (.val (.int .i64 0))] [(0, 1, (.val (.int .i64 2))), (1, 1, t21)]) H fun t45 H =>
              wPut (storeN 2 t2 t45 H) fun _u H =>
              wGet (retPack [loadN 2 t2 H]) H R) (
              wGet (binA .add t28 (.val (.int .i64 1))) H fun t46 H =>
              I2 t46 H)) (
            wGet (binA .add t21 (.val (.int .i64 1))) H fun t47 H =>
            I1 t47 H)) (
        wGet (loadN 2 (gptr E 5) H) H fun t48 H =>
        wPut (storeN 2 t2 t48 H) fun _u H =>
        wGet (retPack [loadN 2 t2 H]) H R))

/-- signalbox/gate.Solve -/
def gate_Solve (E : Env) (P : Program) (a0 : AV) (H : AH) (R : Kt) : Prop :=
  wNew 2 (AV.cells? a0) H fun t1 H =>
  wGet (loadN 2 t1 H) H fun t11 H =>
  wCall E P 101 [t11] H fun t12 H =>
  wBool (eqA .iface t12 (.val (.nilIface))) H true fun t14 H =>
  wIf t14 (
    R (.tup [(.val (.slice none 0 0)), t12]) H) (
    wGet (loadN 2 t1 H) H fun t16 H =>
    wGet (faddr 0 t1) H fun t17 H =>
    wGet (load1 t17 H) H fun t18 H =>
    wGet (binA .add t18 (.val (.int .i64 1))) H fun t19 H =>
    wMake 1 8 [(.val (.int .i64 0))] t19 t19 H fun t20 H =>
    (wGet (loadN 2 t1 H) H (fun y H2 => y = t16 ∧ H2 = H)) ∧
    wAgg (fillA [(.val (.int .i64 0)), (.val (.slice none 0 0)), (.val (.slice none 0 0)), (.val (.slice none 0 0)), (.val (.int .i64 0))] [(0, 2, t16), (2, 1, t20)]) H fun t21 H =>
    wNew 5 (AV.cells? t21) H fun t22 H =>
    wCall E P 105 [t22] H fun t25 H =>
    wGet (extractA t25 0) H fun t26 H =>
    wGet (extractA t25 1) H fun t27 H =>
    wBool (eqA .iface t27 (.val (.nilIface))) H true fun t30 H =>
    wIf t30 (
      R (.tup [(.val (.slice none 0 0)), t27]) H) (
      wGet (unA .not t26) H fun t34 H =>
      wIf t34 (
        R (.tup [(.val (.slice none 0 0)), (.ifc 1 (.val (.int .i64 8)))]) H) (
        wGet (nilA t22) H fun t37 H =>
        wGet (faddr 2 t37) H fun t38 H =>
        wGet (load1 t38 H) H fun t39 H =>
        wGet (sliceA 1 t39 (some (.val (.int .i64 1))) none H) H fun t40 H =>
        wGet (lenA t40) H fun t41 H =>
        wLoop 2 (fun I1 => I1 (.val (.slice none 0 0)) (.val (.int .i64 0)) H) fun I1 t8 t42 H =>
          wGet (binA .lss t42 t41) H fun t43 H =>
          wIf t43 (
            wGet (iaddr 1 t40 t42) H fun t44 H =>
            wGet (load1 t44 H) H fun t45 H =>
            wGet (binA .eql t45 (.val (.int .i64 1))) H fun t48 H =>
            wNewS 1 1 (fillA (List.replicate 1 [(.val (.bool false))]).flatten [(0, 1, t48)]) H fun t49 H =>
            wApp 1 1 t8 t49 H fun t50 H =>
            wGet (binA .add t42 (.val (.int .i64 1))) H fun t51 H =>
            I1 t50 t51 H) (
            R (.tup [t8, (.val (.nilIface))]) H))))

/-- signalbox/gate.Check -/
def gate_Check (E : Env) (P : Program) (a0 : AV) (H : AH) (R : Kt) : Prop :=
  wNew 2 (AV.cells? a0) H fun t1 H =>
  wGet (faddr 0 t1) H fun t5 H =>
  wGet (load1 t5 H) H fun t6 H =>
  wGet (binA .lss t6 (.val (.int .i64 0))) H fun t7 H =>
  wGuard t7 false H (fun k => wGet (faddr 0 t1) H k) fun t9 H =>
  wGuard t7 false H (fun k => wGet (load1 t9 H) H k) fun t10 H =>
  wGuard t7 false H (fun k => wGet (binA .gtr t10 (.val (.int .i64 1000))) H k) fun t11 H =>
  wGet (pickA t7 (.val (.bool true)) t11) H fun t12 H =>
  wGuard t12 false H (fun k => wGet (faddr 1 t1) H k) fun t14 H =>
  wGuard t12 false H (fun k => wGet (load1 t14 H) H k) fun t15 H =>
  wGuard t12 false H (fun k => wGet (lenA t15) H k) fun t16 H =>
  wGuard t12 false H (fun k => wGet (binA .gtr t16 (.val (.int .i64 3000))) H k) fun t17 H =>
  wGet (pickA t12 (.val (.bool true)) t17) H fun t18 H =>
  wIf t18 (
    R (.ifc 1 (.val (.int .i64 4))) H) (
    wGet (faddr 1 t1) H fun t20 H =>
    wGet (load1 t20 H) H fun t21 H =>
    wGet (lenA t21) H fun t22 H =>
    wLoop 1 (fun I1 => I1 (.val (.int .i64 0)) H) fun I1 t23 H =>
      wGet (binA .lss t23 t22) H fun t24 H =>
      wIf t24 (
        wGet (iaddr 1 t21 t23) H fun t26 H =>
        wGet (load1 t26 H) H fun t27 H =>
        wCall E P 59 [t27, (.fn 106 [] [t1])] H fun t30 H =>
        wIf t30 (
          wAgg (fillA [(.val (.int .i64 0)), (.val (.int .i64 0))] [(0, 1, (.val (.int .i64 2))), (1, 1, t23)]) H fun t32 H =>
          wNew 2 (AV.cells? t32) H fun t33 H =>
          R (.ifc 2 t33) H) (
          wGet (binA .add t23 (.val (.int .i64 1))) H fun t35 H =>
          I1 t35 H)) (
        R (.val (.nilIface)) H))

/-- signalbox/signalboxref.GateSolve -/
def ref_GateSolve (E : Env) (P : Program) (a0 : AV) (H : AH) (R : Kt) : Prop :=
  wNew 2 (AV.cells? a0) H fun t1 H =>
  wGet (faddr 0 t1) H fun t14 H =>
  wGet (load1 t14 H) H fun t15 H =>
  wGet (binA .shl (.val (.int .i64 1)) t15) H fun t16 H =>
  wGet (binA .sub t16 (.val (.int .i64 1))) H fun t17 H =>
  wNew 1 (some [(.val (.int .i64 0))]) H fun t4 H =>
  wPut (store1 t4 t17 H) fun _u H =>
  wLoop 1 (fun I1 => I1 t4 H) fun I1 t4_1 H =>
    wGet (load1 t4_1 H) H fun t18 H =>
    wGet (binA .geq t18 (.val (.int .i64 0))) H fun t19 H =>
    wIf t19 (
      wGet (faddr 1 t1) H fun t23 H =>
      wGet (load1 t23 H) H fun t24 H =>
      wGet (lenA t24) H fun t25 H =>
      wLoop 2 (fun I2 => I2 (.val (.bool true)) (.val (.int .i64 0)) H) fun I2 t6 t26 H =>
        wGet (binA .lss t26 t25) H fun t27 H =>
        wIf t27 (
          wGet (iaddr 1 t24 t26) H fun t28 H =>
          wGet (load1 t28 H) H fun t29 H =>
          wGet (lenA t29) H fun t31 H =>
          wLoop 2 (fun I3 => I3 (.val (.bool false)) (.val (.int .i64 0)) H) fun I3 t9 t32 H =>
            wGet (binA .lss t32 t31) H fun t33 H =>
            wIf t33 (
              wGet (iaddr 1 t29 t32) H fun t34 H =>
              wGet (load1 t34 H) H fun t35 H =>
              wGuard t9 false H (fun k => k t35 H) fun t38 H =>
              wGuard t9 false H (fun k => wGet (binA .gtr t38 (.val (.int .i64 0))) H k) fun t39 H =>
              wGuard t9 false H (fun k => k t39 H) fun t40 H =>
              wGuard t40 true H (fun k => k (.fn 107 [] [t4_1, t1]) H) fun t41 H =>
              wGuard t40 true H (fun k => k t35 H) fun t42 H =>
              wGuard t40 true H (fun k => wCallV E P t41 [t42] H k) fun t43 H =>
              wGuard t9 false H (fun k => wGet (pickA t40 t43 (.val (.bool false))) H k) fun t44 H =>
              wGet (pickA t9 (.val (.bool true)) t44) H fun t45 H =>
              wGuard t45 false H (fun k => k t35 H) fun t47 H =>
              wGuard t45 false H (fun k => wGet (binA .lss t47 (.val (.int .i64 0))) H k) fun t48 H =>
              wGuard t45 false H (fun k => k t48 H) fun t49 H =>
              wGuard t49 true H (fun k => k (.fn 107 [] [t4_1, t1]) H) fun t50 H =>
              wGuard t49 true H (fun k => k t35 H) fun t51 H =>
              wGuard t49 true H (fun k => wGet (unA .neg t51) H k) fun t52 H =>
              wGuard t49 true H (fun k => wCallV E P t50 [t52] H k) fun t53 H =>
              wGuard t49 true H (fun k => wGet (unA .not t53) H k) fun t54 H =>
              wGuard t45 false H (fun k => wGet (pickA t49 t54 (.val (.bool false))) H k) fun t55 H =>
              wGet (pickA t45 (.val (.bool true)) t55) H fun t56 H =>
              wGet (binA .add t32 (.val (.int .i64 1))) H fun t57 H =>
              I3 t56 t57 H) (
              wGuard t6 true H (fun k => k t9 H) fun t60 H =>
              wGet (pickA t6 t60 (.val (.bool false))) H fun t61 H =>
              wGet (binA .add t26 (.val (.int .i64 1))) H fun t62 H =>
              I2 t61 t62 H)) (
          wIf t6 (
            wLoop 2 (fun I4 => I4 (.val (.slice none 0 0)) (.val (.int .i64 1)) H) fun I4 t12 t13 H =>
              wGet (faddr 0 t1) H fun t65 H =>
              wGet (load1 t65 H) H fun t66 H =>
              wGet (binA .leq t13 t66) H fun t67 H =>
              wIf t67 (
                wCallV E P (.fn 107 [] [t4_1, t1]) [t13] H fun t73 H =>
                wNewS 1 1 (fillA (List.replicate 1 [(.val (.bool false))]).flatten [(0, 1, t73)]) H fun t74 H =>
                wApp 1 1 t12 t74 H fun t75 H =>
                wGet (binA .add t13 (.val (.int .i64 1))) H fun t69 H =>
                I4 t75 t69 H) (
                R (.tup [t12, (.val (.bool true))]) H)) (
            wGet (load1 t4_1 H) H fun t77 H =>
            wNew 1 (some [(.val (.int .i64 0))]) H fun t4_2 H =>
            wPut (store1 t4_2 t77 H) fun _u H =>
            wGet (load1 t4_2 H) H fun t20 H =>
            wGet (binA .sub t20 (.val (.int .i64 1))) H fun t21 H =>
            wPut (store1 t4_2 t21 H) fun _u H =>
            I1 t4_2 H))) (
      R (.tup [(.val (.slice none 0 0)), (.val (.bool false))]) H)

/-- signalbox/signalboxlaw.sameBools -/
def law_sameBools (E : Env) (P : Program) (a0 a1 : AV) (H : AH) (R : Kt) : Prop :=
  wGet (lenA a0) H fun t7 H =>
  wGet (lenA a1) H fun t9 H =>
  wGet (binA .neq t7 t9) H fun t10 H =>
  wIf t10 (
    R (.val (.bool false)) H) (
    wLoop 1 (fun I1 => I1 (.val (.int .i64 0)) H) fun I1 t5 H =>
      wGet (lenA a0) H fun t13 H =>
      wGet (binA .lss t5 t13) H fun t14 H =>
      wIf t14 (
        wGet (iaddr 1 a0 t5) H fun t19 H =>
        wGet (load1 t19 H) H fun t20 H =>
        wGet (iaddr 1 a1 t5) H fun t23 H =>
        wGet (load1 t23 H) H fun t24 H =>
        wBool (eqA .bool t20 t24) H true fun t25 H =>
        wIf t25 (
          R (.val (.bool false)) H) (
          wGet (binA .add t5 (.val (.int .i64 1))) H fun t16 H =>
          I1 t16 H)) (
        R (.val (.bool true)) H))

/-- (*signalbox/gate.solver).search -/
def pgate_solver_search (E : Env) (P : Program) (a0 : AV) (H : AH) (R : Kt) : Prop :=
  wGet (nilA a0) H fun t12 H =>
  wGet (faddr 4 t12) H fun t13 H =>
  wGet (load1 t13 H) H fun t14 H =>
  wGet (binA .add t14 (.val (.int .i64 1))) H fun t15 H =>
  wGet (nilA a0) H fun t16 H =>
  wGet (faddr 4 t16) H fun t17 H =>
  wPut (store1 t17 t15 H) fun _u H =>
  wGet (nilA a0) H fun t19 H =>
  wGet (faddr 4 t19) H fun t20 H =>
  wGet (load1 t20 H) H fun t21 H =>
  wGet (binA .gtr t21 (.val (.int .i64 20000))) H fun t22 H =>
  wIf t22 (
    R (.tup [(.val (.bool false)), (.ifc 1 (.val (.int .i64 4)))]) H) (
    wGet (nilA a0) H fun t25 H =>
    wGet (faddr 3 t25) H fun t26 H =>
    wGet (load1 t26 H) H fun t27 H =>
    wGet (lenA t27) H fun t28 H =>
    wCall E P 108 [a0] H fun t30 H =>
    wGet (unA .not t30) H fun t31 H =>
    wIf t31 (
      wCall E P 109 [a0, t28] H fun t34 H =>
      R (.tup [(.val (.bool false)), (.val (.nilIface))]) H) (
      wGet (nilA a0) H fun t36 H =>
      wGet (faddr 2 t36) H fun t37 H =>
      wGet (load1 t37 H) H fun t38 H =>
      wGet (sliceA 1 t38 (some (.val (.int .i64 1))) none H) H fun t39 H =>
      wCall E P 110 [t39, (.val (.int .i64 0))] H fun t40 H =>
      wGet (binA .add t40 (.val (.int .i64 1))) H fun t41 H =>
      wGet (binA .eql t41 (.val (.int .i64 0))) H fun t43 H =>
      wIf t43 (
        R (.tup [(.val (.bool true)), (.val (.nilIface))]) H) (
        wGet (unA .neg t41) H fun t46 H =>
        wNewS 1 2 (fillA (List.replicate 2 [(.val (.int .i64 0))]).flatten [(0, 1, t41), (1, 1, t46)]) H fun t47 H =>
        wGet (lenA t47) H fun t48 H =>
        wLoop 1 (fun I1 => I1 (.val (.int .i64 0)) H) fun I1 t49 H =>
          wGet (binA .lss t49 t48) H fun t50 H =>
          wIf t50 (
            wGet (iaddr 1 t47 t49) H fun t51 H =>
            wGet (load1 t51 H) H fun t52 H =>
            wGet (nilA a0) H fun t54 H =>
            wGet (faddr 3 t54) H fun t55 H =>
            wGet (load1 t55 H) H fun t56 H =>
            wGet (lenA t56) H fun t57 H =>
            wCall E P 111 [a0, t52] H fun t60 H =>
            wCall E P 105 [a0] H fun t63 H =>
            wGet (extractA t63 0) H fun t64 H =>
            wGet (extractA t63 1) H fun t65 H =>
            wGuard t64 false H (fun k => k t65 H) fun t68 H =>
            wGuard t64 false H (fun k => wBool (eqA .iface t68 (.val (.nilIface))) H true k) fun t69 H =>
            wGet (pickA t64 (.val (.bool true)) t69) H fun t70 H =>
            wIf t70 (
              R (.tup [t64, t65]) H) (
              wCall E P 109 [a0, t57] H fun t75 H =>
              wGet (binA .add t49 (.val (.int .i64 1))) H fun t76 H =>
              I1 t76 H)) (
            wCall E P 109 [a0, t28] H fun t79 H =>
            R (.tup [(.val (.bool false)), (.val (.nilIface))]) H))))

/-- signalbox/gate.Check$1 -/
def gate_Check_c1 (E : Env) (P : Program) (a0 a1 : AV) (H : AH) (R : Kt) : Prop :=
  wGet (binA .eql a0 (.val (.int .i64 0))) H fun t5 H =>
  wGuard t5 false H (fun k => k a0 H) fun t7 H =>
  wGuard t5 false H (fun k => wGet (faddr 0 a1) H k) fun t8 H =>
  wGuard t5 false H (fun k => wGet (load1 t8 H) H k) fun t9 H =>
  wGuard t5 false H (fun k => wGet (binA .gtr t7 t9) H k) fun t10 H =>
  wGet (pickA t5 (.val (.bool true)) t10) H fun t11 H =>
  wGuard t11 false H (fun k => k a0 H) fun t13 H =>
  wGuard t11 false H (fun k => wGet (faddr 0 a1) H k) fun t14 H =>
  wGuard t11 false H (fun k => wGet (load1 t14 H) H k) fun t15 H =>
  wGuard t11 false H (fun k => wGet (unA .neg t15) H k) fun t16 H =>
  wGuard t11 false H (fun k => wGet (binA .lss t13 t16) H k) fun t17 H =>
  wGet (pickA t11 (.val (.bool true)) t17) H fun t18 H =>
  R t18 H

/-- signalbox/signalboxref.GateSolve$1 -/
def ref_GateSolve_c1 (E : Env) (P : Program) (a0 a1 a2 : AV) (H : AH) (R : Kt) : Prop :=
  wGet (load1 a1 H) H fun t5 H =>
  wGet (faddr 0 a2) H fun t6 H =>
  wGet (load1 t6 H) H fun t7 H =>
  wGet (binA .sub t7 a0) H fun t9 H =>
  wGet (binA .shr t5 t9) H fun t10 H =>
  wGet (binA .and t10 (.val (.int .i64 1))) H fun t11 H =>
  wGet (binA .eql t11 (.val (.int .i64 1))) H fun t12 H =>
  R t12 H

/-- (*signalbox/gate.solver).spread -/
def pgate_solver_spread (E : Env) (P : Program) (a0 : AV) (H : AH) (R : Kt) : Prop :=
  wLoop 1 (fun I1 => I1 (.val (.bool true)) H) fun I1 t3 H =>
    wIf t3 (
      wGet (nilA a0) H fun t13 H =>
      wGet (faddr 0 t13) H fun t14 H =>
      wGet (faddr 1 t14) H fun t15 H =>
      wGet (load1 t15 H) H fun t16 H =>
      wGet (lenA t16) H fun t17 H =>
      wLoop 2 (fun I2 => I2 (.val (.bool false)) (.val (.int .i64 0)) H) fun I2 t3_1 t18 H =>
        wGet (binA .lss t18 t17) H fun t19 H =>
        wIf t19 (
          wJoin 1 (fun J3 =>
            wGet (iaddr 1 t16 t18) H fun t20 H =>
            wGet (load1 t20 H) H fun t21 H =>
            wGet (lenA t21) H fun t23 H =>
            wLoop 4 (fun I4 => I4 (.val (.int .i64 0)) (.val (.int .i64 0)) (.val (.bool false)) (.val (.int .i64 0)) H) fun I4 t6 t7 t8 t24 H =>
              wGet (binA .lss t24 t23) H fun t25 H =>
              wIf t25 (
                wJoin 3 (fun J5 =>
                  wGet (iaddr 1 t21 t24) H fun t26 H =>
                  wGet (load1 t26 H) H fun t27 H =>
                  wCall E P 112 [a0, t27] H fun t30 H =>
                  wGet (binA .eql t30 (.val (.int .i64 1))) H fun t32 H =>
                  wIf t32 (
                    J5 t6 t7 (.val (.bool true)) H) (
                    wGet (binA .eql t30 (.val (.int .i64 0))) H fun t34 H =>
                    wIf t34 (
                      wJoin 1 (fun J6 =>
                        wGet (binA .neq t27 t6) H fun t37 H =>
                        wIf t37 (
                          wGet (binA .add t7 (.val (.int .i64 1))) H fun t39 H =>
                          J6 t39 H) (
                          J6 t7 H)) fun t7_1 H =>
                        J5 t27 t7_1 t8 H) (
                      J5 t6 t7 t8 H))) fun t6_1 t7_2 t8_1 H =>
                  wGet (binA .add t24 (.val (.int .i64 1))) H fun t41 H =>
                  I4 t6_1 t7_2 t8_1 t41 H) (
                wGuard t8 false H (fun k => k t7 H) fun t48 H =>
                wGuard t8 false H (fun k => wGet (binA .gtr t48 (.val (.int .i64 1))) H k) fun t49 H =>
                wGet (pickA t8 (.val (.bool true)) t49) H fun t50 H =>
                wIf t50 (
                  J3 t3_1 H) (
                  wGet (binA .eql t7 (.val (.int .i64 0))) H fun t53 H =>
                  wIf t53 (
                    R (.val (.bool false)) H) (
                    wCall E P 111 [a0, t6] H fun t44 H =>
                    J3 (.val (.bool true)) H)))) fun t3_2 H =>
            wGet (binA .add t18 (.val (.int .i64 1))) H fun t54 H =>
            I2 t3_2 t54 H) (
          I1 t3_1 H)) (
      R (.val (.bool true)) H)

/-- (*signalbox/gate.solver).back -/
def pgate_solver_back (E : Env) (P : Program) (a0 a1 : AV) (H : AH) (R : Kt) : Prop :=
  wGet (nilA a0) H fun t7 H =>
  wGet (faddr 3 t7) H fun t8 H =>
  wGet (load1 t8 H) H fun t9 H =>
  wGet (sliceA 1 t9 (some a1) none H) H fun t11 H =>
  wGet (lenA t11) H fun t12 H =>
  wLoop 1 (fun I1 => I1 (.val (.int .i64 0)) H) fun I1 t13 H =>
    wGet (binA .lss t13 t12) H fun t14 H =>
    wIf t14 (
      wGet (iaddr 1 t11 t13) H fun t15 H =>
      wGet (load1 t15 H) H fun t16 H =>
      wGet (nilA a0) H fun t18 H =>
      wGet (faddr 2 t18) H fun t19 H =>
      wGet (load1 t19 H) H fun t20 H =>
      wGet (iaddr 1 t20 t16) H fun t22 H =>
      wPut (store1 t22 (.val (.int .i64 0)) H) fun _u H =>
      wGet (binA .add t13 (.val (.int .i64 1))) H fun t23 H =>
      I1 t23 H) (
      wGet (nilA a0) H fun t26 H =>
      wGet (faddr 3 t26) H fun t27 H =>
      wGet (load1 t27 H) H fun t28 H =>
      wGet (sliceA 1 t28 none (some a1) H) H fun t30 H =>
      wGet (nilA a0) H fun t31 H =>
      wGet (faddr 3 t31) H fun t32 H =>
      wPut (store1 t32 t30 H) fun _u H =>
      R (.tup []) H)

/-- slices.Index[[]int,int] -/
def slices_Index_Lint_int (E : Env) (P : Program) (a0 a1 : AV) (H : AH) (R : Kt) : Prop :=
  wGet (lenA a0) H fun t7 H =>
  wLoop 1 (fun I1 => I1 (.val (.int .i64 0)) H) fun I1 t8 H =>
    wGet (binA .lss t8 t7) H fun t9 H =>
    wIf t9 (
      wGet (iaddr 1 a0 t8) H fun t14 H =>
      wGet (load1 t14 H) H fun t15 H =>
      wGet (binA .eql a1 t15) H fun t16 H =>
      wIf t16 (
        R t8 H) (
        wGet (binA .add t8 (.val (.int .i64 1))) H fun t18 H =>
        I1 t18 H)) (
      R (.val (.int .i64 (-1))) H)

/-- (*signalbox/gate.solver).set -/
def pgate_solver_set (E : Env) (P : Program) (a0 a1 : AV) (H : AH) (R : Kt) : Prop :=
  wJoin 0 (fun J1 =>
    wGet (binA .lss a1 (.val (.int .i64 0))) H fun t5 H =>
    wIf t5 (
      wGet (nilA a0) H fun t7 H =>
      wGet (faddr 2 t7) H fun t8 H =>
      wGet (load1 t8 H) H fun t9 H =>
      wGet (unA .neg a1) H fun t11 H =>
      wGet (iaddr 1 t9 t11) H fun t12 H =>
      wPut (store1 t12 (.val (.int .i64 (-1))) H) fun _u H =>
      J1 H) (
      wGet (nilA a0) H fun t14 H =>
      wGet (faddr 2 t14) H fun t15 H =>
      wGet (load1 t15 H) H fun t16 H =>
      wGet (iaddr 1 t16 a1) H fun t18 H =>
      wPut (store1 t18 (.val (.int .i64 1)) H) fun _u H =>
      J1 H)) fun H =>
    wGet (nilA a0) H fun t21 H =>
    wGet (faddr 3 t21) H fun t22 H =>
    wGet (load1 t22 H) H fun t23 H =>
    wGet (unA .neg a1) H fun t26 H =>
    wGet (minA true a1 t26) H fun t27 H =>
    wNewS 1 1 (fillA (List.replicate 1 [(.val (.int .i64 0))]).flatten [(0, 1, t27)]) H fun t28 H =>
    wApp 1 8 t23 t28 H fun t29 H =>
    wGet (nilA a0) H fun t30 H =>
    wGet (faddr 3 t30) H fun t31 H =>
    wPut (store1 t31 t29 H) fun _u H =>
    R (.tup []) H

/-- (*signalbox/gate.solver).is -/
def pgate_solver_is (E : Env) (P : Program) (a0 a1 : AV) (H : AH) (R : Kt) : Prop :=
  wGet (binA .lss a1 (.val (.int .i64 0))) H fun t6 H =>
  wIf t6 (
    wGet (nilA a0) H fun t8 H =>
    wGet (faddr 2 t8) H fun t9 H =>
    wGet (load1 t9 H) H fun t10 H =>
    wGet (unA .neg a1) H fun t12 H =>
    wGet (iaddr 1 t10 t12) H fun t13 H =>
    wGet (load1 t13 H) H fun t14 H =>
    wGet (unA .neg t14) H fun t15 H =>
    R t15 H) (
    wGet (nilA a0) H fun t17 H =>
    wGet (faddr 2 t17) H fun t18 H =>
    wGet (load1 t18 H) H fun t19 H =>
    wGet (iaddr 1 t19 a1) H fun t21 H =>
    wGet (load1 t21 H) H fun t22 H =>
    R t22 H)

end Go.Sc.F
namespace Go.Sc
open Go
set_option linter.unusedSimpArgs false
set_option linter.unusedVariables false
set_option linter.unnecessarySimpa false

def TR (tr : List Int) (x : AV) (tb : List Blk) : Prop := (x = nilS ∧ tr = [] ∧ tb = []) ∨ ∃ g2, x = .slL 2 0 tr.length g2 ∧ tb = [.cells g2 1 (tr.map fun z => Z z)]
def gH (ga gs V : Nat) (all : List (List Int)) (of : List Int) (x : AV) (st : Int) (tb : List Blk) (c : Nat) : AH := ⟨.cells ga 1 (of.map fun z => Z z) :: .cells gs 5 [Z V, LLI all, .slL 0 0 (V + 1) ga, x, Z st] :: tb, c⟩
def GH (ga gs V : Nat) (all : List (List Int)) (of tr : List Int) (st : Int) (H : AH) : Prop := ∃ x tb c, H = gH ga gs V all of x st tb c ∧ TR tr x tb
theorem TR.scalar {tr : List Int} {x : AV} {tb : List Blk} (h : TR tr x tb) : x.scalar = true := by
  rcases h with ⟨rfl, _, _⟩ | ⟨g, rfl, _⟩ <;> rfl
theorem TR.len {tr : List Int} {x : AV} {tb : List Blk} (h : TR tr x tb) : lenA x = some (Z tr.length) := by
  rcases h with ⟨rfl, rfl, _⟩ | ⟨g, rfl, _⟩ <;> rfl
structure SolverBodies (E : Env) (P : Program) : Prop where
  search : Body1 E P 105 F.pgate_solver_search
  spread : Body1 E P 108 F.pgate_solver_spread
  back : Body2 E P 109 F.pgate_solver_back
  index : Body2 E P 110 F.slices_Index_Lint_int
  set : Body2 E P 111 F.pgate_solver_set
  is : Body2 E P 112 F.pgate_solver_is
section
variable {E : Env} {P : Program} {ga gs V : Nat} {all : List (List Int)}
theorem neg_Z {x : Int} (h : -1000000 ≤ x ∧ x ≤ 1000000) : unA .neg (Z x) = some (Z (-x)) := by
  rw [unA_neg', wrap_i64 (by omega)]
  congr 3; omega
theorem is_spec (B : SolverBodies E P) {of : List Int} (hs : Sol V of) (hV : V ≤ 1000) {x : Int} (hx : okLit V x) (xx : AV) (st : Int) (tb : List Blk) (c : Nat) : ACalls E P 112 [.ptrL 1 0 gs, Z x] (gH ga gs V all of xx st tb c) fun r H' => r = Z (lv of x) ∧ H' = gH ga gs V all of xx st tb c := by
  refine B.is _ _ _ _ ?_
  unfold F.pgate_solver_is gH
  have hl := hs.len
  obtain ⟨h0, h1, h2⟩ := hx
  simp only [Y0, Y1, Y2, Y3, Y4, Y5, Y6, Y7, Y8, Y9, Ya, Yb, Yc, Yd, Ye, Yf, Yg, Yh, Yi, Yj, Yk, Yl, Ym, Yn, Yo, Yp, Yq, Yr, Ys, Yt, Yu, Yv, Yw, Yx, Yy, Yz, Y10, Y11, Y12, Y13, Y14, Y15, Y16, Y17, Y18, Y19, Y1a, Y1b, Y1c, Y1d, Y1e, Y1f, Y1g, Y1h, Y1i, Y1j, Y1k, Y1l, AV.cells?, Y1n, Y1o, Y1p, Y1q, Y1r, Y1s, Y1t, Nat.reduceAdd, Nat.reduceMul, Y1w, Y1x, Y1y, Y1z, Y20, Y21, Y22, Y23, Y24, Y25, Y26, Y27, Y28, Y29, Y2a, Y2b]
  by_cases hn : x < 0
  · simp only [Y0, Y1, Y2, Y3, Y4, Y5, Y6, Y7, Y8, Y9, Ya, Yb, Yc, Yd, Ye, Yf, Yg, Yh, Yi, Yj, Yk, Yl, Ym, Yn, Yo, Yp, Yq, Yr, Ys, Yt, Yu, Yv, Yw, Yx, Yy, Yz, Y10, Y11, Y12, Y13, Y14, Y15, Y16, Y17, Y18, Y19, Y1a, Y1b, Y1c, Y1d, Y1e, Y1f, Y1g, Y1h, Y1i, Y1j, Y1k, Y1l, AV.cells?, Y1n, Y1o, Y1p, Y1q, Y1r, Y1s, Y1t, Nat.reduceAdd, Nat.reduceMul, Y1w, Y1x, Y1y, Y1z, Y20, Y21, Y22, Y23, Y24, Y25, Y26, Y27, Y28, Y29, Y2a, Y2b, decide_eq_true hn]
    rw [neg_Z (by omega), show (-x) = (((-x).toNat : Nat) : Int) by omega]
    simp only [Y0, Y1, Y2, Y3, Y4, Y5, Y6, Y7, Y8, Y9, Ya, Yb, Yc, Yd, Ye, Yf, Yg, Yh, Yi, Yj, Yk, Yl, Ym, Yn, Yo, Yp, Yq, Yr, Ys, Yt, Yu, Yv, Yw, Yx, Yy, Yz, Y10, Y11, Y12, Y13, Y14, Y15, Y16, Y17, Y18, Y19, Y1a, Y1b, Y1c, Y1d, Y1e, Y1f, Y1g, Y1h, Y1i, Y1j, Y1k, Y1l, AV.cells?, Y1n, Y1o, Y1p, Y1q, Y1r, Y1s, Y1t, Nat.reduceAdd, Nat.reduceMul, Y1w, Y1x, Y1y, Y1z, Y20, Y21, Y22, Y23, Y24, Y25, Y26, Y27, Y28, Y29, Y2a, Y2b]
    rw [iaddr_Ln (by omega)]
    simp only [Y0, Y1, Y2, Y3, Y4, Y5, Y6, Y7, Y8, Y9, Ya, Yb, Yc, Yd, Ye, Yf, Yg, Yh, Yi, Yj, Yk, Yl, Ym, Yn, Yo, Yp, Yq, Yr, Ys, Yt, Yu, Yv, Yw, Yx, Yy, Yz, Y10, Y11, Y12, Y13, Y14, Y15, Y16, Y17, Y18, Y19, Y1a, Y1b, Y1c, Y1d, Y1e, Y1f, Y1g, Y1h, Y1i, Y1j, Y1k, Y1l, AV.cells?, Y1n, Y1o, Y1p, Y1q, Y1r, Y1s, Y1t, Nat.reduceAdd, Nat.reduceMul, Y1w, Y1x, Y1y, Y1z, Y20, Y21, Y22, Y23, Y24, Y25, Y26, Y27, Y28, Y29, Y2a, Y2b, cell_at (show (-x).toNat < of.length by omega)]
    have hv := hs.val (-x).toNat
    rw [neg_Z (by omega)]
    simp only [Y0, Y1, Y2, Y3, Y4, Y5, Y6, Y7, Y8, Y9, Ya, Yb, Yc, Yd, Ye, Yf, Yg, Yh, Yi, Yj, Yk, Yl, Ym, Yn, Yo, Yp, Yq, Yr, Ys, Yt, Yu, Yv, Yw, Yx, Yy, Yz, Y10, Y11, Y12, Y13, Y14, Y15, Y16, Y17, Y18, Y19, Y1a, Y1b, Y1c, Y1d, Y1e, Y1f, Y1g, Y1h, Y1i, Y1j, Y1k, Y1l, AV.cells?, Y1n, Y1o, Y1p, Y1q, Y1r, Y1s, Y1t, Nat.reduceAdd, Nat.reduceMul, Y1w, Y1x, Y1y, Y1z, Y20, Y21, Y22, Y23, Y24, Y25, Y26, Y27, Y28, Y29, Y2a, Y2b]
    exact ⟨by rw [lv, if_pos hn], trivial⟩
  · simp only [Y0, Y1, Y2, Y3, Y4, Y5, Y6, Y7, Y8, Y9, Ya, Yb, Yc, Yd, Ye, Yf, Yg, Yh, Yi, Yj, Yk, Yl, Ym, Yn, Yo, Yp, Yq, Yr, Ys, Yt, Yu, Yv, Yw, Yx, Yy, Yz, Y10, Y11, Y12, Y13, Y14, Y15, Y16, Y17, Y18, Y19, Y1a, Y1b, Y1c, Y1d, Y1e, Y1f, Y1g, Y1h, Y1i, Y1j, Y1k, Y1l, AV.cells?, Y1n, Y1o, Y1p, Y1q, Y1r, Y1s, Y1t, Nat.reduceAdd, Nat.reduceMul, Y1w, Y1x, Y1y, Y1z, Y20, Y21, Y22, Y23, Y24, Y25, Y26, Y27, Y28, Y29, Y2a, Y2b, decide_eq_false hn]
    obtain ⟨y, rfl⟩ : ∃ y : Nat, x = y := ⟨x.toNat, by omega⟩
    rw [iaddr_Ln (by omega)]
    simp only [Y0, Y1, Y2, Y3, Y4, Y5, Y6, Y7, Y8, Y9, Ya, Yb, Yc, Yd, Ye, Yf, Yg, Yh, Yi, Yj, Yk, Yl, Ym, Yn, Yo, Yp, Yq, Yr, Ys, Yt, Yu, Yv, Yw, Yx, Yy, Yz, Y10, Y11, Y12, Y13, Y14, Y15, Y16, Y17, Y18, Y19, Y1a, Y1b, Y1c, Y1d, Y1e, Y1f, Y1g, Y1h, Y1i, Y1j, Y1k, Y1l, AV.cells?, Y1n, Y1o, Y1p, Y1q, Y1r, Y1s, Y1t, Nat.reduceAdd, Nat.reduceMul, Y1w, Y1x, Y1y, Y1z, Y20, Y21, Y22, Y23, Y24, Y25, Y26, Y27, Y28, Y29, Y2a, Y2b, cell_at (show y < of.length by omega)]
    exact ⟨by rw [lv, if_neg (by omega)]; simp, trivial⟩
theorem set_spec (B : SolverBodies E P) {of tr : List Int} (hs : Sol V of) (hV : V ≤ 1000) {x : Int} (hx : okLit V x) (htr : tr.length < 100000) {st : Int} {H : AH} (hH : GH ga gs V all of tr st H) : ACalls E P 111 [.ptrL 1 0 gs, Z x] H fun r H' => r = .tup [] ∧ GH ga gs V all (litSet of x) (tr ++ [(vr x : Int)]) st H' := by
  obtain ⟨xx, tb, c, rfl, ht⟩ := hH
  refine B.set _ _ _ _ ?_
  unfold F.pgate_solver_set gH
  have hl := hs.len
  obtain ⟨h0, h1, h2⟩ := hx
  have hset : ∀ (v : Int) (i : Nat), (of.map fun z => Z z).set i (Z v) = (of.set i v).map fun z => Z z := fun v i => by rw [List.map_set]
  refine wJoin.zero (fun H => H = gH ga gs V all (litSet of x) xx st tb c) ?_ ?_
  · simp only [Y0, Y1, Y2, Y3, Y4, Y5, Y6, Y7, Y8, Y9, Ya, Yb, Yc, Yd, Ye, Yf, Yg, Yh, Yi, Yj, Yk, Yl, Ym, Yn, Yo, Yp, Yq, Yr, Ys, Yt, Yu, Yv, Yw, Yx, Yy, Yz, Y10, Y11, Y12, Y13, Y14, Y15, Y16, Y17, Y18, Y19, Y1a, Y1b, Y1c, Y1d, Y1e, Y1f, Y1g, Y1h, Y1i, Y1j, Y1k, Y1l, AV.cells?, Y1n, Y1o, Y1p, Y1q, Y1r, Y1s, Y1t, Nat.reduceAdd, Nat.reduceMul, Y1w, Y1x, Y1y, Y1z, Y20, Y21, Y22, Y23, Y24, Y25, Y26, Y27, Y28, Y29, Y2a, Y2b]
    by_cases hn : x < 0
    · simp only [Y0, Y1, Y2, Y3, Y4, Y5, Y6, Y7, Y8, Y9, Ya, Yb, Yc, Yd, Ye, Yf, Yg, Yh, Yi, Yj, Yk, Yl, Ym, Yn, Yo, Yp, Yq, Yr, Ys, Yt, Yu, Yv, Yw, Yx, Yy, Yz, Y10, Y11, Y12, Y13, Y14, Y15, Y16, Y17, Y18, Y19, Y1a, Y1b, Y1c, Y1d, Y1e, Y1f, Y1g, Y1h, Y1i, Y1j, Y1k, Y1l, AV.cells?, Y1n, Y1o, Y1p, Y1q, Y1r, Y1s, Y1t, Nat.reduceAdd, Nat.reduceMul, Y1w, Y1x, Y1y, Y1z, Y20, Y21, Y22, Y23, Y24, Y25, Y26, Y27, Y28, Y29, Y2a, Y2b, decide_eq_true hn]
      rw [neg_Z (by omega), show (-x) = (((-x).toNat : Nat) : Int) by omega]
      simp only [Y0, Y1, Y2, Y3, Y4, Y5, Y6, Y7, Y8, Y9, Ya, Yb, Yc, Yd, Ye, Yf, Yg, Yh, Yi, Yj, Yk, Yl, Ym, Yn, Yo, Yp, Yq, Yr, Ys, Yt, Yu, Yv, Yw, Yx, Yy, Yz, Y10, Y11, Y12, Y13, Y14, Y15, Y16, Y17, Y18, Y19, Y1a, Y1b, Y1c, Y1d, Y1e, Y1f, Y1g, Y1h, Y1i, Y1j, Y1k, Y1l, AV.cells?, Y1n, Y1o, Y1p, Y1q, Y1r, Y1s, Y1t, Nat.reduceAdd, Nat.reduceMul, Y1w, Y1x, Y1y, Y1z, Y20, Y21, Y22, Y23, Y24, Y25, Y26, Y27, Y28, Y29, Y2a, Y2b]
      rw [iaddr_Ln (by omega)]
      simp only [Y0, Y1, Y2, Y3, Y4, Y5, Y6, Y7, Y8, Y9, Ya, Yb, Yc, Yd, Ye, Yf, Yg, Yh, Yi, Yj, Yk, Yl, Ym, Yn, Yo, Yp, Yq, Yr, Ys, Yt, Yu, Yv, Yw, Yx, Yy, Yz, Y10, Y11, Y12, Y13, Y14, Y15, Y16, Y17, Y18, Y19, Y1a, Y1b, Y1c, Y1d, Y1e, Y1f, Y1g, Y1h, Y1i, Y1j, Y1k, Y1l, AV.cells?, Y1n, Y1o, Y1p, Y1q, Y1r, Y1s, Y1t, Nat.reduceAdd, Nat.reduceMul, Y1w, Y1x, Y1y, Y1z, Y20, Y21, Y22, Y23, Y24, Y25, Y26, Y27, Y28, Y29, Y2a, Y2b]
      rw [store1_L rfl]
      simp only [Y0, Y1, Y2, Y3, Y4, Y5, Y6, Y7, Y8, Y9, Ya, Yb, Yc, Yd, Ye, Yf, Yg, Yh, Yi, Yj, Yk, Yl, Ym, Yn, Yo, Yp, Yq, Yr, Ys, Yt, Yu, Yv, Yw, Yx, Yy, Yz, Y10, Y11, Y12, Y13, Y14, Y15, Y16, Y17, Y18, Y19, Y1a, Y1b, Y1c, Y1d, Y1e, Y1f, Y1g, Y1h, Y1i, Y1j, Y1k, Y1l, AV.cells?, Y1n, Y1o, Y1p, Y1q, Y1r, Y1s, Y1t, Nat.reduceAdd, Nat.reduceMul, Y1w, Y1x, Y1y, Y1z, Y20, Y21, Y22, Y23, Y24, Y25, Y26, Y27, Y28, Y29, Y2a, Y2b, List.length_map, show (-x).toNat < of.length by omega, hset]
      refine gh0.mk ?_
      unfold gH litSet
      rw [if_pos hn, show vr x = (-x).toNat by unfold vr; omega]
    · simp only [Y0, Y1, Y2, Y3, Y4, Y5, Y6, Y7, Y8, Y9, Ya, Yb, Yc, Yd, Ye, Yf, Yg, Yh, Yi, Yj, Yk, Yl, Ym, Yn, Yo, Yp, Yq, Yr, Ys, Yt, Yu, Yv, Yw, Yx, Yy, Yz, Y10, Y11, Y12, Y13, Y14, Y15, Y16, Y17, Y18, Y19, Y1a, Y1b, Y1c, Y1d, Y1e, Y1f, Y1g, Y1h, Y1i, Y1j, Y1k, Y1l, AV.cells?, Y1n, Y1o, Y1p, Y1q, Y1r, Y1s, Y1t, Nat.reduceAdd, Nat.reduceMul, Y1w, Y1x, Y1y, Y1z, Y20, Y21, Y22, Y23, Y24, Y25, Y26, Y27, Y28, Y29, Y2a, Y2b, decide_eq_false hn]
      rw [show x = ((x.toNat : Nat) : Int) by omega]
      rw [iaddr_Ln (by omega)]
      simp only [Y0, Y1, Y2, Y3, Y4, Y5, Y6, Y7, Y8, Y9, Ya, Yb, Yc, Yd, Ye, Yf, Yg, Yh, Yi, Yj, Yk, Yl, Ym, Yn, Yo, Yp, Yq, Yr, Ys, Yt, Yu, Yv, Yw, Yx, Yy, Yz, Y10, Y11, Y12, Y13, Y14, Y15, Y16, Y17, Y18, Y19, Y1a, Y1b, Y1c, Y1d, Y1e, Y1f, Y1g, Y1h, Y1i, Y1j, Y1k, Y1l, AV.cells?, Y1n, Y1o, Y1p, Y1q, Y1r, Y1s, Y1t, Nat.reduceAdd, Nat.reduceMul, Y1w, Y1x, Y1y, Y1z, Y20, Y21, Y22, Y23, Y24, Y25, Y26, Y27, Y28, Y29, Y2a, Y2b]
      rw [store1_L rfl]
      simp only [Y0, Y1, Y2, Y3, Y4, Y5, Y6, Y7, Y8, Y9, Ya, Yb, Yc, Yd, Ye, Yf, Yg, Yh, Yi, Yj, Yk, Yl, Ym, Yn, Yo, Yp, Yq, Yr, Ys, Yt, Yu, Yv, Yw, Yx, Yy, Yz, Y10, Y11, Y12, Y13, Y14, Y15, Y16, Y17, Y18, Y19, Y1a, Y1b, Y1c, Y1d, Y1e, Y1f, Y1g, Y1h, Y1i, Y1j, Y1k, Y1l, AV.cells?, Y1n, Y1o, Y1p, Y1q, Y1r, Y1s, Y1t, Nat.reduceAdd, Nat.reduceMul, Y1w, Y1x, Y1y, Y1z, Y20, Y21, Y22, Y23, Y24, Y25, Y26, Y27, Y28, Y29, Y2a, Y2b, List.length_map, show x.toNat < of.length by omega, hset]
      refine gh0.mk ?_
      unfold gH litSet
      rw [if_neg (by omega), show vr ((x.toNat : Nat) : Int) = x.toNat by unfold vr; omega]
  · rintro H rfl
    unfold gH
    simp only [Y0, Y1, Y2, Y3, Y4, Y5, Y6, Y7, Y8, Y9, Ya, Yb, Yc, Yd, Ye, Yf, Yg, Yh, Yi, Yj, Yk, Yl, Ym, Yn, Yo, Yp, Yq, Yr, Ys, Yt, Yu, Yv, Yw, Yx, Yy, Yz, Y10, Y11, Y12, Y13, Y14, Y15, Y16, Y17, Y18, Y19, Y1a, Y1b, Y1c, Y1d, Y1e, Y1f, Y1g, Y1h, Y1i, Y1j, Y1k, Y1l, AV.cells?, Y1n, Y1o, Y1p, Y1q, Y1r, Y1s, Y1t, Nat.reduceAdd, Nat.reduceMul, Y1w, Y1x, Y1y, Y1z, Y20, Y21, Y22, Y23, Y24, Y25, Y26, Y27, Y28, Y29, Y2a, Y2b]
    rw [neg_Z (by omega)]
    simp only [Y0, Y1, Y2, Y3, Y4, Y5, Y6, Y7, Y8, Y9, Ya, Yb, Yc, Yd, Ye, Yf, Yg, Yh, Yi, Yj, Yk, Yl, Ym, Yn, Yo, Yp, Yq, Yr, Ys, Yt, Yu, Yv, Yw, Yx, Yy, Yz, Y10, Y11, Y12, Y13, Y14, Y15, Y16, Y17, Y18, Y19, Y1a, Y1b, Y1c, Y1d, Y1e, Y1f, Y1g, Y1h, Y1i, Y1j, Y1k, Y1l, AV.cells?, Y1n, Y1o, Y1p, Y1q, Y1r, Y1s, Y1t, Nat.reduceAdd, Nat.reduceMul, Y1w, Y1x, Y1y, Y1z, Y20, Y21, Y22, Y23, Y24, Y25, Y26, Y27, Y28, Y29, Y2a, Y2b]
    have hmx : minA true (Z x) (Z (-x)) = some (Z (vr x : Int)) := by
      simp only [minA, if_true]
      unfold vr
      by_cases h : (-x : Int) > x
      · rw [if_pos h]; congr 3; omega
      · rw [if_neg h]; congr 3; omega
    rw [hmx]
    simp only [Y0, Y1, Y2, Y3, Y4, Y5, Y6, Y7, Y8, Y9, Ya, Yb, Yc, Yd, Ye, Yf, Yg, Yh, Yi, Yj, Yk, Yl, Ym, Yn, Yo, Yp, Yq, Yr, Ys, Yt, Yu, Yv, Yw, Yx, Yy, Yz, Y10, Y11, Y12, Y13, Y14, Y15, Y16, Y17, Y18, Y19, Y1a, Y1b, Y1c, Y1d, Y1e, Y1f, Y1g, Y1h, Y1i, Y1j, Y1k, Y1l, AV.cells?, Y1n, Y1o, Y1p, Y1q, Y1r, Y1s, Y1t, Nat.reduceAdd, Nat.reduceMul, Y1w, Y1x, Y1y, Y1z, Y20, Y21, Y22, Y23, Y24, Y25, Y26, Y27, Y28, Y29, Y2a, Y2b]
    refine wNewS.F' (l := [Z (vr x : Int)]) rfl rfl ?_
    rcases ht with ⟨rfl, rfl, rfl⟩ | ⟨g2, rfl, rfl⟩
    · refine ⟨_, _, .old (r := .slL 2 0 1 c) (H' := ⟨[.cells ga 1 ((litSet of x).map fun z => Z z), .cells gs 5 [Z V, LLI all, .slL 0 0 (V + 1) ga, nilS, Z st], .cells c 1 [Z (vr x : Int)]], c + 1⟩) rfl, ?_⟩
      simp only [Y0, Y1, Y2, Y3, Y4, Y5, Y6, Y7, Y8, Y9, Ya, Yb, Yc, Yd, Ye, Yf, Yg, Yh, Yi, Yj, Yk, Yl, Ym, Yn, Yo, Yp, Yq, Yr, Ys, Yt, Yu, Yv, Yw, Yx, Yy, Yz, Y10, Y11, Y12, Y13, Y14, Y15, Y16, Y17, Y18, Y19, Y1a, Y1b, Y1c, Y1d, Y1e, Y1f, Y1g, Y1h, Y1i, Y1j, Y1k, Y1l, AV.cells?, Y1n, Y1o, Y1p, Y1q, Y1r, Y1s, Y1t, Nat.reduceAdd, Nat.reduceMul, Y1w, Y1x, Y1y, Y1z, Y20, Y21, Y22, Y23, Y24, Y25, Y26, Y27, Y28, Y29, Y2a, Y2b]
      rw [store1_L rfl]
      simp only [Y0, Y1, Y2, Y3, Y4, Y5, Y6, Y7, Y8, Y9, Ya, Yb, Yc, Yd, Ye, Yf, Yg, Yh, Yi, Yj, Yk, Yl, Ym, Yn, Yo, Yp, Yq, Yr, Ys, Yt, Yu, Yv, Yw, Yx, Yy, Yz, Y10, Y11, Y12, Y13, Y14, Y15, Y16, Y17, Y18, Y19, Y1a, Y1b, Y1c, Y1d, Y1e, Y1f, Y1g, Y1h, Y1i, Y1j, Y1k, Y1l, AV.cells?, Y1n, Y1o, Y1p, Y1q, Y1r, Y1s, Y1t, Nat.reduceAdd, Nat.reduceMul, Y1w, Y1x, Y1y, Y1z, Y20, Y21, Y22, Y23, Y24, Y25, Y26, Y27, Y28, Y29, Y2a, Y2b, Nat.reduceLT]
      exact ⟨trivial, .slL 2 0 1 c, _, _, rfl, .inr ⟨c, rfl, rfl⟩⟩
    · have happ : appendA 1 8 (.slL 2 0 tr.length g2) (.slN [Z (vr x : Int)] 1) ⟨[.cells ga 1 ((litSet of x).map fun z => Z z), .cells gs 5 [Z V, LLI all, .slL 0 0 (V + 1) ga, .slL 2 0 tr.length g2, Z st], .cells g2 1 (tr.map fun z => Z z)], c⟩
          = some (.slL 2 0 (tr.length + 1) c, ⟨[.cells ga 1 ((litSet of x).map fun z => Z z), .cells gs 5 [Z V, LLI all, .slL 0 0 (V + 1) ga, .slL 2 0 tr.length g2, Z st], .cells c 1 ((tr ++ [(vr x : Int)]).map fun z => Z z)], c + 1⟩) := by
        have hb : (tr.length + 1) * 8 ≤ mostBytes ∧ tr.length + 1 ≤ mostBytes := by simp [mostBytes]; omega
        simp [appendA, cellsOfA, subL, AH.cells, AH.esz, hb, AV.scalar]
      refine ⟨_, _, .old happ, ?_⟩
      rw [store1_L rfl]
      simp only [Y0, Y1, Y2, Y3, Y4, Y5, Y6, Y7, Y8, Y9, Ya, Yb, Yc, Yd, Ye, Yf, Yg, Yh, Yi, Yj, Yk, Yl, Ym, Yn, Yo, Yp, Yq, Yr, Ys, Yt, Yu, Yv, Yw, Yx, Yy, Yz, Y10, Y11, Y12, Y13, Y14, Y15, Y16, Y17, Y18, Y19, Y1a, Y1b, Y1c, Y1d, Y1e, Y1f, Y1g, Y1h, Y1i, Y1j, Y1k, Y1l, AV.cells?, Y1n, Y1o, Y1p, Y1q, Y1r, Y1s, Y1t, Nat.reduceAdd, Nat.reduceMul, Y1w, Y1x, Y1y, Y1z, Y20, Y21, Y22, Y23, Y24, Y25, Y26, Y27, Y28, Y29, Y2a, Y2b, Nat.reduceLT]
      exact ⟨trivial, .slL 2 0 (tr.length + 1) c, _, _, rfl, .inr ⟨c, by simp, rfl⟩⟩
theorem back_spec (B : SolverBodies E P) {of tr : List Int} (hs : of.length = V + 1) (hV : V ≤ 1000) (htr : ∀ t ∈ tr, 1 ≤ t ∧ t ≤ V) (hlen : tr.length < 100000) {n : Nat} (hn : n ≤ tr.length) {st : Int} {H : AH} (hH : GH ga gs V all of tr st H) :
    ACalls E P 109 [.ptrL 1 0 gs, Z n] H fun r H' => r = .tup [] ∧ GH ga gs V all (reset of (tr.drop n)) (tr.take n) st H' := by
  obtain ⟨xx, tb, c, rfl, ht⟩ := hH
  have hset : ∀ (of : List Int) (v : Int) (i : Nat), (of.map fun z => Z z).set i (Z v) = (of.set i v).map fun z => Z z := fun of v i => by rw [List.map_set]
  rcases ht with ⟨rfl, rfl, rfl⟩ | ⟨g2, rfl, rfl⟩
  · have : n = 0 := by simpa using hn
    subst this
    refine B.back _ _ _ _ ?_
    unfold F.pgate_solver_back gH
    simp only [Y0, Y1, Y2, Y3, Y4, Y5, Y6, Y7, Y8, Y9, Ya, Yb, Yc, Yd, Ye, Yf, Yg, Yh, Yi, Yj, Yk, Yl, Ym, Yn, Yo, Yp, Yq, Yr, Ys, Yt, Yu, Yv, Yw, Yx, Yy, Yz, Y10, Y11, Y12, Y13, Y14, Y15, Y16, Y17, Y18, Y19, Y1a, Y1b, Y1c, Y1d, Y1e, Y1f, Y1g, Y1h, Y1i, Y1j, Y1k, Y1l, AV.cells?, Y1n, Y1o, Y1p, Y1q, Y1r, Y1s, Y1t, Nat.reduceAdd, Nat.reduceMul, Y1w, Y1x, Y1y, Y1z, Y20, Y21, Y22, Y23, Y24, Y25, Y26, Y27, Y28, Y29, Y2a, Y2b]
    have hsl : sliceA 1 nilS (some (.val (.int .i64 0))) none ⟨[.cells ga 1 (of.map fun z => Z z), .cells gs 5 [Z V, LLI all, .slL 0 0 (V + 1) ga, nilS, Z st]], c⟩ = some nilS := rfl
    rw [show ((0 : Nat) : Int) = 0 from rfl, hsl]
    simp only [Y0, Y1, Y2, Y3, Y4, Y5, Y6, Y7, Y8, Y9, Ya, Yb, Yc, Yd, Ye, Yf, Yg, Yh, Yi, Yj, Yk, Yl, Ym, Yn, Yo, Yp, Yq, Yr, Ys, Yt, Yu, Yv, Yw, Yx, Yy, Yz, Y10, Y11, Y12, Y13, Y14, Y15, Y16, Y17, Y18, Y19, Y1a, Y1b, Y1c, Y1d, Y1e, Y1f, Y1g, Y1h, Y1i, Y1j, Y1k, Y1l, AV.cells?, Y1n, Y1o, Y1p, Y1q, Y1r, Y1s, Y1t, Nat.reduceAdd, Nat.reduceMul, Y1w, Y1x, Y1y, Y1z, Y20, Y21, Y22, Y23, Y24, Y25, Y26, Y27, Y28, Y29, Y2a, Y2b]
    refine wLoop.one (fun m i H => H = gH ga gs V all of nilS st [] c ∧ i = Z 0) 0 (gh1.mk ⟨rfl, rfl⟩) ?_
    rintro m i H ⟨rfl, rfl⟩
    unfold gH
    simp only [Y0, Y1, Y2, Y3, Y4, Y5, Y6, Y7, Y8, Y9, Ya, Yb, Yc, Yd, Ye, Yf, Yg, Yh, Yi, Yj, Yk, Yl, Ym, Yn, Yo, Yp, Yq, Yr, Ys, Yt, Yu, Yv, Yw, Yx, Yy, Yz, Y10, Y11, Y12, Y13, Y14, Y15, Y16, Y17, Y18, Y19, Y1a, Y1b, Y1c, Y1d, Y1e, Y1f, Y1g, Y1h, Y1i, Y1j, Y1k, Y1l, AV.cells?, Y1n, Y1o, Y1p, Y1q, Y1r, Y1s, Y1t, Nat.reduceAdd, Nat.reduceMul, Y1w, Y1x, Y1y, Y1z, Y20, Y21, Y22, Y23, Y24, Y25, Y26, Y27, Y28, Y29, Y2a, Y2b, show ((0 : Nat) : Int) = 0 from rfl, Int.lt_irrefl]
    have hsl2 : sliceA 1 nilS none (some (.val (.int .i64 0))) ⟨[.cells ga 1 (of.map fun z => Z z), .cells gs 5 [Z V, LLI all, .slL 0 0 (V + 1) ga, nilS, Z st]], c⟩ = some nilS := rfl
    rw [hsl2]
    simp only [Y0, Y1, Y2, Y3, Y4, Y5, Y6, Y7, Y8, Y9, Ya, Yb, Yc, Yd, Ye, Yf, Yg, Yh, Yi, Yj, Yk, Yl, Ym, Yn, Yo, Yp, Yq, Yr, Ys, Yt, Yu, Yv, Yw, Yx, Yy, Yz, Y10, Y11, Y12, Y13, Y14, Y15, Y16, Y17, Y18, Y19, Y1a, Y1b, Y1c, Y1d, Y1e, Y1f, Y1g, Y1h, Y1i, Y1j, Y1k, Y1l, AV.cells?, Y1n, Y1o, Y1p, Y1q, Y1r, Y1s, Y1t, Nat.reduceAdd, Nat.reduceMul, Y1w, Y1x, Y1y, Y1z, Y20, Y21, Y22, Y23, Y24, Y25, Y26, Y27, Y28, Y29, Y2a, Y2b]
    rw [store1_L rfl]
    simp only [Y0, Y1, Y2, Y3, Y4, Y5, Y6, Y7, Y8, Y9, Ya, Yb, Yc, Yd, Ye, Yf, Yg, Yh, Yi, Yj, Yk, Yl, Ym, Yn, Yo, Yp, Yq, Yr, Ys, Yt, Yu, Yv, Yw, Yx, Yy, Yz, Y10, Y11, Y12, Y13, Y14, Y15, Y16, Y17, Y18, Y19, Y1a, Y1b, Y1c, Y1d, Y1e, Y1f, Y1g, Y1h, Y1i, Y1j, Y1k, Y1l, AV.cells?, Y1n, Y1o, Y1p, Y1q, Y1r, Y1s, Y1t, Nat.reduceAdd, Nat.reduceMul, Y1w, Y1x, Y1y, Y1z, Y20, Y21, Y22, Y23, Y24, Y25, Y26, Y27, Y28, Y29, Y2a, Y2b, Nat.reduceLT]
    exact ⟨trivial, nilS, [], c, rfl, .inl ⟨rfl, rfl, rfl⟩⟩
  · refine ACalls.mono (R := fun r H' => r = .tup [] ∧ H' = gH ga gs V all (reset of (tr.drop n)) (.slL 2 0 n g2) st [.cells g2 1 (tr.map fun z => Z z)] c) (B.back _ _ _ _ ?_) ?_
    case refine_2 =>
      rintro r H' ⟨rfl, rfl⟩
      refine ⟨.tup [], gH ga gs V all (reset of (tr.drop n)) (.slL 2 0 n g2) st [.cells g2 1 ((tr.map fun z => Z z).take n)] c, ?_, rfl, _, _, _, rfl, .inr ⟨g2, by rw [List.length_take, Nat.min_eq_left hn], by rw [List.map_take]⟩⟩
      exact ghost_kill (H := gH ga gs V all (reset of (tr.drop n)) (.slL 2 0 n g2) st [.cells g2 1 (tr.map fun z => Z z)] c) (H' := gH ga gs V all (reset of (tr.drop n)) (.slL 2 0 n g2) st [.cells g2 1 ((tr.map fun z => Z z).take n)] c) (S := fun _ => false) rfl (.keep rfl (KB.same _) (.keep rfl (KB.same _) (.keep rfl (KB.cut (n := n) (cs := tr.map fun z => Z z) (by simpa using hn)) .nil))) (FkL.same _)
    unfold F.pgate_solver_back gH
    simp only [Y0, Y1, Y2, Y3, Y4, Y5, Y6, Y7, Y8, Y9, Ya, Yb, Yc, Yd, Ye, Yf, Yg, Yh, Yi, Yj, Yk, Yl, Ym, Yn, Yo, Yp, Yq, Yr, Ys, Yt, Yu, Yv, Yw, Yx, Yy, Yz, Y10, Y11, Y12, Y13, Y14, Y15, Y16, Y17, Y18, Y19, Y1a, Y1b, Y1c, Y1d, Y1e, Y1f, Y1g, Y1h, Y1i, Y1j, Y1k, Y1l, AV.cells?, Y1n, Y1o, Y1p, Y1q, Y1r, Y1s, Y1t, Nat.reduceAdd, Nat.reduceMul, Y1w, Y1x, Y1y, Y1z, Y20, Y21, Y22, Y23, Y24, Y25, Y26, Y27, Y28, Y29, Y2a, Y2b]
    have hesz : ∀ (o : List Int) (x : AV) c, (⟨[.cells ga 1 (o.map fun z => Z z), .cells gs 5 [Z V, LLI all, .slL 0 0 (V + 1) ga, x, Z st], .cells g2 1 (tr.map fun z => Z z)], c⟩ : AH).esz 2 g2 = some 1 := fun o x c => by simp [AH.esz]
    have hsl : ∀ (o : List Int) (x : AV) c, sliceA 1 (.slL 2 0 tr.length g2) (some (Z (n : Int))) none ⟨[.cells ga 1 (o.map fun z => Z z), .cells gs 5 [Z V, LLI all, .slL 0 0 (V + 1) ga, x, Z st], .cells g2 1 (tr.map fun z => Z z)], c⟩ = some (.slL 2 n (tr.length - n) g2) := fun o x c => by
      simp only [sliceA, bnd, Option.bind_some, hesz, true_and]
      rw [if_pos (by omega)]
      simp
    rw [hsl]
    simp only [Y0, Y1, Y2, Y3, Y4, Y5, Y6, Y7, Y8, Y9, Ya, Yb, Yc, Yd, Ye, Yf, Yg, Yh, Yi, Yj, Yk, Yl, Ym, Yn, Yo, Yp, Yq, Yr, Ys, Yt, Yu, Yv, Yw, Yx, Yy, Yz, Y10, Y11, Y12, Y13, Y14, Y15, Y16, Y17, Y18, Y19, Y1a, Y1b, Y1c, Y1d, Y1e, Y1f, Y1g, Y1h, Y1i, Y1j, Y1k, Y1l, AV.cells?, Y1n, Y1o, Y1p, Y1q, Y1r, Y1s, Y1t, Nat.reduceAdd, Nat.reduceMul, Y1w, Y1x, Y1y, Y1z, Y20, Y21, Y22, Y23, Y24, Y25, Y26, Y27, Y28, Y29, Y2a, Y2b]
    have hsplit : ∀ i, i < tr.length - n → ((tr.drop n).take (i + 1)) = (tr.drop n).take i ++ [cell tr (n + i)] := fun i hi => by
      rw [List.take_succ_eq_append_getElem (by simp; omega)]
      congr 2
      simp [cell, List.getElem_drop, List.getElem?_eq_getElem (show n + i < tr.length by omega)]
    refine wLoop.one (fun m x H => ∃ i : Nat, i + m = tr.length - n ∧ x = Z i ∧ H = gH ga gs V all (reset of ((tr.drop n).take i)) (.slL 2 0 tr.length g2) st [.cells g2 1 (tr.map fun z => Z z)] c) (tr.length - n) (gh1.mk ⟨0, by omega, rfl, by simp [reset, gH]⟩) ?_
    rintro m x H ⟨i, him, rfl, rfl⟩
    unfold gH
    by_cases hi : i < tr.length - n
    · simp only [Y0, Y1, Y2, Y3, Y4, Y5, Y6, Y7, Y8, Y9, Ya, Yb, Yc, Yd, Ye, Yf, Yg, Yh, Yi, Yj, Yk, Yl, Ym, Yn, Yo, Yp, Yq, Yr, Ys, Yt, Yu, Yv, Yw, Yx, Yy, Yz, Y10, Y11, Y12, Y13, Y14, Y15, Y16, Y17, Y18, Y19, Y1a, Y1b, Y1c, Y1d, Y1e, Y1f, Y1g, Y1h, Y1i, Y1j, Y1k, Y1l, AV.cells?, Y1n, Y1o, Y1p, Y1q, Y1r, Y1s, Y1t, Nat.reduceAdd, Nat.reduceMul, Y1w, Y1x, Y1y, Y1z, Y20, Y21, Y22, Y23, Y24, Y25, Y26, Y27, Y28, Y29, Y2a, Y2b, decide_eq_true (show (i : Int) < ((tr.length - n : Nat) : Int) by omega)]
      rw [iaddr_L (by omega)]
      have hg : (tr.map fun z => Z z)[n + i]? = some (Z (cell tr (n + i))) := cell_at (by omega)
      simp only [Y0, Y1, Y2, Y3, Y4, Y5, Y6, Y7, Y8, Y9, Ya, Yb, Yc, Yd, Ye, Yf, Yg, Yh, Yi, Yj, Yk, Yl, Ym, Yn, Yo, Yp, Yq, Yr, Ys, Yt, Yu, Yv, Yw, Yx, Yy, Yz, Y10, Y11, Y12, Y13, Y14, Y15, Y16, Y17, Y18, Y19, Y1a, Y1b, Y1c, Y1d, Y1e, Y1f, Y1g, Y1h, Y1i, Y1j, Y1k, Y1l, AV.cells?, Y1n, Y1o, Y1p, Y1q, Y1r, Y1s, Y1t, Nat.reduceAdd, Nat.reduceMul, Y1w, Y1x, Y1y, Y1z, Y20, Y21, Y22, Y23, Y24, Y25, Y26, Y27, Y28, Y29, Y2a, Y2b, hg]
      have hmem : cell tr (n + i) ∈ tr := by
        unfold cell; rw [List.getElem?_eq_getElem (show n + i < tr.length by omega)]; exact List.getElem_mem _
      have hb := htr _ hmem
      have hrl : (reset of ((tr.drop n).take i)).length = V + 1 := by rw [reset_len]; exact hs
      rw [iaddr_L (by omega)]
      simp only [Y0, Y1, Y2, Y3, Y4, Y5, Y6, Y7, Y8, Y9, Ya, Yb, Yc, Yd, Ye, Yf, Yg, Yh, Yi, Yj, Yk, Yl, Ym, Yn, Yo, Yp, Yq, Yr, Ys, Yt, Yu, Yv, Yw, Yx, Yy, Yz, Y10, Y11, Y12, Y13, Y14, Y15, Y16, Y17, Y18, Y19, Y1a, Y1b, Y1c, Y1d, Y1e, Y1f, Y1g, Y1h, Y1i, Y1j, Y1k, Y1l, AV.cells?, Y1n, Y1o, Y1p, Y1q, Y1r, Y1s, Y1t, Nat.reduceAdd, Nat.reduceMul, Y1w, Y1x, Y1y, Y1z, Y20, Y21, Y22, Y23, Y24, Y25, Y26, Y27, Y28, Y29, Y2a, Y2b]
      rw [store1_L rfl]
      simp only [Y0, Y1, Y2, Y3, Y4, Y5, Y6, Y7, Y8, Y9, Ya, Yb, Yc, Yd, Ye, Yf, Yg, Yh, Yi, Yj, Yk, Yl, Ym, Yn, Yo, Yp, Yq, Yr, Ys, Yt, Yu, Yv, Yw, Yx, Yy, Yz, Y10, Y11, Y12, Y13, Y14, Y15, Y16, Y17, Y18, Y19, Y1a, Y1b, Y1c, Y1d, Y1e, Y1f, Y1g, Y1h, Y1i, Y1j, Y1k, Y1l, AV.cells?, Y1n, Y1o, Y1p, Y1q, Y1r, Y1s, Y1t, Nat.reduceAdd, Nat.reduceMul, Y1w, Y1x, Y1y, Y1z, Y20, Y21, Y22, Y23, Y24, Y25, Y26, Y27, Y28, Y29, Y2a, Y2b, List.length_map, show (cell tr (n + i)).toNat < (reset of ((tr.drop n).take i)).length by omega, hset]
      rw [binA_succ (by omega)]
      simp only [Y0, Y1, Y2, Y3, Y4, Y5, Y6, Y7, Y8, Y9, Ya, Yb, Yc, Yd, Ye, Yf, Yg, Yh, Yi, Yj, Yk, Yl, Ym, Yn, Yo, Yp, Yq, Yr, Ys, Yt, Yu, Yv, Yw, Yx, Yy, Yz, Y10, Y11, Y12, Y13, Y14, Y15, Y16, Y17, Y18, Y19, Y1a, Y1b, Y1c, Y1d, Y1e, Y1f, Y1g, Y1h, Y1i, Y1j, Y1k, Y1l, AV.cells?, Y1n, Y1o, Y1p, Y1q, Y1r, Y1s, Y1t, Nat.reduceAdd, Nat.reduceMul, Y1w, Y1x, Y1y, Y1z, Y20, Y21, Y22, Y23, Y24, Y25, Y26, Y27, Y28, Y29, Y2a, Y2b]
      refine back1.mk (m - 1) (by omega) ⟨i + 1, by omega, rfl, ?_⟩
      rw [hsplit i hi, reset_snoc]
    · have : i = tr.length - n := by omega
      subst this
      simp only [Y0, Y1, Y2, Y3, Y4, Y5, Y6, Y7, Y8, Y9, Ya, Yb, Yc, Yd, Ye, Yf, Yg, Yh, Yi, Yj, Yk, Yl, Ym, Yn, Yo, Yp, Yq, Yr, Ys, Yt, Yu, Yv, Yw, Yx, Yy, Yz, Y10, Y11, Y12, Y13, Y14, Y15, Y16, Y17, Y18, Y19, Y1a, Y1b, Y1c, Y1d, Y1e, Y1f, Y1g, Y1h, Y1i, Y1j, Y1k, Y1l, AV.cells?, Y1n, Y1o, Y1p, Y1q, Y1r, Y1s, Y1t, Nat.reduceAdd, Nat.reduceMul, Y1w, Y1x, Y1y, Y1z, Y20, Y21, Y22, Y23, Y24, Y25, Y26, Y27, Y28, Y29, Y2a, Y2b, Int.lt_irrefl]
      have hsl2 : ∀ (o : List Int) (x : AV) c, sliceA 1 (.slL 2 0 tr.length g2) none (some (Z (n : Int))) ⟨[.cells ga 1 (o.map fun z => Z z), .cells gs 5 [Z V, LLI all, .slL 0 0 (V + 1) ga, x, Z st], .cells g2 1 (tr.map fun z => Z z)], c⟩ = some (.slL 2 0 n g2) := fun o x c => by
        simp only [sliceA, bnd, Option.bind_some, hesz, true_and]
        rw [if_pos (by omega)]
        try simp
      rw [hsl2]
      simp only [Y0, Y1, Y2, Y3, Y4, Y5, Y6, Y7, Y8, Y9, Ya, Yb, Yc, Yd, Ye, Yf, Yg, Yh, Yi, Yj, Yk, Yl, Ym, Yn, Yo, Yp, Yq, Yr, Ys, Yt, Yu, Yv, Yw, Yx, Yy, Yz, Y10, Y11, Y12, Y13, Y14, Y15, Y16, Y17, Y18, Y19, Y1a, Y1b, Y1c, Y1d, Y1e, Y1f, Y1g, Y1h, Y1i, Y1j, Y1k, Y1l, AV.cells?, Y1n, Y1o, Y1p, Y1q, Y1r, Y1s, Y1t, Nat.reduceAdd, Nat.reduceMul, Y1w, Y1x, Y1y, Y1z, Y20, Y21, Y22, Y23, Y24, Y25, Y26, Y27, Y28, Y29, Y2a, Y2b]
      rw [store1_L rfl]
      simp only [Y0, Y1, Y2, Y3, Y4, Y5, Y6, Y7, Y8, Y9, Ya, Yb, Yc, Yd, Ye, Yf, Yg, Yh, Yi, Yj, Yk, Yl, Ym, Yn, Yo, Yp, Yq, Yr, Ys, Yt, Yu, Yv, Yw, Yx, Yy, Yz, Y10, Y11, Y12, Y13, Y14, Y15, Y16, Y17, Y18, Y19, Y1a, Y1b, Y1c, Y1d, Y1e, Y1f, Y1g, Y1h, Y1i, Y1j, Y1k, Y1l, AV.cells?, Y1n, Y1o, Y1p, Y1q, Y1r, Y1s, Y1t, Nat.reduceAdd, Nat.reduceMul, Y1w, Y1x, Y1y, Y1z, Y20, Y21, Y22, Y23, Y24, Y25, Y26, Y27, Y28, Y29, Y2a, Y2b, Nat.reduceLT]
      have e : (tr.drop n).take (tr.length - n) = tr.drop n := List.take_of_length_le (by simp)
      rw [e]
      exact ⟨trivial, rfl⟩
theorem tr_grow {of tr of' tr' : List Int} (hg : Grow V of tr of' tr') (h : ∀ t ∈ tr, 1 ≤ t ∧ t ≤ V) : ∀ t ∈ tr', 1 ≤ t ∧ t ≤ V := by
  obtain ⟨n, rfl, h2, _⟩ := hg
  intro t ht
  rcases List.mem_append.1 ht with ht | ht
  · exact h t ht
  · exact ⟨(h2 t ht).1, (h2 t ht).2.1⟩
set_option maxHeartbeats 1000000 in
theorem spread_spec (B : SolverBodies E P) (hV : V ≤ 1000) (hall : ∀ c ∈ all, ∀ x ∈ c, okLit V x) (hn1 : all.length ≤ 4000) (hn2 : ∀ c ∈ all, c.length ≤ 1000) {of tr : List Int} (hs : Sol V of) (hb : tr.length + opens V of ≤ V) {st : Int} {H : AH} (hH : GH ga gs V all of tr st H) :
    ACalls E P 108 [.ptrL 1 0 gs] H fun r H' => ∃ b of' tr', r = Bo b ∧ Sol V of' ∧ Grow V of tr of' tr' ∧ SpreadOk V all of of' b ∧ tr'.length + opens V of' ≤ V ∧ GH ga gs V all of' tr' st H' := by
  refine B.spread _ _ _ ?_
  unfold F.pgate_solver_spread
  refine wLoop.one (fun m t H => ∃ (b : Bool) (o u : List Int), t = Bo b ∧ m = opens V o + (if b then 1 else 0) ∧ Sol V o ∧ Grow V of tr o u ∧ (∀ a, Sats a all → Exts V a of → Exts V a o) ∧ u.length + opens V o ≤ V ∧ GH ga gs V all o u st H ∧ (b = false → ∀ c ∈ all, (∃ x ∈ c, lv o x = 1) ∨ ∃ x ∈ c, lv o x = 0)) (opens V of + 1)
    (gh1.mk ⟨true, of, tr, rfl, rfl, hs, .refl _ _ _, fun _ _ h => h, hb, hH, by simp⟩) ?_
  rintro m t H ⟨b, o, u, rfl, rfl, hso, hgo, himp, hbo, hHo, hdone⟩
  cases b with
  | false =>
    simp only [Y0, Y1, Y2, Y3, Y4, Y5, Y6, Y7, Y8, Y9, Ya, Yb, Yc, Yd, Ye, Yf, Yg, Yh, Yi, Yj, Yk, Yl, Ym, Yn, Yo, Yp, Yq, Yr, Ys, Yt, Yu, Yv, Yw, Yx, Yy, Yz, Y10, Y11, Y12, Y13, Y14, Y15, Y16, Y17, Y18, Y19, Y1a, Y1b, Y1c, Y1d, Y1e, Y1f, Y1g, Y1h, Y1i, Y1j, Y1k, Y1l, AV.cells?, Y1n, Y1o, Y1p, Y1q, Y1r, Y1s, Y1t, Nat.reduceAdd, Nat.reduceMul, Y1w, Y1x, Y1y, Y1z, Y20, Y21, Y22, Y23, Y24, Y25, Y26, Y27, Y28, Y29, Y2a, Y2b]
    exact ⟨true, o, u, rfl, hso, hgo, ⟨himp, by simp, fun _ => hdone rfl⟩, hbo, hHo⟩
  | true =>
  obtain ⟨xx, tb, c, hHe, ht⟩ := id hHo
  have hHe2 : H = gH ga gs V all o xx st tb c := hHe
  subst hHe
  simp only [Y0, Y1, Y2, Y3, Y4, Y5, Y6, Y7, Y8, Y9, Ya, Yb, Yc, Yd, Ye, Yf, Yg, Yh, Yi, Yj, Yk, Yl, Ym, Yn, Yo, Yp, Yq, Yr, Ys, Yt, Yu, Yv, Yw, Yx, Yy, Yz, Y10, Y11, Y12, Y13, Y14, Y15, Y16, Y17, Y18, Y19, Y1a, Y1b, Y1c, Y1d, Y1e, Y1f, Y1g, Y1h, Y1i, Y1j, Y1k, Y1l, AV.cells?, Y1n, Y1o, Y1p, Y1q, Y1r, Y1s, Y1t, Nat.reduceAdd, Nat.reduceMul, Y1w, Y1x, Y1y, Y1z, Y20, Y21, Y22, Y23, Y24, Y25, Y26, Y27, Y28, Y29, Y2a, Y2b]
  have hld : load1 (.ptrL 1 1 gs) (gH ga gs V all o xx st tb c) = some (LLI all) := by simp [gH, load1_L, blkCells_self]
  have hbs : (gH ga gs V all o xx st tb c).bs[1]? = some (.cells gs 5 [Z V, LLI all, .slL 0 0 (V + 1) ga, xx, Z st]) := rfl
  simp only [Y0, Y1, Y2, Y3, Y4, Y5, Y6, Y7, Y8, Y9, Ya, Yb, Yc, Yd, Ye, Yf, Yg, Yh, Yi, Yj, Yk, Yl, Ym, Yn, Yo, Yp, Yq, Yr, Ys, Yt, Yu, Yv, Yw, Yx, Yy, Yz, Y10, Y11, Y12, Y13, Y14, Y15, Y16, Y17, Y18, Y19, Y1a, Y1b, Y1c, Y1d, Y1e, Y1f, Y1g, Y1h, Y1i, Y1j, Y1k, Y1l, AV.cells?, Y1n, Y1o, Y1p, Y1q, Y1r, Y1s, Y1t, Nat.reduceAdd, Nat.reduceMul, Y1w, Y1x, Y1y, Y1z, Y20, Y21, Y22, Y23, Y24, Y25, Y26, Y27, Y28, Y29, Y2a, Y2b, hbs, lenA_LLI]
  refine wLoop.two (fun m t i H => ∃ (b : Bool) (o' u' : List Int) (pre rest : List (List Int)), t = Bo b ∧ all = pre ++ rest ∧ m = rest.length ∧ i = Z pre.length ∧ Sol V o' ∧ Grow V o u o' u' ∧ (∀ a, Sats a all → Exts V a of → Exts V a o') ∧ u'.length + opens V o' ≤ V ∧ GH ga gs V all o' u' st H ∧
      (b = true → opens V o' < opens V o) ∧ (b = false → o' = o ∧ ∀ c ∈ pre, (∃ x ∈ c, lv o x = 1) ∨ ∃ x ∈ c, lv o x = 0)) all.length
    (gh2.mk ⟨false, o, u, [], all, rfl, rfl, rfl, rfl, hso, .refl _ _ _, himp, hbo, hHo, by simp, fun _ => ⟨rfl, by simp⟩⟩) ?_
  rintro m2 t i H2 ⟨b, o', u', pre, rest, rfl, hpr, rfl, rfl, hso', hgo', himp', hbo', hH', hb1, hb0⟩
  cases rest with
  | nil =>
    rw [List.append_nil] at hpr
    rw [← hpr] at hb0
    simp only [Y0, Y1, Y2, Y3, Y4, Y5, Y6, Y7, Y8, Y9, Ya, Yb, Yc, Yd, Ye, Yf, Yg, Yh, Yi, Yj, Yk, Yl, Ym, Yn, Yo, Yp, Yq, Yr, Ys, Yt, Yu, Yv, Yw, Yx, Yy, Yz, Y10, Y11, Y12, Y13, Y14, Y15, Y16, Y17, Y18, Y19, Y1a, Y1b, Y1c, Y1d, Y1e, Y1f, Y1g, Y1h, Y1i, Y1j, Y1k, Y1l, AV.cells?, Y1n, Y1o, Y1p, Y1q, Y1r, Y1s, Y1t, Nat.reduceAdd, Nat.reduceMul, Y1w, Y1x, Y1y, Y1z, Y20, Y21, Y22, Y23, Y24, Y25, Y26, Y27, Y28, Y29, Y2a, Y2b, hpr, Int.lt_irrefl]
    rw [← hpr]
    refine back1.mk (opens V o' + (if b then 1 else 0)) ?_ ⟨b, o', u', rfl, rfl, hso', hgo.trans hgo', himp', hbo', hH', fun hbf => ?_⟩
    · cases b with
      | true => have := hb1 rfl; simp; omega
      | false => rw [(hb0 rfl).1]; simp
    · obtain ⟨q1, q2⟩ := hb0 hbf
      rw [q1]; exact q2
  | cons cl rest =>
  have hplt : pre.length < all.length := by rw [hpr]; simp
  have hcm : cl ∈ all := by rw [hpr]; simp
  have hcl := hall cl hcm
  have hcn := hn2 cl hcm
  simp only [Y0, Y1, Y2, Y3, Y4, Y5, Y6, Y7, Y8, Y9, Ya, Yb, Yc, Yd, Ye, Yf, Yg, Yh, Yi, Yj, Yk, Yl, Ym, Yn, Yo, Yp, Yq, Yr, Ys, Yt, Yu, Yv, Yw, Yx, Yy, Yz, Y10, Y11, Y12, Y13, Y14, Y15, Y16, Y17, Y18, Y19, Y1a, Y1b, Y1c, Y1d, Y1e, Y1f, Y1g, Y1h, Y1i, Y1j, Y1k, Y1l, AV.cells?, Y1n, Y1o, Y1p, Y1q, Y1r, Y1s, Y1t, Nat.reduceAdd, Nat.reduceMul, Y1w, Y1x, Y1y, Y1z, Y20, Y21, Y22, Y23, Y24, Y25, Y26, Y27, Y28, Y29, Y2a, Y2b, decide_eq_true (show (pre.length : Int) < (all.length : Int) by omega)]
  refine wJoin.one (fun t H => ∃ (b' : Bool) (o'' u'' : List Int), t = Bo b' ∧ Sol V o'' ∧ Grow V o u o'' u'' ∧ (∀ a, Sats a all → Exts V a of → Exts V a o'') ∧ u''.length + opens V o'' ≤ V ∧ GH ga gs V all o'' u'' st H ∧
      (b' = true → opens V o'' < opens V o) ∧ (b' = false → o'' = o ∧ ∀ c ∈ pre ++ [cl], (∃ x ∈ c, lv o x = 1) ∨ ∃ x ∈ c, lv o x = 0)) ?_ ?_
  case refine_2 =>
    rintro t H ⟨b', o'', u'', rfl, a1, a2, a3, a4, a5, a6, a7⟩
    rw [binA_succ (by omega)]
    simp only [Y0, Y1, Y2, Y3, Y4, Y5, Y6, Y7, Y8, Y9, Ya, Yb, Yc, Yd, Ye, Yf, Yg, Yh, Yi, Yj, Yk, Yl, Ym, Yn, Yo, Yp, Yq, Yr, Ys, Yt, Yu, Yv, Yw, Yx, Yy, Yz, Y10, Y11, Y12, Y13, Y14, Y15, Y16, Y17, Y18, Y19, Y1a, Y1b, Y1c, Y1d, Y1e, Y1f, Y1g, Y1h, Y1i, Y1j, Y1k, Y1l, AV.cells?, Y1n, Y1o, Y1p, Y1q, Y1r, Y1s, Y1t, Nat.reduceAdd, Nat.reduceMul, Y1w, Y1x, Y1y, Y1z, Y20, Y21, Y22, Y23, Y24, Y25, Y26, Y27, Y28, Y29, Y2a, Y2b]
    exact back2.mk rest.length (by simp) ⟨b', o'', u'', pre ++ [cl], rest, rfl, by rw [hpr]; simp, rfl, by simp, a1, a2, a3, a4, a5, a6, a7⟩
  rw [iaddr_LLI hplt]
  simp only [Y0, Y1, Y2, Y3, Y4, Y5, Y6, Y7, Y8, Y9, Ya, Yb, Yc, Yd, Ye, Yf, Yg, Yh, Yi, Yj, Yk, Yl, Ym, Yn, Yo, Yp, Yq, Yr, Ys, Yt, Yu, Yv, Yw, Yx, Yy, Yz, Y10, Y11, Y12, Y13, Y14, Y15, Y16, Y17, Y18, Y19, Y1a, Y1b, Y1c, Y1d, Y1e, Y1f, Y1g, Y1h, Y1i, Y1j, Y1k, Y1l, AV.cells?, Y1n, Y1o, Y1p, Y1q, Y1r, Y1s, Y1t, Nat.reduceAdd, Nat.reduceMul, Y1w, Y1x, Y1y, Y1z, Y20, Y21, Y22, Y23, Y24, Y25, Y26, Y27, Y28, Y29, Y2a, Y2b, row_get hplt, show row all pre.length = cl by unfold row; rw [hpr]; simp, lenA_LI]
  obtain ⟨xx2, tb2, c2, hHe2', ht2⟩ := id hH'
  subst hHe2'
  refine wLoop.four (fun m l n h i H => ∃ (p r : List Int) (left many : Int) (hbn : Bool), cl = p ++ r ∧ m = r.length ∧ i = Z p.length ∧ l = Z left ∧ n = Z many ∧ h = Bo hbn ∧ H = gH ga gs V all o' xx2 st tb2 c2 ∧ Scan o' p left many hbn) cl.length
    (gh4.mk ⟨[], cl, 0, 0, false, rfl, rfl, rfl, rfl, rfl, rfl, rfl, .nil _⟩) ?_
  rintro m3 l n h i H3 ⟨p, r, left, many, hbn, hcp, rfl, rfl, rfl, rfl, rfl, rfl, hsc⟩
  cases r with
  | nil =>
    rw [List.append_nil] at hcp
    subst hcp
    simp only [Y0, Y1, Y2, Y3, Y4, Y5, Y6, Y7, Y8, Y9, Ya, Yb, Yc, Yd, Ye, Yf, Yg, Yh, Yi, Yj, Yk, Yl, Ym, Yn, Yo, Yp, Yq, Yr, Ys, Yt, Yu, Yv, Yw, Yx, Yy, Yz, Y10, Y11, Y12, Y13, Y14, Y15, Y16, Y17, Y18, Y19, Y1a, Y1b, Y1c, Y1d, Y1e, Y1f, Y1g, Y1h, Y1i, Y1j, Y1k, Y1l, AV.cells?, Y1n, Y1o, Y1p, Y1q, Y1r, Y1s, Y1t, Nat.reduceAdd, Nat.reduceMul, Y1w, Y1x, Y1y, Y1z, Y20, Y21, Y22, Y23, Y24, Y25, Y26, Y27, Y28, Y29, Y2a, Y2b, Int.lt_irrefl]
    have hkeep : (∃ x ∈ cl, lv o' x = 1) ∨ (∃ x ∈ cl, lv o' x = 0) → gh1 (fun t H => ∃ (b' : Bool) (o'' u'' : List Int), t = Bo b' ∧ Sol V o'' ∧ Grow V o u o'' u'' ∧ (∀ a, Sats a all → Exts V a of → Exts V a o'') ∧ u''.length + opens V o'' ≤ V ∧ GH ga gs V all o'' u'' st H ∧
      (b' = true → opens V o'' < opens V o) ∧ (b' = false → o'' = o ∧ ∀ c ∈ pre ++ [cl], (∃ x ∈ c, lv o x = 1) ∨ ∃ x ∈ c, lv o x = 0)) (Bo b) (gH ga gs V all o' xx2 st tb2 c2) := fun hk =>
      gh1.mk ⟨b, o', u', rfl, hso', hgo', himp', hbo', hH', hb1, fun hbf => by
        obtain ⟨q1, q2⟩ := hb0 hbf
        refine ⟨q1, fun c hc => ?_⟩
        rcases List.mem_append.1 hc with hc | hc
        · exact q2 c hc
        · simp at hc; subst hc; rw [← q1]; exact hk⟩
    cases hbn with
    | true =>
      simp only [Y0, Y1, Y2, Y3, Y4, Y5, Y6, Y7, Y8, Y9, Ya, Yb, Yc, Yd, Ye, Yf, Yg, Yh, Yi, Yj, Yk, Yl, Ym, Yn, Yo, Yp, Yq, Yr, Ys, Yt, Yu, Yv, Yw, Yx, Yy, Yz, Y10, Y11, Y12, Y13, Y14, Y15, Y16, Y17, Y18, Y19, Y1a, Y1b, Y1c, Y1d, Y1e, Y1f, Y1g, Y1h, Y1i, Y1j, Y1k, Y1l, AV.cells?, Y1n, Y1o, Y1p, Y1q, Y1r, Y1s, Y1t, Nat.reduceAdd, Nat.reduceMul, Y1w, Y1x, Y1y, Y1z, Y20, Y21, Y22, Y23, Y24, Y25, Y26, Y27, Y28, Y29, Y2a, Y2b]
      exact hkeep (.inl (hsc.h.1 rfl))
    | false =>
    by_cases h1 : 1 < many
    · simp only [Y0, Y1, Y2, Y3, Y4, Y5, Y6, Y7, Y8, Y9, Ya, Yb, Yc, Yd, Ye, Yf, Yg, Yh, Yi, Yj, Yk, Yl, Ym, Yn, Yo, Yp, Yq, Yr, Ys, Yt, Yu, Yv, Yw, Yx, Yy, Yz, Y10, Y11, Y12, Y13, Y14, Y15, Y16, Y17, Y18, Y19, Y1a, Y1b, Y1c, Y1d, Y1e, Y1f, Y1g, Y1h, Y1i, Y1j, Y1k, Y1l, AV.cells?, Y1n, Y1o, Y1p, Y1q, Y1r, Y1s, Y1t, Nat.reduceAdd, Nat.reduceMul, Y1w, Y1x, Y1y, Y1z, Y20, Y21, Y22, Y23, Y24, Y25, Y26, Y27, Y28, Y29, Y2a, Y2b, decide_eq_true h1]
      exact hkeep (.inr (hsc.more h1))
    simp only [Y0, Y1, Y2, Y3, Y4, Y5, Y6, Y7, Y8, Y9, Ya, Yb, Yc, Yd, Ye, Yf, Yg, Yh, Yi, Yj, Yk, Yl, Ym, Yn, Yo, Yp, Yq, Yr, Ys, Yt, Yu, Yv, Yw, Yx, Yy, Yz, Y10, Y11, Y12, Y13, Y14, Y15, Y16, Y17, Y18, Y19, Y1a, Y1b, Y1c, Y1d, Y1e, Y1f, Y1g, Y1h, Y1i, Y1j, Y1k, Y1l, AV.cells?, Y1n, Y1o, Y1p, Y1q, Y1r, Y1s, Y1t, Nat.reduceAdd, Nat.reduceMul, Y1w, Y1x, Y1y, Y1z, Y20, Y21, Y22, Y23, Y24, Y25, Y26, Y27, Y28, Y29, Y2a, Y2b, decide_eq_false h1]
    have hpos := hsc.pos
    by_cases h0 : many = 0
    · simp only [Y0, Y1, Y2, Y3, Y4, Y5, Y6, Y7, Y8, Y9, Ya, Yb, Yc, Yd, Ye, Yf, Yg, Yh, Yi, Yj, Yk, Yl, Ym, Yn, Yo, Yp, Yq, Yr, Ys, Yt, Yu, Yv, Yw, Yx, Yy, Yz, Y10, Y11, Y12, Y13, Y14, Y15, Y16, Y17, Y18, Y19, Y1a, Y1b, Y1c, Y1d, Y1e, Y1f, Y1g, Y1h, Y1i, Y1j, Y1k, Y1l, AV.cells?, Y1n, Y1o, Y1p, Y1q, Y1r, Y1s, Y1t, Nat.reduceAdd, Nat.reduceMul, Y1w, Y1x, Y1y, Y1z, Y20, Y21, Y22, Y23, Y24, Y25, Y26, Y27, Y28, Y29, Y2a, Y2b, decide_eq_true h0]
      subst h0
      refine ⟨false, o', u', rfl, hso', hgo.trans hgo', ⟨himp', fun _ a ha he => ?_, by simp⟩, hbo', hH'⟩
      exact clause_none hso' hcl hsc (himp' a ha he) (ha cl hcm)
    · simp only [Y0, Y1, Y2, Y3, Y4, Y5, Y6, Y7, Y8, Y9, Ya, Yb, Yc, Yd, Ye, Yf, Yg, Yh, Yi, Yj, Yk, Yl, Ym, Yn, Yo, Yp, Yq, Yr, Ys, Yt, Yu, Yv, Yw, Yx, Yy, Yz, Y10, Y11, Y12, Y13, Y14, Y15, Y16, Y17, Y18, Y19, Y1a, Y1b, Y1c, Y1d, Y1e, Y1f, Y1g, Y1h, Y1i, Y1j, Y1k, Y1l, AV.cells?, Y1n, Y1o, Y1p, Y1q, Y1r, Y1s, Y1t, Nat.reduceAdd, Nat.reduceMul, Y1w, Y1x, Y1y, Y1z, Y20, Y21, Y22, Y23, Y24, Y25, Y26, Y27, Y28, Y29, Y2a, Y2b, decide_eq_false h0]
      have h11 : many = 1 := by omega
      subst h11
      obtain ⟨k1, k2, k3, k4⟩ := hsc.one rfl
      have hll := hcl left k2
      refine ⟨_, set_spec B hso' hV hll (by omega) hH', ?_⟩
      rintro r' H4 ⟨rfl, hH4⟩
      refine gh1.mk ⟨true, litSet o' left, u' ++ [(vr left : Int)], rfl, hso'.set hll, hgo'.trans (Grow.set hso' hll k3), fun a ha he => ?_, ?_, hH4, fun _ => ?_, by simp⟩
      · have he' := himp' a ha he
        exact Exts.set hso' hll he' (clause_unit hso' hcl hsc he' (ha cl hcm))
      · have := opens_lt hso' hll k3; simp; omega
      · have := opens_lt hso' hll k3
        have := opens_le_grow hgo'
        omega
  | cons x r =>
    have hxm : x ∈ cl := by rw [hcp]; simp
    have hxo := hcl x hxm
    have hpl : p.length < cl.length := by rw [hcp]; simp
    have hmle := hsc.le
    have hmpos := hsc.pos
    simp only [Y0, Y1, Y2, Y3, Y4, Y5, Y6, Y7, Y8, Y9, Ya, Yb, Yc, Yd, Ye, Yf, Yg, Yh, Yi, Yj, Yk, Yl, Ym, Yn, Yo, Yp, Yq, Yr, Ys, Yt, Yu, Yv, Yw, Yx, Yy, Yz, Y10, Y11, Y12, Y13, Y14, Y15, Y16, Y17, Y18, Y19, Y1a, Y1b, Y1c, Y1d, Y1e, Y1f, Y1g, Y1h, Y1i, Y1j, Y1k, Y1l, AV.cells?, Y1n, Y1o, Y1p, Y1q, Y1r, Y1s, Y1t, Nat.reduceAdd, Nat.reduceMul, Y1w, Y1x, Y1y, Y1z, Y20, Y21, Y22, Y23, Y24, Y25, Y26, Y27, Y28, Y29, Y2a, Y2b, decide_eq_true (show (p.length : Int) < (cl.length : Int) by omega)]
    refine wJoin.three (fun l n h H => ∃ (left many : Int) (hbn : Bool), l = Z left ∧ n = Z many ∧ h = Bo hbn ∧ H = gH ga gs V all o' xx2 st tb2 c2 ∧ Scan o' (p ++ [x]) left many hbn) ?_ ?_
    case refine_2 =>
      rintro l n h H ⟨left, many, hbn, rfl, rfl, rfl, rfl, hsc'⟩
      rw [binA_succ (by omega)]
      simp only [Y0, Y1, Y2, Y3, Y4, Y5, Y6, Y7, Y8, Y9, Ya, Yb, Yc, Yd, Ye, Yf, Yg, Yh, Yi, Yj, Yk, Yl, Ym, Yn, Yo, Yp, Yq, Yr, Ys, Yt, Yu, Yv, Yw, Yx, Yy, Yz, Y10, Y11, Y12, Y13, Y14, Y15, Y16, Y17, Y18, Y19, Y1a, Y1b, Y1c, Y1d, Y1e, Y1f, Y1g, Y1h, Y1i, Y1j, Y1k, Y1l, AV.cells?, Y1n, Y1o, Y1p, Y1q, Y1r, Y1s, Y1t, Nat.reduceAdd, Nat.reduceMul, Y1w, Y1x, Y1y, Y1z, Y20, Y21, Y22, Y23, Y24, Y25, Y26, Y27, Y28, Y29, Y2a, Y2b]
      exact back4.mk r.length (by simp) ⟨p ++ [x], r, left, many, hbn, by rw [hcp]; simp, rfl, by simp, rfl, rfl, rfl, rfl, hsc'⟩
    have hg : (cl.map fun z => Z z)[p.length]? = some (Z x) := by rw [hcp]; exact at_mid
    rw [iaddr_LI hpl]
    simp only [Y0, Y1, Y2, Y3, Y4, Y5, Y6, Y7, Y8, Y9, Ya, Yb, Yc, Yd, Ye, Yf, Yg, Yh, Yi, Yj, Yk, Yl, Ym, Yn, Yo, Yp, Yq, Yr, Ys, Yt, Yu, Yv, Yw, Yx, Yy, Yz, Y10, Y11, Y12, Y13, Y14, Y15, Y16, Y17, Y18, Y19, Y1a, Y1b, Y1c, Y1d, Y1e, Y1f, Y1g, Y1h, Y1i, Y1j, Y1k, Y1l, AV.cells?, Y1n, Y1o, Y1p, Y1q, Y1r, Y1s, Y1t, Nat.reduceAdd, Nat.reduceMul, Y1w, Y1x, Y1y, Y1z, Y20, Y21, Y22, Y23, Y24, Y25, Y26, Y27, Y28, Y29, Y2a, Y2b, hg]
    refine ⟨_, is_spec B hso' hV hxo xx2 st tb2 c2, ?_⟩
    rintro r' H4 ⟨rfl, rfl⟩
    by_cases e1 : lv o' x = 1
    · simp only [Y0, Y1, Y2, Y3, Y4, Y5, Y6, Y7, Y8, Y9, Ya, Yb, Yc, Yd, Ye, Yf, Yg, Yh, Yi, Yj, Yk, Yl, Ym, Yn, Yo, Yp, Yq, Yr, Ys, Yt, Yu, Yv, Yw, Yx, Yy, Yz, Y10, Y11, Y12, Y13, Y14, Y15, Y16, Y17, Y18, Y19, Y1a, Y1b, Y1c, Y1d, Y1e, Y1f, Y1g, Y1h, Y1i, Y1j, Y1k, Y1l, AV.cells?, Y1n, Y1o, Y1p, Y1q, Y1r, Y1s, Y1t, Nat.reduceAdd, Nat.reduceMul, Y1w, Y1x, Y1y, Y1z, Y20, Y21, Y22, Y23, Y24, Y25, Y26, Y27, Y28, Y29, Y2a, Y2b, decide_eq_true e1]
      exact gh3.mk ⟨left, many, true, rfl, rfl, rfl, rfl, hsc.hit e1⟩
    simp only [Y0, Y1, Y2, Y3, Y4, Y5, Y6, Y7, Y8, Y9, Ya, Yb, Yc, Yd, Ye, Yf, Yg, Yh, Yi, Yj, Yk, Yl, Ym, Yn, Yo, Yp, Yq, Yr, Ys, Yt, Yu, Yv, Yw, Yx, Yy, Yz, Y10, Y11, Y12, Y13, Y14, Y15, Y16, Y17, Y18, Y19, Y1a, Y1b, Y1c, Y1d, Y1e, Y1f, Y1g, Y1h, Y1i, Y1j, Y1k, Y1l, AV.cells?, Y1n, Y1o, Y1p, Y1q, Y1r, Y1s, Y1t, Nat.reduceAdd, Nat.reduceMul, Y1w, Y1x, Y1y, Y1z, Y20, Y21, Y22, Y23, Y24, Y25, Y26, Y27, Y28, Y29, Y2a, Y2b, decide_eq_false e1]
    by_cases e0 : lv o' x = 0
    · simp only [Y0, Y1, Y2, Y3, Y4, Y5, Y6, Y7, Y8, Y9, Ya, Yb, Yc, Yd, Ye, Yf, Yg, Yh, Yi, Yj, Yk, Yl, Ym, Yn, Yo, Yp, Yq, Yr, Ys, Yt, Yu, Yv, Yw, Yx, Yy, Yz, Y10, Y11, Y12, Y13, Y14, Y15, Y16, Y17, Y18, Y19, Y1a, Y1b, Y1c, Y1d, Y1e, Y1f, Y1g, Y1h, Y1i, Y1j, Y1k, Y1l, AV.cells?, Y1n, Y1o, Y1p, Y1q, Y1r, Y1s, Y1t, Nat.reduceAdd, Nat.reduceMul, Y1w, Y1x, Y1y, Y1z, Y20, Y21, Y22, Y23, Y24, Y25, Y26, Y27, Y28, Y29, Y2a, Y2b, decide_eq_true e0]
      have hop := hsc.open_ e0 hxo.1
      refine wJoin.one (fun n H => n = Z (if x = left then many else many + 1) ∧ H = gH ga gs V all o' xx2 st tb2 c2) ?_ ?_
      case refine_2 =>
        rintro n H ⟨rfl, rfl⟩
        exact gh3.mk ⟨x, _, hbn, rfl, rfl, rfl, rfl, hop⟩
      by_cases el : x = left
      · simp only [Y0, Y1, Y2, Y3, Y4, Y5, Y6, Y7, Y8, Y9, Ya, Yb, Yc, Yd, Ye, Yf, Yg, Yh, Yi, Yj, Yk, Yl, Ym, Yn, Yo, Yp, Yq, Yr, Ys, Yt, Yu, Yv, Yw, Yx, Yy, Yz, Y10, Y11, Y12, Y13, Y14, Y15, Y16, Y17, Y18, Y19, Y1a, Y1b, Y1c, Y1d, Y1e, Y1f, Y1g, Y1h, Y1i, Y1j, Y1k, Y1l, AV.cells?, Y1n, Y1o, Y1p, Y1q, Y1r, Y1s, Y1t, Nat.reduceAdd, Nat.reduceMul, Y1w, Y1x, Y1y, Y1z, Y20, Y21, Y22, Y23, Y24, Y25, Y26, Y27, Y28, Y29, Y2a, Y2b, decide_eq_true el]
        exact gh1.mk ⟨by rw [if_pos el], rfl⟩
      · simp only [Y0, Y1, Y2, Y3, Y4, Y5, Y6, Y7, Y8, Y9, Ya, Yb, Yc, Yd, Ye, Yf, Yg, Yh, Yi, Yj, Yk, Yl, Ym, Yn, Yo, Yp, Yq, Yr, Ys, Yt, Yu, Yv, Yw, Yx, Yy, Yz, Y10, Y11, Y12, Y13, Y14, Y15, Y16, Y17, Y18, Y19, Y1a, Y1b, Y1c, Y1d, Y1e, Y1f, Y1g, Y1h, Y1i, Y1j, Y1k, Y1l, AV.cells?, Y1n, Y1o, Y1p, Y1q, Y1r, Y1s, Y1t, Nat.reduceAdd, Nat.reduceMul, Y1w, Y1x, Y1y, Y1z, Y20, Y21, Y22, Y23, Y24, Y25, Y26, Y27, Y28, Y29, Y2a, Y2b, decide_eq_false el]
        rw [binA_add (by omega)]
        simp only [Y0, Y1, Y2, Y3, Y4, Y5, Y6, Y7, Y8, Y9, Ya, Yb, Yc, Yd, Ye, Yf, Yg, Yh, Yi, Yj, Yk, Yl, Ym, Yn, Yo, Yp, Yq, Yr, Ys, Yt, Yu, Yv, Yw, Yx, Yy, Yz, Y10, Y11, Y12, Y13, Y14, Y15, Y16, Y17, Y18, Y19, Y1a, Y1b, Y1c, Y1d, Y1e, Y1f, Y1g, Y1h, Y1i, Y1j, Y1k, Y1l, AV.cells?, Y1n, Y1o, Y1p, Y1q, Y1r, Y1s, Y1t, Nat.reduceAdd, Nat.reduceMul, Y1w, Y1x, Y1y, Y1z, Y20, Y21, Y22, Y23, Y24, Y25, Y26, Y27, Y28, Y29, Y2a, Y2b]
        exact gh1.mk ⟨by rw [if_neg el], rfl⟩
    · simp only [Y0, Y1, Y2, Y3, Y4, Y5, Y6, Y7, Y8, Y9, Ya, Yb, Yc, Yd, Ye, Yf, Yg, Yh, Yi, Yj, Yk, Yl, Ym, Yn, Yo, Yp, Yq, Yr, Ys, Yt, Yu, Yv, Yw, Yx, Yy, Yz, Y10, Y11, Y12, Y13, Y14, Y15, Y16, Y17, Y18, Y19, Y1a, Y1b, Y1c, Y1d, Y1e, Y1f, Y1g, Y1h, Y1i, Y1j, Y1k, Y1l, AV.cells?, Y1n, Y1o, Y1p, Y1q, Y1r, Y1s, Y1t, Nat.reduceAdd, Nat.reduceMul, Y1w, Y1x, Y1y, Y1z, Y20, Y21, Y22, Y23, Y24, Y25, Y26, Y27, Y28, Y29, Y2a, Y2b, decide_eq_false e0]
      exact gh3.mk ⟨left, many, hbn, rfl, rfl, rfl, rfl, hsc.miss e1 e0⟩
end
end Go.Sc
