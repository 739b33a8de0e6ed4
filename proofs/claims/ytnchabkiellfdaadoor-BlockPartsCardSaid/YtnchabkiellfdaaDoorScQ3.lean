/-
  PLAIN LAWS OF TABLES: the reference's marks: in which round two states are parted.
-/
import Derived.Test.YtnchabkiellfdaaDoorScQ2
namespace Go.Sc
open Go
set_option linter.unusedSimpArgs false
set_option linter.unnecessarySimpa false

/-- in which round two states are parted, of the first 'd' (0: in none) -/
def mk (t : Table) : Nat → Nat → Nat → Nat
  | 0, _, _ => 0
  | d + 1, a, b => if mk t d a b > 0 then mk t d a b else if cell (iter t (d + 1)) a = cell (iter t (d + 1)) b then 0 else d + 1
theorem mk_le (t : Table) (a b : Nat) : ∀ d, mk t d a b ≤ d
  | 0 => by simp [mk]
  | d + 1 => by
    have := mk_le t a b d
    simp only [mk]
    split
    · omega
    · split <;> omega
theorem mk_zero {t : Table} {a b : Nat} (ha : a < t.next.length) (hb : b < t.next.length) : ∀ d, mk t d a b = 0 ↔ cell (iter t d) a = cell (iter t d) b
  | 0 => by simp [mk, iter, cell, ha, hb]
  | d + 1 => by
    have h := mk_zero ha hb d
    simp only [mk]
    split
    · rename_i hp
      constructor
      · intro h0; omega
      · intro he
        have := h.2 (iter_apart ha hb (Nat.le_succ d) he)
        omega
    · split
      · rename_i he; simp [he]
      · rename_i he; simp [he]
theorem mk_is {t : Table} {a b d : Nat} (ha : a < t.next.length) (hb : b < t.next.length) : mk t (d + 1) a b = d + 1 ↔ cell (iter t d) a = cell (iter t d) b ∧ cell (iter t (d + 1)) a ≠ cell (iter t (d + 1)) b := by
  rw [← mk_zero ha hb d]
  have := mk_le t a b d
  simp only [mk]
  split
  · constructor
    · intro h; omega
    · rintro ⟨h, _⟩; omega
  · split
    · rename_i he; simp [he]
    · rename_i hp he; simp [he]; omega
/-- what stands after the round is as before it, or new -/
theorem mk_step {t : Table} {a b d : Nat} (h : mk t d a b > 0) : mk t (d + 1) a b = mk t d a b := by simp only [mk]; rw [if_pos h]
theorem mk_test {t : Table} {x y d : Nat} (hd : 0 < d) : mk t (d + 1) x y = d ↔ mk t d x y = d := by
  simp only [mk]
  split
  · exact Iff.rfl
  · split
    · constructor <;> intro h <;> omega
    · constructor <;> intro h <;> omega
/-- the marks in the middle of a round -/
def mid (t : Table) (d a b x y : Nat) : Nat := if x < a ∨ (x = a ∧ y < b) then mk t (d + 1) x y else mk t d x y
theorem mid_test {t : Table} {d a b x y : Nat} (hd : 0 < d) : mid t d a b x y = d ↔ mk t d x y = d := by
  unfold mid; split
  · exact mk_test hd
  · exact Iff.rfl
theorem parts_iff {t : Table} (hg : Good t) {d a b : Nat} (ha : a < t.next.length) (hb : b < t.next.length) (hk : cell (iter t d) a = cell (iter t d) b) :
    (∃ i, i < (row t.next 0).length ∧ parts t (d + 1) a b i = true) ↔ cell (iter t (d + 1)) a ≠ cell (iter t (d + 1)) b := by
  have hline : cell (iter t (d + 1)) a = cell (iter t (d + 1)) b ↔ _ := (stepR_same (now := iter t d) ha hb).trans (line_same hg ha hb)
  rw [Ne, hline]
  have htold : 0 < d → ∀ i, i < (row t.next 0).length → cell (row t.tells a) i = cell (row t.tells b) i := by
    intro hk0 i hi
    obtain ⟨k', rfl⟩ : ∃ k', d = k' + 1 := ⟨d - 1, by omega⟩
    have := (stepR_same (now := iter t k') ha hb).1 hk
    exact (((line_same hg ha hb).1 this).2 i hi).1
  constructor
  · rintro ⟨i, hi, hp⟩ ⟨_, h⟩
    have := h i hi
    rcases Nat.eq_zero_or_pos d with h0 | h0
    · subst h0
      simp [parts] at hp
      exact hp this.1
    · simp [parts, show ¬ d = 0 by omega] at hp
      exact hp.2 this.2
  · intro hn
    apply Classical.byContradiction
    intro hno
    refine hn ⟨hk, fun i hi => ?_⟩
    have hp : ¬ parts t (d + 1) a b i = true := fun h => hno ⟨i, hi, h⟩
    have n1 := hg.next_in ha hi
    have n2 := hg.next_in hb hi
    rcases Nat.eq_zero_or_pos d with h0 | h0
    · subst h0
      simp [parts] at hp
      refine ⟨hp, ?_⟩
      exact (mk_zero (t := t) (by omega) (by omega) 0).1 rfl
    · simp [parts, show ¬ d = 0 by omega] at hp
      refine ⟨htold h0 i hi, ?_⟩
      exact Classical.byContradiction fun h => by simp [h0] at hp; exact h hp
/-- the reference's test -/
def pr (t : Table) (d a b i : Nat) : Bool := (decide (d = 0) && decide (cell (row t.tells a) i ≠ cell (row t.tells b) i)) || (decide (0 < d) && decide (mk t d (cell (row t.next a) i).toNat (cell (row t.next b) i).toNat = d))
theorem pr_parts {t : Table} (hg : Good t) {d a b i : Nat} (ha : a < t.next.length) (hb : b < t.next.length) (hi : i < (row t.next 0).length) (hk : cell (iter t d) a = cell (iter t d) b) : pr t d a b i = parts t (d + 1) a b i := by
  have n1 := hg.next_in ha hi
  have n2 := hg.next_in hb hi
  rcases Nat.eq_zero_or_pos d with h0 | h0
  · subst h0; simp [pr, parts]
  · obtain ⟨e, rfl⟩ : ∃ e, d = e + 1 := ⟨d - 1, by omega⟩
    simp only [pr, parts]
    have hq : mk t (e + 1) (cell (row t.next a) i).toNat (cell (row t.next b) i).toNat = e + 1 ↔ cell (iter t (e + 1)) (cell (row t.next a) i).toNat ≠ cell (iter t (e + 1)) (cell (row t.next b) i).toNat := by
      rw [mk_is (by omega) (by omega)]
      have := (((line_same hg ha hb).1 ((stepR_same (now := iter t e) ha hb).1 hk)).2 i hi).2
      simp [this]
    simp [hq]
theorem round_is {t : Table} (hg : Good t) {d a b : Nat} (ha : a < t.next.length) (hb : b < t.next.length) (h0 : mk t d a b = 0) : mk t (d + 1) a b = if (List.range (row t.next 0).length).any (pr t d a b) then d + 1 else 0 := by
  have hk := (mk_zero ha hb d).1 h0
  have h := parts_iff hg ha hb hk
  have hany : (List.range (row t.next 0).length).any (pr t d a b) = true ↔ cell (iter t (d + 1)) a ≠ cell (iter t (d + 1)) b := by
    rw [← h, List.any_eq_true]
    constructor
    · rintro ⟨i, hi, hp⟩; rw [List.mem_range] at hi; exact ⟨i, hi, by rw [← pr_parts hg ha hb hi hk]; exact hp⟩
    · rintro ⟨i, hi, hp⟩; exact ⟨i, List.mem_range.2 hi, by rw [pr_parts hg ha hb hi hk]; exact hp⟩
  simp only [mk]
  rw [if_neg (by omega)]
  by_cases he : cell (iter t (d + 1)) a = cell (iter t (d + 1)) b
  · rw [if_pos he, if_neg (fun h => hany.1 h he)]
  · rw [if_neg he, if_pos (hany.2 he)]
/-- where a round marks nothing, it is the last -/
theorem no_more {t : Table} {d : Nat} (h : ∀ x y, x < t.next.length → y < t.next.length → mk t (d + 1) x y = mk t d x y) : iter t (d + 1) = iter t d := by
  refine canon_eq (iter_canon _) (iter_canon _) (by rw [iter_len, iter_len]) fun i j hi hj => ?_
  rw [iter_len] at hi hj
  rw [cell_eq_iff (by rw [iter_len]; exact hi) (by rw [iter_len]; exact hj), cell_eq_iff (by rw [iter_len]; exact hi) (by rw [iter_len]; exact hj), ← mk_zero hi hj, ← mk_zero hi hj, h i j hi hj]
theorem more {t : Table} {d x y : Nat} (hx : x < t.next.length) (hy : y < t.next.length) (h : mk t (d + 1) x y ≠ mk t d x y) : iter t (d + 1) ≠ iter t d := by
  intro he
  have h0 : mk t d x y = 0 := Classical.byContradiction fun hp => h (mk_step (by omega))
  have h1 : mk t (d + 1) x y = 0 := by
    rw [mk_zero hx hy, he, ← mk_zero hx hy]; exact h0
  omega
theorem last_more {t : Table} {K d : Nat} (hK : IsLast t K) (hd : d ≤ K) {x y : Nat} (hx : x < t.next.length) (hy : y < t.next.length) (h : mk t (d + 1) x y ≠ mk t d x y) : d + 1 ≤ K := by
  have := more hx hy h
  rcases Nat.lt_or_eq_of_le hd with h1 | h1
  · omega
  · subst h1; exact absurd hK.1 this
theorem last_no {t : Table} {K d : Nat} (hK : IsLast t K) (hd : d ≤ K) (h : ∀ x y, x < t.next.length → y < t.next.length → mk t (d + 1) x y = mk t d x y) : d = K := by
  have := no_more h
  rcases Nat.lt_or_eq_of_le hd with h1 | h1
  · exact absurd this (hK.2 d h1)
  · exact h1
/-- the first state of a block -/
theorem reps_first {l : List Int} (hl : Canon l) : ∀ i, i ≤ l.length → ∀ (k s : Nat), (repsTo l i)[k]? = some s → ∀ r, r < s → cell l r ≠ (k : Int)
  | 0, _, k, s, h => by simp [repsTo] at h
  | i + 1, hi, k, s, h => by
    have inv := repInv hl i (by omega)
    simp only [repsTo] at h
    split at h
    · exact reps_first hl i (by omega) k s h
    · by_cases hk : k < (repsTo l i).length
      · rw [List.getElem?_append_left hk] at h
        exact reps_first hl i (by omega) k s h
      · rw [List.getElem?_append_right (by omega)] at h
        rcases Nat.lt_or_eq_of_le (Nat.le_of_not_lt hk) with h1 | h1
        · rw [List.getElem?_eq_none (by simp; omega)] at h; cases h
        · have hs : i = s := by simpa [← h1] using h
          subst hs
          intro r hr he
          have := inv.lt r hr
          omega
/-- what is new gets the next number -/
theorem new_number {l : List Int} (hl : Canon l) {s : Nat} (hs : s < l.length) (h : ∀ r, r < s → cell l r ≠ cell l s) : cell l s = (repsTo l s).length ∧ repsTo l (s + 1) = repsTo l s ++ [s] := by
  have inv := repInv hl s (by omega)
  obtain ⟨k, hk⟩ := hl.nat s hs
  have hck : cell l s = k := by simp [cell, hk]
  have h1 : (repsTo l s).length ≤ k := by
    apply Classical.byContradiction
    intro hlt
    have := inv.pos k _ (List.getElem?_eq_getElem (show k < (repsTo l s).length by omega))
    exact h _ this.1 (by rw [this.2, hck])
  have h2 : ¬ (repsTo l s).length < k := by
    intro hlt
    obtain ⟨j, hj, hj2⟩ := hl.new s hs _ k hk hlt
    have := inv.lt j hj
    simp [cell, hj2] at this
  have h3 : cell l s = (repsTo l s).length := by omega
  exact ⟨h3, by simp only [repsTo]; rw [if_neg (by omega)]⟩
theorem old_number {l : List Int} (hl : Canon l) {s r : Nat} (hs : s < l.length) (hr : r < s) (h : cell l r = cell l s) : repsTo l (s + 1) = repsTo l s := by
  have := (repInv hl s (by omega)).lt r hr
  simp only [repsTo]; rw [if_pos (by omega)]
end Go.Sc
