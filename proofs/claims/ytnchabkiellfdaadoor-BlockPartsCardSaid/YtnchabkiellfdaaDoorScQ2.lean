/-
  PLAIN LAWS OF TABLES, MORE: states of one block tell the same; the table of blocks tells what its states do; the inputs that are told part states at the last one alone.
-/
import Derived.Test.YtnchabkiellfdaaDoorScQ1
namespace Go.Sc
open Go
set_option linter.unusedSimpArgs false
set_option linter.unnecessarySimpa false

/-- states of one block tell the same of whatever comes -/
theorem tell_alike {t : Table} (hg : Good t) {K : Nat} (hK : IsLast t K) : ∀ (l : List Int) (s s' : Int), (∀ i ∈ l, 0 ≤ i ∧ i < (row t.next 0).length) → 0 ≤ s ∧ s < t.next.length → 0 ≤ s' ∧ s' < t.next.length → cell (iter t K) s.toNat = cell (iter t K) s'.toNat → tellFrom t s l = tellFrom t s' l
  | [], _, _, _, _, _, _ => rfl
  | i :: l, s, s', hl, hs, hs', he => by
    have hi := hl i List.mem_cons_self
    have h := last_same hg hK (s := s.toNat) (s' := s'.toNat) (by omega) (by omega) he i.toNat (by omega)
    simp only [tellFrom]
    rw [h.1, tell_alike hg hK l _ _ (fun j hj => hl j (List.mem_cons_of_mem _ hj)) (hg.next_in (by omega) (by omega)) (hg.next_in (by omega) (by omega)) h.2]

/-- rounds part more and more -/
theorem iter_apart {t : Table} {s s' : Nat} (hs : s < t.next.length) (hs' : s' < t.next.length) : ∀ {j k : Nat}, j ≤ k → cell (iter t k) s = cell (iter t k) s' → cell (iter t j) s = cell (iter t j) s' := by
  intro j k hjk
  induction k with
  | zero => intro h; have : j = 0 := by omega
            subst this; exact h
  | succ k ih =>
    intro h
    by_cases hj : j = k + 1
    · subst hj; exact h
    · refine ih (by omega) ?_
      have := (stepR_same (now := iter t k) hs hs').1 h
      simp only [line, lineTo] at this
      injection this

/-- THE INPUTS THAT PART: what two states that are parted in round 'k', and no earlier, tell of them -/
theorem part_tells {t : Table} (hg : Good t) : ∀ (k : Nat) (a b : Nat) (out : List Int), a < t.next.length → b < t.next.length → cell (iter t k) a ≠ cell (iter t k) b → (∀ j, j < k → cell (iter t j) a = cell (iter t j) b) →
    ∃ part : List Int, part.length = k ∧ partFrom t k a b out = out ++ part ∧ (∀ i ∈ part, 0 ≤ i ∧ i < (row t.next 0).length) ∧
      (0 < k → cell (tellFrom t a part) (k - 1) ≠ cell (tellFrom t b part) (k - 1) ∧ (tellFrom t a part).take (k - 1) = (tellFrom t b part).take (k - 1))
  | 0, a, b, out, ha, hb, hne, _ => by simp [iter, cell, ha, hb] at hne
  | k + 1, a, b, out, ha, hb, hne, hpre => by
    have hk := hpre k (Nat.lt_succ_self k)
    have hra := hg.rows a ha
    have hrb := hg.rows b hb
    -- an input that parts
    have hline : ¬ line t (iter t k) a = line t (iter t k) b := fun h => hne ((stepR_same ha hb).2 h)
    rw [line_same hg ha hb] at hline
    have hex : ∃ i, i < (row t.next 0).length ∧ ¬ (cell (row t.tells a) i = cell (row t.tells b) i ∧ cell (iter t k) (cell (row t.next a) i).toNat = cell (iter t k) (cell (row t.next b) i).toNat) := by
      apply Classical.byContradiction
      intro hno
      exact hline ⟨hk, fun i hi => Classical.byContradiction fun h => hno ⟨i, hi, h⟩⟩
    -- if k > 0, what is told is the same
    have htold : 0 < k → ∀ i, i < (row t.next 0).length → cell (row t.tells a) i = cell (row t.tells b) i := by
      intro hk0 i hi
      obtain ⟨k', rfl⟩ : ∃ k', k = k' + 1 := ⟨k - 1, by omega⟩
      have := (stepR_same (now := iter t k') ha hb).1 hk
      exact (((line_same hg ha hb).1 this).2 i hi).1
    have hparts : ∀ i, i < (row t.next 0).length → (parts t (k + 1) a b i = true ↔ ¬ (cell (row t.tells a) i = cell (row t.tells b) i ∧ cell (iter t k) (cell (row t.next a) i).toNat = cell (iter t k) (cell (row t.next b) i).toNat)) := by
      intro i hi
      have n1 := hg.next_in ha hi
      have n2 := hg.next_in hb hi
      by_cases hk0 : k = 0
      · subst hk0
        have h0 : ∀ s, s < t.next.length → cell (iter t 0) s = 0 := fun s hs => by simp [iter, cell, hs]
        simp [parts, h0 _ (show (cell (row t.next a) i).toNat < t.next.length by omega), h0 _ (show (cell (row t.next b) i).toNat < t.next.length by omega)]
      · have := htold (by omega) i hi
        simp [parts, hk0, this]
        omega
    have hfind : ∃ i, i < (row t.next 0).length ∧ (List.range (row t.next a).length).find? (parts t (k + 1) a b) = some i ∧ parts t (k + 1) a b i = true := by
      cases hf : (List.range (row t.next a).length).find? (parts t (k + 1) a b) with
      | none =>
        rw [List.find?_eq_none] at hf
        obtain ⟨i, hi, h⟩ := hex
        exact absurd ((hparts i hi).2 h) (hf i (List.mem_range.2 (by omega)))
      | some i =>
        have h1 := List.find?_some hf
        have h2 := List.mem_range.1 (List.mem_of_find?_eq_some hf)
        exact ⟨i, by omega, rfl, h1⟩
    obtain ⟨i, hi, hf, hp⟩ := hfind
    have hp' := (hparts i hi).1 hp
    have n1 := hg.next_in ha hi
    have n2 := hg.next_in hb hi
    simp only [partFrom, hf]
    by_cases hk0 : k = 0
    · subst hk0
      refine ⟨[(i : Int)], rfl, by simp [partFrom], by simp; omega, fun _ => ⟨?_, by simp⟩⟩
      have h0 : ∀ s, s < t.next.length → cell (iter t 0) s = 0 := fun s hs => by simp [iter, cell, hs]
      rw [h0 _ (by omega), h0 _ (by omega)] at hp'
      simp only [and_true] at hp'
      simpa [tellFrom, cell] using hp'
    · have ht := htold (by omega) i hi
      have hx : cell (iter t k) (cell (row t.next a) i).toNat ≠ cell (iter t k) (cell (row t.next b) i).toNat := fun h => hp' ⟨ht, h⟩
      have hpre' : ∀ j, j < k → cell (iter t j) (cell (row t.next a) i).toNat = cell (iter t j) (cell (row t.next b) i).toNat := by
        intro j hj
        have h := hpre (j + 1) (by omega)
        have := (stepR_same (now := iter t j) ha hb).1 h
        exact (((line_same hg ha hb).1 this).2 i hi).2
      obtain ⟨part, q1, q2, q3, q4⟩ := part_tells hg k _ _ (out ++ [(i : Int)]) (by omega) (by omega) hx hpre'
      obtain ⟨q5, q6⟩ := q4 (by omega)
      refine ⟨(i : Int) :: part, by simp [q1], by rw [q2]; simp, ?_, fun _ => ?_⟩
      · intro j hj
        rcases List.mem_cons.1 hj with rfl | hj
        · omega
        · exact q3 j hj
      · obtain ⟨k', rfl⟩ : ∃ k', k = k' + 1 := ⟨k - 1, by omega⟩
        have e1 : ((cell (row t.next a) i).toNat : Int) = cell (row t.next a) i := by omega
        have e2 : ((cell (row t.next b) i).toNat : Int) = cell (row t.next b) i := by omega
        rw [e1, e2] at q5 q6
        simp only [Nat.add_sub_cancel, tellFrom, Int.toNat_natCast] at q5 q6 ⊢
        refine ⟨?_, ?_⟩
        · simpa [cell] using q5
        · simp only [List.take_succ_cons]
          rw [ht, q6]

/-- the table of blocks tells what its states do -/
theorem least_tells {t : Table} (hg : Good t) {K : Nat} (hK : IsLast t K) : ∀ (l : List Int) (s : Int), (∀ i ∈ l, 0 ≤ i ∧ i < (row t.next 0).length) → 0 ≤ s ∧ s < t.next.length →
    tellFrom (leastT t (iter t K)) (cell (iter t K) s.toNat) l = tellFrom t s l
  | [], _, _, _ => rfl
  | i :: l, s, hl, hs => by
    have hi := hl i List.mem_cons_self
    have hcan := iter_canon (t := t) K
    have hlen := iter_len t K
    have hinv := repInv hcan t.next.length (by omega)
    obtain ⟨k, hk⟩ := hcan.nat s.toNat (by omega)
    have hck : cell (iter t K) s.toNat = k := by simp [cell, hk]
    have hlt := hinv.lt s.toNat (by omega)
    have hkr : k < (repsTo (iter t K) t.next.length).length := by omega
    have hrs := hinv.pos k _ (List.getElem?_eq_getElem hkr)
    generalize hr : (repsTo (iter t K) t.next.length)[k] = rep at hrs
    have hget : (repsTo (iter t K) t.next.length)[k]? = some rep := by rw [List.getElem?_eq_getElem hkr, hr]
    have h := last_same hg hK (s := rep) (s' := s.toNat) (by omega) (by omega) (by omega) i.toNat (by omega)
    have e1 : row (leastT t (iter t K)).tells (cell (iter t K) s.toNat).toNat = row t.tells rep := by
      rw [hck]; simp [leastT, leastTo, row, hget]
    have e2 : cell (row (leastT t (iter t K)).next (cell (iter t K) s.toNat).toNat) i.toNat = cell (iter t K) (cell (row t.next rep) i.toNat).toNat := by
      have hi' : i.toNat < (row t.next rep).length := by rw [(hg.rows rep hrs.1).1]; omega
      have : row (leastT t (iter t K)).next (cell (iter t K) s.toNat).toNat = (row t.next rep).map fun y => cell (iter t K) y.toNat := by
        rw [hck]; simp [leastT, leastTo, row, hget]
      rw [this]
      simp [cell, hi']
    simp only [tellFrom]
    rw [e1, e2, h.1, h.2, least_tells hg hK l _ (fun j hj => hl j (List.mem_cons_of_mem _ hj)) (hg.next_in (by omega) (by omega))]
/-- as many inputs -/
theorem least_wide {t : Table} (hg : Good t) {K : Nat} (hK : IsLast t K) : (row (leastT t (iter t K)).next 0).length = (row t.next 0).length := by
  have hgx := (least_law hg hK).1
  have hcan := iter_canon (t := t) K
  have hlen := iter_len t K
  have hinv := repInv hcan t.next.length (by omega)
  have h1 : 0 < (repsTo (iter t K) t.next.length).length := by
    have := hgx.pos
    simp [leastT, leastTo] at this
    omega
  have hrs := hinv.pos 0 _ (List.getElem?_eq_getElem h1)
  have : row (leastT t (iter t K)).next 0 = (row t.next (repsTo (iter t K) t.next.length)[0]).map fun y => cell (iter t K) y.toNat := by
    simp [leastT, leastTo, row, List.getElem?_eq_getElem h1]
  rw [this, List.length_map, (hg.rows _ hrs.1).1]
end Go.Sc
