/-
  PLAIN LAWS OF TABLES: the rounds end; in the table of blocks no two states are alike.
-/
import Derived.Test.YtnchabkiellfdaaDoorScQ0
namespace Go.Sc
open Go
set_option linter.unnecessarySimpa false
set_option linter.unusedSimpArgs false

/-! ### numbers as they come -/
structure NumInv (t : List (List Int)) (s : List (List Int) × List Int) : Prop where
  len : s.2.length = t.length
  idx : ∀ j, j < t.length → ∃ k : Nat, s.2[j]? = some (k : Int) ∧ s.1[k]? = t[j]?
  nodup : s.1.Nodup
  new : ∀ j, j < t.length → ∀ v : Nat, ∀ k : Nat, s.2[j]? = some (k : Int) → v < k → ∃ j', j' < j ∧ s.2[j']? = some (v : Int)
  all : ∀ v, v < s.1.length → ∃ j, j < t.length ∧ s.2[j]? = some (v : Int)

theorem numInv_step {t : List (List Int)} {s : List (List Int) × List Int} (h : NumInv t s) (l : List Int) : NumInv (t ++ [l]) (numStep s l) := by
  unfold numStep
  cases hf : s.1.findIdx? (fun x => decide (x = l)) with
  | some k =>
    rw [List.findIdx?_eq_some_iff_getElem] at hf
    obtain ⟨hk, hkl, _⟩ := hf
    have hkl : s.1[k] = l := by simpa using hkl
    have hget : ∀ j, j < t.length → (s.2 ++ [(k : Int)])[j]? = s.2[j]? := fun j hj => List.getElem?_append_left (by rw [h.len]; exact hj)
    refine ⟨by simp [h.len], fun j hj => ?_, h.nodup, fun j hj v k' hk' hv => ?_, fun v hv => ?_⟩
    · by_cases hjt : j < t.length
      · obtain ⟨k', h1, h2⟩ := h.idx j hjt
        exact ⟨k', by simp only; rw [hget j hjt]; exact h1, by rw [List.getElem?_append_left hjt]; exact h2⟩
      · have : j = t.length := by simp at hj; omega
        subst this
        exact ⟨k, by simp [← h.len], by simp [List.getElem?_eq_getElem hk, hkl]⟩
    · simp only at hk'
      by_cases hjt : j < t.length
      · rw [hget j hjt] at hk'
        obtain ⟨j', h1, h2⟩ := h.new j hjt v k' hk' hv
        exact ⟨j', h1, by simp only; rw [hget j' (by omega)]; exact h2⟩
      · have : j = t.length := by simp at hj; omega
        subst this
        rw [← h.len] at hk'
        simp at hk'
        obtain ⟨j', h1, h2⟩ := h.all v (by omega)
        exact ⟨j', h1, by simp only; rw [hget j' h1]; exact h2⟩
    · obtain ⟨j', h1, h2⟩ := h.all v hv
      exact ⟨j', by simp; omega, by simp only; rw [hget j' h1]; exact h2⟩
  | none =>
    rw [List.findIdx?_eq_none_iff] at hf
    have hnot : l ∉ s.1 := fun hm => by simpa using hf l hm
    have hget : ∀ j, j < t.length → (s.2 ++ [(s.1.length : Int)])[j]? = s.2[j]? := fun j hj => List.getElem?_append_left (by rw [h.len]; exact hj)
    refine ⟨by simp [h.len], fun j hj => ?_, ?_, fun j hj v k' hk' hv => ?_, fun v hv => ?_⟩
    · by_cases hjt : j < t.length
      · obtain ⟨k', h1, h2⟩ := h.idx j hjt
        refine ⟨k', by simp only; rw [hget j hjt]; exact h1, ?_⟩
        have hk' : k' < s.1.length := by
          rw [List.getElem?_eq_getElem hjt] at h2
          exact lt_of_get h2
        rw [List.getElem?_append_left hjt]
        simp only
        rw [List.getElem?_append_left hk']; exact h2
      · have : j = t.length := by simp at hj; omega
        subst this
        exact ⟨s.1.length, by simp [← h.len], by simp⟩
    · rw [List.nodup_append]
      refine ⟨h.nodup, by simp, ?_⟩
      intro a ha b hb
      simp at hb; subst hb
      rintro rfl; exact hnot ha
    · simp only at hk'
      by_cases hjt : j < t.length
      · rw [hget j hjt] at hk'
        obtain ⟨j', h1, h2⟩ := h.new j hjt v k' hk' hv
        exact ⟨j', h1, by simp only; rw [hget j' (by omega)]; exact h2⟩
      · have : j = t.length := by simp at hj; omega
        subst this
        rw [← h.len] at hk'
        simp at hk'
        obtain ⟨j', h1, h2⟩ := h.all v (by omega)
        exact ⟨j', h1, by simp only; rw [hget j' h1]; exact h2⟩
    · by_cases hvl : v < s.1.length
      · obtain ⟨j', h1, h2⟩ := h.all v hvl
        exact ⟨j', by simp; omega, by simp only; rw [hget j' h1]; exact h2⟩
      · have : v = s.1.length := by simp at hv; omega
        subst this
        exact ⟨t.length, by simp, by simp [← h.len]⟩
theorem numInv_take (t : List (List Int)) : ∀ i, i ≤ t.length → NumInv (t.take i) (numAll (t.take i))
  | 0, _ => by
    simp only [List.take_zero, numAll, List.foldl_nil]
    exact ⟨rfl, by simp, List.nodup_nil, by simp, by simp⟩
  | i + 1, hi => by
    rw [numAll_take_succ (by omega), List.take_succ_eq_append_getElem (by omega)]
    exact numInv_step (numInv_take t i (by omega)) _
theorem numInv (t : List (List Int)) : NumInv t (numAll t) := by
  have := numInv_take t t.length (Nat.le_refl _)
  rwa [List.take_length] at this

/-- numbers that come in order -/
structure Canon (u : List Int) : Prop where
  nat : ∀ i, i < u.length → ∃ k : Nat, u[i]? = some (k : Int)
  new : ∀ i, i < u.length → ∀ v k : Nat, u[i]? = some (k : Int) → v < k → ∃ j, j < i ∧ u[j]? = some (v : Int)
theorem number_canon (t : List (List Int)) : Canon (number t) := by
  have h := numInv t
  have hl : (number t).length = t.length := h.len
  exact ⟨fun i hi => by obtain ⟨k, h1, _⟩ := h.idx i (by omega); exact ⟨k, h1⟩, fun i hi v k => h.new i (by omega) v k⟩
theorem number_same {t : List (List Int)} {i j : Nat} (hi : i < t.length) (hj : j < t.length) : (number t)[i]? = (number t)[j]? ↔ t[i]? = t[j]? := by
  have h := numInv t
  obtain ⟨k, h1, h2⟩ := h.idx i hi
  obtain ⟨k', h3, h4⟩ := h.idx j hj
  show (numAll t).2[i]? = (numAll t).2[j]? ↔ _
  rw [h1, h3, ← h2, ← h4]
  have hk : k < (numAll t).1.length := by rw [List.getElem?_eq_getElem hi] at h2; exact lt_of_get h2
  have hk' : k' < (numAll t).1.length := by rw [List.getElem?_eq_getElem hj] at h4; exact lt_of_get h4
  constructor
  · intro e
    injection e with e
    have : k = k' := by omega
    rw [this]
  · intro e
    rw [List.getElem?_eq_getElem hk, List.getElem?_eq_getElem hk'] at e
    injection e with e
    have := (List.getElem_inj h.nodup).1 e
    rw [this]
/-- such numbers are told by who is alike -/
theorem canon_eq {u v : List Int} (hu : Canon u) (hv : Canon v) (hl : u.length = v.length) (h : ∀ i j, i < u.length → j < u.length → (u[i]? = u[j]? ↔ v[i]? = v[j]?)) : u = v := by
  apply List.ext_getElem?
  intro i
  induction i using Nat.strongRecOn with
  | _ i ih =>
    by_cases hi : i < u.length
    case neg => rw [List.getElem?_eq_none (by omega), List.getElem?_eq_none (by omega)]
    have hi' : i < v.length := by omega
    obtain ⟨k, hk⟩ := hu.nat i hi
    obtain ⟨k', hk'⟩ := hv.nat i hi'
    have key : k = k' := by
      rcases Nat.lt_trichotomy k k' with hlt | he | hlt
      · obtain ⟨j, hj, hjv⟩ := hv.new i hi' k k' hk' hlt
        have h1 := ih j hj
        have : v[i]? = v[j]? := (h i j hi (by omega)).1 (by rw [h1, hjv, hk])
        rw [hk', hjv] at this
        injection this with this; omega
      · exact he
      · obtain ⟨j, hj, hjv⟩ := hu.new i hi k' k hk hlt
        have h1 := ih j hj
        have : u[i]? = u[j]? := (h i j hi (by omega)).2 (by rw [← h1, hjv, hk'])
        rw [hk, hjv] at this
        injection this with this; omega
    rw [hk, hk', key]

/-! ### rounds -/
theorem iter_canon {t : Table} : ∀ k, Canon (iter t k)
  | 0 => by
    refine ⟨fun i hi => ⟨0, ?_⟩, fun i hi v k hk hv => ?_⟩
    · have : i < t.next.length := by simpa [iter] using hi
      simp [iter, this]
    · simp only [iter] at hi hk
      have : i < t.next.length := by simpa using hi
      simp [this] at hk; omega
  | k + 1 => number_canon _
theorem cell_get {l : List Int} {i : Nat} (hi : i < l.length) : l[i]? = some (cell l i) := by simp [cell, hi]
theorem cell_eq_iff {l : List Int} {i j : Nat} (hi : i < l.length) (hj : j < l.length) : l[i]? = l[j]? ↔ cell l i = cell l j := by rw [cell_get hi, cell_get hj]; simp
theorem stepR_same {t : Table} {now : List Int} {i j : Nat} (hi : i < t.next.length) (hj : j < t.next.length) : cell (stepR t now) i = cell (stepR t now) j ↔ line t now i = line t now j := by
  rw [← cell_eq_iff (by rw [stepR_len]; exact hi) (by rw [stepR_len]; exact hj)]
  simp only [stepR]
  rw [number_same (by simpa using hi) (by simpa using hj)]
  simp [hi, hj]
theorem lineTo_same {t : Table} {now : List Int} {s s' : Nat} : ∀ w, lineTo t now s w = lineTo t now s' w ↔ cell now s = cell now s' ∧ ∀ i, i < w → cell (row t.tells s) i = cell (row t.tells s') i ∧ cell now (cell (row t.next s) i).toNat = cell now (cell (row t.next s') i).toNat
  | 0 => by simp [lineTo]
  | w + 1 => by
    rw [lineTo_succ, lineTo_succ]
    constructor
    · intro h
      have h := List.append_inj h (by rw [lineTo_len, lineTo_len])
      obtain ⟨h1, h2⟩ := (lineTo_same w).1 h.1
      refine ⟨h1, fun i hi => ?_⟩
      by_cases hw : i < w
      · exact h2 i hw
      · have : i = w := by omega
        subst this
        have := h.2
        simp at this
        exact this
    · rintro ⟨h1, h2⟩
      rw [(lineTo_same w).2 ⟨h1, fun i hi => h2 i (by omega)⟩, (h2 w (by omega)).1, (h2 w (by omega)).2]
theorem line_same {t : Table} (hg : Good t) {now : List Int} {s s' : Nat} (hs : s < t.next.length) (hs' : s' < t.next.length) :
    line t now s = line t now s' ↔ cell now s = cell now s' ∧ ∀ i, i < (row t.next 0).length → cell (row t.tells s) i = cell (row t.tells s') i ∧ cell now (cell (row t.next s) i).toNat = cell now (cell (row t.next s') i).toNat := by
  rw [line, line, (hg.rows s hs).1, (hg.rows s' hs').1, lineTo_same]

/-- pairs that are alike -/
def alike (u : List Int) (n : Nat) : Nat := (((List.range n).map fun i => (List.range n).map fun j => (i, j)).flatten).countP fun p => decide (u[p.1]? = u[p.2]?)
theorem countP_lt {α : Type} {p q : α → Bool} : ∀ {l : List α}, (∀ x ∈ l, p x = true → q x = true) → (∃ x ∈ l, q x = true ∧ p x = false) → l.countP p < l.countP q
  | [], _, h => by simp at h
  | y :: l, h, ⟨x, hx, h1, h2⟩ => by
    have hle : l.countP p ≤ l.countP q := List.countP_mono_left fun z hz hpz => h z (List.mem_cons_of_mem _ hz) hpz
    rcases List.mem_cons.1 hx with rfl | hx
    · simp [List.countP_cons, h1, h2]; omega
    · have := countP_lt (l := l) (fun z hz => h z (List.mem_cons_of_mem _ hz)) ⟨x, hx, h1, h2⟩
      have hy := h y List.mem_cons_self
      simp only [List.countP_cons]
      cases hp : p y <;> cases hq : q y <;> simp_all <;> omega
theorem alike_le (u : List Int) (n : Nat) : alike u n ≤ n * n := by
  have h : (((List.range n).map fun i => (List.range n).map fun j => (i, j)).flatten).length = n * n := by
    rw [List.length_flatten, List.map_map]
    have : ((List.length : List (Nat × Nat) → Nat) ∘ fun (i : Nat) => (List.range n).map fun j => (i, j)) = fun _ => n := by funext i; simp
    rw [this, List.map_const', List.sum_replicate_nat, List.length_range]
  rw [← h]
  exact List.countP_le_length
theorem alike_lt {t : Table} {k : Nat} (h : iter t (k + 1) ≠ iter t k) : alike (iter t (k + 1)) t.next.length < alike (iter t k) t.next.length := by
  have himp : ∀ i j, i < t.next.length → j < t.next.length → (iter t (k + 1))[i]? = (iter t (k + 1))[j]? → (iter t k)[i]? = (iter t k)[j]? := by
    intro i j hi hj he
    rw [cell_eq_iff (by rw [iter_len]; exact hi) (by rw [iter_len]; exact hj)] at he ⊢
    have := (stepR_same (now := iter t k) hi hj).1 he
    simp only [line, lineTo] at this
    injection this
  have hex : ∃ i j, i < t.next.length ∧ j < t.next.length ∧ (iter t k)[i]? = (iter t k)[j]? ∧ ¬ (iter t (k + 1))[i]? = (iter t (k + 1))[j]? := by
    apply Classical.byContradiction
    intro hno
    apply h
    refine canon_eq (iter_canon _) (iter_canon _) (by rw [iter_len, iter_len]) fun i j hi hj => ⟨himp i j (by rwa [iter_len] at hi) (by rwa [iter_len] at hj), fun he => ?_⟩
    apply Classical.byContradiction
    intro hne
    exact hno ⟨i, j, by rwa [iter_len] at hi, by rwa [iter_len] at hj, he, hne⟩
  obtain ⟨i, j, hi, hj, h1, h2⟩ := hex
  refine countP_lt (fun x hx hp => ?_) ⟨(i, j), ?_, by simpa using h1, by simpa using h2⟩
  · simp only [List.mem_flatten, List.mem_map, List.mem_range] at hx
    obtain ⟨_, ⟨a, ha, rfl⟩, hx⟩ := hx
    simp only [List.mem_map, List.mem_range] at hx
    obtain ⟨b, hb, rfl⟩ := hx
    simp only [decide_eq_true_eq] at hp ⊢
    exact himp a b ha hb hp
  · simp only [List.mem_flatten, List.mem_map, List.mem_range]
    exact ⟨_, ⟨i, hi, rfl⟩, by simp [hj]⟩
/-- the rounds end -/
theorem ends (t : Table) : Ends t := by
  intro hg
  have hn := hg.few
  have hex : ∃ k, k ≤ t.next.length * t.next.length ∧ iter t (k + 1) = iter t k := by
    apply Classical.byContradiction
    intro hno
    have hno : ∀ k, k ≤ t.next.length * t.next.length → iter t (k + 1) ≠ iter t k := fun k hk he => hno ⟨k, hk, he⟩
    have : ∀ k, k ≤ t.next.length * t.next.length + 1 → alike (iter t k) t.next.length + k ≤ t.next.length * t.next.length := by
      intro k
      induction k with
      | zero => intro _; simpa using alike_le _ _
      | succ k ih =>
        intro hk
        have := ih (by omega)
        have := alike_lt (hno k (by omega))
        omega
    have := this _ (Nat.le_refl _)
    omega
  obtain ⟨k, hk, hmin⟩ := exists_least (p := fun k => k ≤ t.next.length * t.next.length ∧ iter t (k + 1) = iter t k) hex
  refine ⟨k, ?_, hk.2, fun j hj he => hmin j hj ⟨by omega, he⟩⟩
  have : t.next.length * t.next.length ≤ 500 * 500 := Nat.mul_le_mul hn hn
  omega

/-! ### the table of blocks -/
/-- states that tell alike for ever are of one block -/
theorem coarsest {t : Table} (hg : Good t) (q : Nat → Nat → Prop) (hq : ∀ s s', s < t.next.length → s' < t.next.length → q s s' → ∀ i, i < (row t.next 0).length →
      cell (row t.tells s) i = cell (row t.tells s') i ∧ q (cell (row t.next s) i).toNat (cell (row t.next s') i).toNat) : ∀ k s s', s < t.next.length → s' < t.next.length → q s s' → cell (iter t k) s = cell (iter t k) s'
  | 0, s, s', hs, hs', h => by simp [iter, cell, hs, hs']
  | k + 1, s, s', hs, hs', h => by
    show cell (stepR t (iter t k)) s = cell (stepR t (iter t k)) s'
    rw [stepR_same hs hs', line_same hg hs hs']
    refine ⟨coarsest hg q hq k s s' hs hs' h, fun i hi => ?_⟩
    obtain ⟨h1, h2⟩ := hq s s' hs hs' h i hi
    have a1 := hg.there s hs (cell (row t.next s) i) (by
      have hi' : i < (row t.next s).length := by rw [(hg.rows s hs).1]; exact hi
      have : (row t.next s)[i] ∈ row t.next s := List.getElem_mem hi'
      simpa [cell, hi'] using this)
    have a2 := hg.there s' hs' (cell (row t.next s') i) (by
      have hi' : i < (row t.next s').length := by rw [(hg.rows s' hs').1]; exact hi
      have : (row t.next s')[i] ∈ row t.next s' := List.getElem_mem hi'
      simpa [cell, hi'] using this)
    exact ⟨h1, coarsest hg q hq k _ _ (by omega) (by omega) h2⟩

theorem last_same {t : Table} (hg : Good t) {K : Nat} (hK : IsLast t K) {s s' : Nat} (hs : s < t.next.length) (hs' : s' < t.next.length) (h : cell (iter t K) s = cell (iter t K) s') :
    ∀ i, i < (row t.next 0).length → cell (row t.tells s) i = cell (row t.tells s') i ∧ cell (iter t K) (cell (row t.next s) i).toNat = cell (iter t K) (cell (row t.next s') i).toNat := by
  have h' : cell (stepR t (iter t K)) s = cell (stepR t (iter t K)) s' := by
    have : stepR t (iter t K) = iter t K := hK.1
    rw [this]; exact h
  rw [stepR_same hs hs', line_same hg hs hs'] at h'
  exact h'.2

structure RepInv (l : List Int) (i : Nat) (r : List Nat) : Prop where
  pos : ∀ (k s : Nat), r[k]? = some s → s < i ∧ cell l s = (k : Int)
  lt : ∀ j, j < i → cell l j < r.length
theorem repInv {l : List Int} (hl : Canon l) : ∀ i, i ≤ l.length → RepInv l i (repsTo l i)
  | 0, _ => ⟨by simp [repsTo], by simp⟩
  | i + 1, hi => by
    have h := repInv hl i (by omega)
    obtain ⟨k, hk⟩ := hl.nat i (by omega)
    have hck : cell l i = k := by simp [cell, hk]
    simp only [repsTo]
    split
    · rename_i hlt
      exact ⟨fun k s hs => ⟨Nat.lt_succ_of_lt (h.pos k s hs).1, (h.pos k s hs).2⟩, fun j hj => by
        by_cases hji : j < i
        · exact h.lt j hji
        · have hji' : j = i := by omega
          subst hji'; exact hlt⟩
    · rename_i hlt
      have hke : cell l i = (repsTo l i).length := by
        rcases Nat.lt_trichotomy k (repsTo l i).length with h1 | h1 | h1
        · omega
        · omega
        · obtain ⟨j, hj, hjv⟩ := hl.new i (by omega) (repsTo l i).length k hk h1
          have := h.lt j hj
          simp [cell, hjv] at this
      refine ⟨fun k s hs => ?_, fun j hj => ?_⟩
      · by_cases hkl : k < (repsTo l i).length
        · rw [List.getElem?_append_left hkl] at hs
          exact ⟨Nat.lt_succ_of_lt (h.pos k s hs).1, (h.pos k s hs).2⟩
        · have hlt := lt_of_get hs
          simp at hlt
          have : k = (repsTo l i).length := by omega
          subst this
          simp at hs
          subst hs
          exact ⟨Nat.lt_succ_self _, hke⟩
      · simp only [List.length_append, List.length_cons, List.length_nil]
        by_cases hji : j < i
        · have := h.lt j hji; omega
        · have hji' : j = i := by omega
          subst hji'; omega

theorem range_canon (m : Nat) : Canon ((List.range m).map fun (i : Nat) => (i : Int)) := by
  have hg : ∀ i, i < m → ((List.range m).map fun (i : Nat) => (i : Int))[i]? = some (i : Int) := fun i hi => by simp [hi]
  refine ⟨fun i hi => ⟨i, hg i (by simpa using hi)⟩, fun i hi v k hk hv => ?_⟩
  have hi : i < m := by simpa using hi
  rw [hg i hi] at hk
  injection hk with hk
  exact ⟨v, by omega, hg v (by omega)⟩

/-- THE LAW: the table of blocks is a table; its blocks are its states; and there are no more -/
theorem least_law {t : Table} (hg : Good t) {K : Nat} (hK : IsLast t K) : Good (leastT t (iter t K)) ∧ (leastT t (iter t K)).next.length ≤ t.next.length ∧
    ∀ K', IsLast (leastT t (iter t K)) K' → iter (leastT t (iter t K)) K' = (List.range (leastT t (iter t K)).next.length).map fun (i : Nat) => (i : Int) := by
  have hcan := iter_canon (t := t) K
  have hlen := iter_len t K
  have hinv := repInv hcan t.next.length (by omega)
  generalize hr : repsTo (iter t K) t.next.length = r at hinv
  generalize hl : iter t K = l at *
  have hx : leastT t l = ⟨r.map fun s => (row t.next s).map fun y => cell l y.toNat, r.map (row t.tells)⟩ := by simp [leastT, leastTo, hr]
  have hrl : r.length ≤ t.next.length := by rw [← hr]; exact repsTo_len _ _
  have hn := hg.pos
  have hr0 : 1 ≤ r.length := by
    have h0 := hinv.lt 0 (by omega)
    obtain ⟨k, hk⟩ := hcan.nat 0 (by omega)
    have : cell l 0 = k := by simp [cell, hk]
    omega
  have hrow : ∀ k s, r[k]? = some s → row (leastT t l).next k = (row t.next s).map (fun y => cell l y.toNat) ∧ row (leastT t l).tells k = row t.tells s := by
    intro k s hs
    rw [hx]
    simp [row, hs]
  have hxl : (leastT t l).next.length = r.length := by rw [hx]; simp
  have hat : ∀ k, k < r.length → ∃ s, r[k]? = some s ∧ s < t.next.length ∧ cell l s = k := fun k hk => by
    have := hinv.pos k _ (List.getElem?_eq_getElem hk)
    exact ⟨_, List.getElem?_eq_getElem hk, this.1, this.2⟩
  obtain ⟨s0, h00, h01, _⟩ := hat 0 (by omega)
  have hw0 : (row (leastT t l).next 0).length = (row t.next 0).length := by rw [(hrow 0 s0 h00).1]; simp [(hg.rows s0 h01).1]
  have hgx : Good (leastT t l) := by
    refine ⟨by omega, by have := hg.few; omega, by rw [hw0]; exact hg.wide, by rw [hx]; simp, fun k hk => ?_, fun k hk x hxm => ?_⟩
    · obtain ⟨s, h1, h2, _⟩ := hat k (by omega)
      rw [hw0, (hrow k s h1).1, (hrow k s h1).2, List.length_map]
      exact hg.rows s h2
    · obtain ⟨s, h1, h2, _⟩ := hat k (by omega)
      rw [(hrow k s h1).1] at hxm
      simp only [List.mem_map] at hxm
      obtain ⟨y, hy, rfl⟩ := hxm
      have hyr := hg.there s h2 y hy
      have h3 := hinv.lt y.toNat (by omega)
      obtain ⟨k', hk'⟩ := hcan.nat y.toNat (by omega)
      have : cell l y.toNat = k' := by simp [cell, hk']
      omega
  refine ⟨hgx, by omega, fun K' hK' => ?_⟩
  have hlen' := iter_len (leastT t l) K'
  refine canon_eq (iter_canon _) (range_canon _) (by simp [hlen']) fun a b ha hb => ⟨fun he => ?_, fun he => ?_⟩
  case refine_2 =>
    rw [hlen'] at ha hb
    simp [ha, hb] at he
    have he : a = b := by omega
    rw [he]
  rw [hlen'] at ha hb
  rw [cell_eq_iff (by omega) (by omega)] at he
  obtain ⟨sa, h1, h2, h3⟩ := hat a (by omega)
  obtain ⟨sb, h4, h5, h6⟩ := hat b (by omega)
  -- what is alike in the table of blocks is alike in the table
  have hcellnat : ∀ s, s < t.next.length → ∃ k : Nat, cell l s = k ∧ k < r.length ∧ ∃ s', r[k]? = some s' ∧ s' < t.next.length ∧ cell l s' = cell l s := by
    intro s hs
    obtain ⟨k, hk⟩ := hcan.nat s (by omega)
    have hck : cell l s = k := by simp [cell, hk]
    have hlt := hinv.lt s hs
    obtain ⟨s', e1, e2, e3⟩ := hat k (by omega)
    exact ⟨k, hck, by omega, s', e1, e2, by omega⟩
  have key := coarsest hg (fun s s' => cell (iter (leastT t l) K') (cell l s).toNat = cell (iter (leastT t l) K') (cell l s').toNat) (by
    intro s s' hs hs' hq i hi
    obtain ⟨k, e1, e2, u, e3, e4, e5⟩ := hcellnat s hs
    obtain ⟨k', f1, f2, u', f3, f4, f5⟩ := hcellnat s' hs'
    have hq : cell (iter (leastT t l) K') k = cell (iter (leastT t l) K') k' := by rw [e1, f1] at hq; exact hq
    have h7 := last_same hgx hK' (by omega) (by omega) hq i (by rw [hw0]; exact hi)
    rw [(hrow k u e3).1, (hrow k u e3).2, (hrow k' u' f3).1, (hrow k' u' f3).2] at h7
    have hm : ∀ z, z < t.next.length → cell ((row t.next z).map fun y => cell l y.toNat) i = cell l (cell (row t.next z) i).toNat := by
      intro z hz
      have hi' : i < (row t.next z).length := by rw [(hg.rows z hz).1]; exact hi
      simp [cell, hi']
    rw [hm u e4, hm u' f4] at h7
    have hKl : ∀ z z', z < t.next.length → z' < t.next.length → cell l z = cell l z' → cell (row t.tells z) i = cell (row t.tells z') i ∧ cell l (cell (row t.next z) i).toNat = cell l (cell (row t.next z') i).toNat := by
      intro z z' hz hz' he
      have := last_same hg hK hz hz' (by rw [hl]; exact he) i hi
      rwa [hl] at this
    have g1 := hKl u s e4 hs e5
    have g2 := hKl u' s' f4 hs' f5
    exact ⟨by rw [← g1.1, ← g2.1]; exact h7.1, by rw [← g1.2, ← g2.2]; exact h7.2⟩) K sa sb h2 h5 (by rw [h3, h6]; exact he)
  rw [hl, h3, h6] at key
  have : a = b := by omega
  rw [this]
end Go.Sc
