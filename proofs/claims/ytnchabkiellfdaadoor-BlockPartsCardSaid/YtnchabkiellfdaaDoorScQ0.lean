/-
  PLAIN LAWS of tables: numbering, rounds, blocks (no program in sight).
-/
import Derived.Test.YtnchabkiellfdaaDoorScP6
namespace Go.Sc
open Go
set_option linter.unusedSimpArgs false
set_option linter.unusedVariables false
set_option linter.unnecessarySimpa false

def idxZ : Option Nat → Int
  | some i => i
  | none => -1
/-- the first one of 'n' -/
def IsFirst (n : Nat) (p : Nat → Bool) : Option Nat → Prop
  | some i => i < n ∧ p i = true ∧ ∀ j, j < i → p j = false
  | none => ∀ j, j < n → p j = false
theorem IsFirst.findIdx {α : Type} {l : List α} {p : α → Bool} {o : Option Nat} (h : IsFirst l.length (fun i => (l[i]?.map p).getD false) o) : l.findIdx? p = o := by
  cases o with
  | none =>
    rw [List.findIdx?_eq_none_iff]
    intro x hx
    obtain ⟨i, hi, rfl⟩ := List.getElem_of_mem hx
    have := h i hi
    simpa [hi] using this
  | some i =>
    obtain ⟨h1, h2, h3⟩ := h
    rw [List.findIdx?_eq_some_iff_getElem]
    refine ⟨h1, by simpa [h1] using h2, fun j hj => ?_⟩
    have := h3 j hj
    simpa [show j < l.length by omega] using this
/-- lists are numbered as they come: those that are seen, and the numbers -/
def numStep (s : List (List Int) × List Int) (l : List Int) : List (List Int) × List Int :=
  match s.1.findIdx? (fun x => decide (x = l)) with
  | some k => (s.1, s.2 ++ [(k : Int)])
  | none => (s.1 ++ [l], s.2 ++ [(s.1.length : Int)])
def numAll (t : List (List Int)) : List (List Int) × List Int := t.foldl numStep ([], [])
def number (t : List (List Int)) : List Int := (numAll t).2
theorem numStep_len (s : List (List Int) × List Int) (l : List Int) : (numStep s l).1.length ≤ s.1.length + 1 ∧ (numStep s l).2.length = s.2.length + 1 := by
  unfold numStep; split <;> simp
theorem numAll_len (t : List (List Int)) : (numAll t).1.length ≤ t.length ∧ (numAll t).2.length = t.length := by
  suffices h : ∀ (t : List (List Int)) s, (t.foldl numStep s).1.length ≤ s.1.length + t.length ∧ (t.foldl numStep s).2.length = s.2.length + t.length by
    simpa [numAll] using h t ([], [])
  intro t
  induction t with
  | nil => simp
  | cons l t ih =>
    intro s
    have h1 := ih (numStep s l)
    have h2 := numStep_len s l
    simp only [List.foldl_cons, List.length_cons]
    omega
theorem numAll_mem (t : List (List Int)) : ∀ l ∈ (numAll t).1, l ∈ t := by
  suffices h : ∀ (t : List (List Int)) s (q : List (List Int)), (∀ l ∈ s.1, l ∈ q) → ∀ l ∈ (t.foldl numStep s).1, l ∈ q ∨ l ∈ t by
    intro l hl
    rcases h t ([], []) [] (by simp) l hl with h | h
    · simp at h
    · exact h
  intro t
  induction t with
  | nil => intro s q hs l hl; exact .inl (hs l hl)
  | cons z t ih =>
    intro s q hs l hl
    rcases ih (numStep s z) (z :: q) (by
      intro l hl
      unfold numStep at hl
      split at hl
      · exact List.mem_cons_of_mem _ (hs l hl)
      · simp only [List.mem_append, List.mem_singleton] at hl
        rcases hl with hl | rfl
        · exact List.mem_cons_of_mem _ (hs l hl)
        · exact List.mem_cons_self) l hl with h | h
    · rcases List.mem_cons.1 h with rfl | h
      · exact .inr List.mem_cons_self
      · exact .inl h
    · exact .inr (List.mem_cons_of_mem _ h)
theorem numAll_take_succ {t : List (List Int)} {i : Nat} (hi : i < t.length) : numAll (t.take (i + 1)) = numStep (numAll (t.take i)) t[i] := by
  simp only [numAll]
  rw [List.take_succ_eq_append_getElem hi, List.foldl_append]
  rfl
/-- errors: a code, and a place -/
abbrev Err := Option (Nat × Option Nat)
structure Table where
  next : List (List Int)
  tells : List (List Int)
def checkAt (t : Table) (s : Nat) : Err :=
  if (t.next[s]?.getD []).length ≠ (t.next[0]?.getD []).length ∨ (t.tells[s]?.getD []).length ≠ (t.next[0]?.getD []).length then some (3, some s)
  else if (t.next[s]?.getD []).any (fun x => decide (x < 0) || decide (x ≥ t.next.length)) then some (2, some s)
  else none
def check (t : Table) : Err :=
  if t.next.length < 1 ∨ t.next.length > 500 ∨ (t.next[0]?.getD []).length > 64 then some (4, none)
  else if t.tells.length ≠ t.next.length then some (3, none)
  else (List.range t.next.length).findSome? (checkAt t)
theorem findSome_none_of {α β : Type} {f : α → Option β} {l : List α} (h : ∀ x ∈ l, f x = none) : l.findSome? f = none := by
  rw [List.findSome?_eq_none_iff]; exact h
theorem findSome_range {β : Type} {f : Nat → Option β} {n i : Nat} {y : β} (hi : i < n) (hpre : ∀ j, j < i → f j = none) (hy : f i = some y) : (List.range n).findSome? f = some y := by
  rw [List.findSome?_eq_some_iff]
  refine ⟨(List.range n).take i, i, (List.range n).drop (i + 1), ?_, hy, fun a ha => hpre a ?_⟩
  · have h : i < (List.range n).length := by simpa using hi
    have := List.take_append_drop i (List.range n)
    rw [List.drop_eq_getElem_cons h] at this
    simpa using this.symm
  · rw [List.take_range] at ha
    have := List.mem_range.1 ha
    omega
def cell (l : List Int) (i : Nat) : Int := l[i]?.getD 0
def row (t : List (List Int)) (i : Nat) : List Int := t[i]?.getD []
/-- what is told of a state: its block, and by each input what it tells, and the block to which it leads -/
def lineTo (t : Table) (now : List Int) (s i : Nat) : List Int := cell now s :: ((List.range i).map fun j => [cell (row t.tells s) j, cell now (cell (row t.next s) j).toNat]).flatten
def line (t : Table) (now : List Int) (s : Nat) : List Int := lineTo t now s (row t.next s).length
def stepR (t : Table) (now : List Int) : List Int := number ((List.range t.next.length).map (line t now))
def iter (t : Table) : Nat → List Int
  | 0 => List.replicate t.next.length 0
  | k + 1 => stepR t (iter t k)
def IsLast (t : Table) (k : Nat) : Prop := iter t (k + 1) = iter t k ∧ ∀ j, j < k → iter t (j + 1) ≠ iter t j
theorem stepR_len (t : Table) (now : List Int) : (stepR t now).length = t.next.length := by
  have := (numAll_len ((List.range t.next.length).map (line t now))).2
  simpa [stepR, number] using this
theorem iter_len (t : Table) : ∀ k, (iter t k).length = t.next.length
  | 0 => by simp [iter]
  | k + 1 => stepR_len t _
/-- a table that may be -/
structure Good (t : Table) : Prop where
  pos : 1 ≤ t.next.length
  few : t.next.length ≤ 500
  wide : (row t.next 0).length ≤ 64
  tells : t.tells.length = t.next.length
  rows : ∀ s, s < t.next.length → (row t.next s).length = (row t.next 0).length ∧ (row t.tells s).length = (row t.next 0).length
  there : ∀ s, s < t.next.length → ∀ x ∈ row t.next s, 0 ≤ x ∧ x < t.next.length
theorem good_iff {t : Table} : check t = none ↔ Good t := by
  unfold check
  constructor
  · intro h
    split at h
    · cases h
    rename_i h1
    split at h
    · cases h
    rename_i h2
    rw [List.findSome?_eq_none_iff] at h
    have hs : ∀ s, s < t.next.length → ((row t.next s).length = (row t.next 0).length ∧ (row t.tells s).length = (row t.next 0).length) ∧ ∀ x ∈ row t.next s, 0 ≤ x ∧ x < t.next.length := by
      intro s hs
      have := h s (List.mem_range.2 hs)
      unfold checkAt at this
      split at this
      · cases this
      rename_i h3
      split at this
      · cases this
      rename_i h4
      refine ⟨by simp only [row]; omega, fun x hx => ?_⟩
      simp only [List.any_eq_true, Bool.or_eq_true, decide_eq_true_eq, not_exists, not_and] at h4
      have := h4 x hx
      omega
    exact ⟨by omega, by omega, by simp only [row]; omega, by simpa using h2, fun s h => (hs s h).1, fun s h => (hs s h).2⟩
  · intro g
    have := g.pos; have := g.few; have := g.tells
    rw [if_neg (by have := g.wide; simp only [row] at this; omega), if_neg (by omega)]
    apply findSome_none_of
    intro s hs
    have hs := List.mem_range.1 hs
    have h1 := g.rows s hs
    have h2 := g.there s hs
    simp only [row] at h1 h2
    unfold checkAt
    rw [if_neg (by omega), if_neg]
    simp only [List.any_eq_true, Bool.or_eq_true, decide_eq_true_eq, not_exists, not_and]
    intro x hx
    have := h2 x hx
    omega
theorem lineTo_succ (t : Table) (now : List Int) (s i : Nat) : lineTo t now s (i + 1) = lineTo t now s i ++ [cell (row t.tells s) i, cell now (cell (row t.next s) i).toNat] := by
  simp [lineTo, List.range_succ]
theorem lineTo_len (t : Table) (now : List Int) (s i : Nat) : (lineTo t now s i).length = 1 + 2 * i := by
  induction i with
  | zero => simp [lineTo]
  | succ i ih => rw [lineTo_succ]; simp [ih]; omega
def fewB (t : Table) (m : Int) : Bool := decide ((t.next.length : Int) ≤ m) && (decide (t.tells.length ≤ 500) && (decide (t.next.length = 0) || decide ((row t.next 0).length ≤ 16)))
/-- that the rounds end (told in plain Lean elsewhere) -/
def Ends (t : Table) : Prop := Good t → ∃ K, K < 1000000 ∧ IsLast t K
theorem IsLast.uniq {t : Table} {j k : Nat} (hj : IsLast t j) (hk : IsLast t k) : j = k := by
  rcases Nat.lt_trichotomy j k with h | h | h
  · exact absurd hj.1 (hk.2 j h)
  · exact h
  · exact absurd hk.1 (hj.2 k h)
/-- the first state of each block -/
def repsTo (l : List Int) : Nat → List Nat
  | 0 => []
  | i + 1 => if cell l i < (repsTo l i).length then repsTo l i else repsTo l i ++ [i]
def leastTo (t : Table) (l : List Int) (i : Nat) : Table := ⟨(repsTo l i).map fun s => (row t.next s).map fun y => cell l y.toNat, (repsTo l i).map (row t.tells)⟩
def leastT (t : Table) (l : List Int) : Table := leastTo t l t.next.length
theorem repsTo_len (l : List Int) : ∀ i, (repsTo l i).length ≤ i
  | 0 => by simp [repsTo]
  | i + 1 => by
    have := repsTo_len l i
    simp only [repsTo]; split <;> simp <;> omega
/-- does input 'i' part two states 'k' rounds before the end? -/
def parts (t : Table) (k : Nat) (a b i : Nat) : Bool :=
  (decide (k = 1) && decide (cell (row t.tells a) i ≠ cell (row t.tells b) i)) || (decide (k > 1) && decide (cell (iter t (k - 1)) (cell (row t.next a) i).toNat ≠ cell (iter t (k - 1)) (cell (row t.next b) i).toNat))
def partFrom (t : Table) : Nat → Nat → Nat → List Int → List Int
  | 0, _, _, out => out
  | k + 1, a, b, out => match (List.range (row t.next a).length).find? (parts t (k + 1) a b) with
    | some i => partFrom t k (cell (row t.next a) i).toNat (cell (row t.next b) i).toNat (out ++ [(i : Int)])
    | none => partFrom t k a b out
def t0 : Table := ⟨[[1], [0], [0]], [[5], [5], [6]]⟩
theorem t0_check : check t0 = none := by decide
theorem t0_last : IsLast t0 1 := by
  refine ⟨by decide, fun j hj => ?_⟩
  have : j = 0 := by omega
  subst this
  decide
/-- what a table tells of inputs -/
def tellFrom (t : Table) : Int → List Int → List Int
  | _, [] => []
  | s, i :: l => cell (row t.tells s.toNat) i.toNat :: tellFrom t (cell (row t.next s.toNat) i.toNat) l
def TellOk (t : Table) (s : Int) (l : List Int) : Prop := 0 ≤ s ∧ s < t.next.length ∧ ∀ i ∈ l, 0 ≤ i ∧ i < (row t.next 0).length
theorem tellFrom_snoc (t : Table) : ∀ (l : List Int) (s : Int) (i : Int), tellFrom t s (l ++ [i]) = tellFrom t s l ++ [cell (row t.tells (l.foldl (fun s i => cell (row t.next s.toNat) i.toNat) s).toNat) i.toNat]
  | [], s, i => rfl
  | x :: l, s, i => by simp only [List.cons_append, tellFrom, List.foldl_cons]; rw [tellFrom_snoc t l]
theorem tellFrom_len (t : Table) : ∀ (l : List Int) (s : Int), (tellFrom t s l).length = l.length
  | [], _ => rfl
  | x :: l, s => by simp [tellFrom, tellFrom_len t l]
/-- where inputs lead -/
def goTo (t : Table) (s : Int) (l : List Int) : Int := l.foldl (fun s i => cell (row t.next s.toNat) i.toNat) s
theorem goTo_snoc (t : Table) (s : Int) (l : List Int) (i : Int) : goTo t s (l ++ [i]) = cell (row t.next (goTo t s l).toNat) i.toNat := by simp [goTo]
theorem Good.next_in {t : Table} (hg : Good t) {s : Nat} (hs : s < t.next.length) {i : Nat} (hi : i < (row t.next 0).length) : 0 ≤ cell (row t.next s) i ∧ cell (row t.next s) i < t.next.length := by
  have hi' : i < (row t.next s).length := by rw [(hg.rows s hs).1]; exact hi
  have : (row t.next s)[i] ∈ row t.next s := List.getElem_mem hi'
  exact hg.there s hs _ (by simpa [cell, hi'] using this)
end Go.Sc
