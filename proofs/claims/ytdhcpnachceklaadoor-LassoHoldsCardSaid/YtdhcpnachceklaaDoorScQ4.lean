/-
  PLAIN LAWS OF WORDS AND FORMULAS: looking on for two rounds is enough.
-/
import Derived.Test.YtdhcpnachceklaaDoorScP4
namespace Go.Sc
open Go
set_option linter.unusedSimpArgs false
set_option linter.unnecessarySimpa false

/-- the place at a time that may lie behind the word's end -/
def Wd.pos (w : Wd) (k : Nat) : Nat := if k < w.n then k else w.ahead.length + (k - w.ahead.length) % w.round.length
theorem Wd.pos_at {w : Wd} {k : Nat} (h : w.ahead.length ≤ k) : w.pos k = w.ahead.length + (k - w.ahead.length) % w.round.length := by
  unfold Wd.pos
  split
  · rename_i hk
    unfold Wd.n at hk
    rw [Nat.mod_eq_of_lt (by omega)]; omega
  · rfl
theorem Wd.pos_lt {w : Wd} (h0 : 0 < w.round.length) (k : Nat) : w.pos k < w.n := by
  unfold Wd.pos
  split
  · assumption
  · have := Nat.mod_lt (k - w.ahead.length) h0
    unfold Wd.n; omega
theorem Wd.pos_turn {w : Wd} {k : Nat} (h : w.ahead.length ≤ k) : w.pos (k + w.round.length) = w.pos k := by
  rw [Wd.pos_at (by omega), Wd.pos_at h, show k + w.round.length - w.ahead.length = (k - w.ahead.length) + w.round.length by omega, Nat.add_mod_right]
theorem Wd.pos_succ {w : Wd} (h0 : 0 < w.round.length) (k : Nat) : w.pos (k + 1) = w.next (w.pos k) := by
  by_cases h : k < w.n
  · have e : w.pos k = k := by simp [Wd.pos, h]
    rw [e]
    unfold Wd.next
    by_cases h1 : k + 1 = w.n
    · rw [if_pos h1, Wd.pos_at (by unfold Wd.n at h1; omega), show k + 1 - w.ahead.length = w.round.length by unfold Wd.n at h1; omega, Nat.mod_self]; rfl
    · rw [if_neg h1]; simp [Wd.pos, show k + 1 < w.n by omega]
  · have ha : w.ahead.length ≤ k := by unfold Wd.n at h; omega
    rw [Wd.pos_at (by omega), Wd.pos_at ha]
    have hr := Nat.mod_lt (k - w.ahead.length) h0
    have e : (k + 1 - w.ahead.length) % w.round.length = ((k - w.ahead.length) % w.round.length + 1) % w.round.length := by
      rw [show k + 1 - w.ahead.length = (k - w.ahead.length) + 1 by omega]; simp [Nat.add_mod]
    rw [e]
    unfold Wd.next Wd.n
    by_cases h1 : (k - w.ahead.length) % w.round.length + 1 = w.round.length
    · rw [h1, Nat.mod_self, if_pos (by omega)]; omega
    · rw [Nat.mod_eq_of_lt (by omega), if_neg (by omega)]; omega
theorem Wd.it_pos {w : Wd} (h0 : 0 < w.round.length) : ∀ (m k : Nat), w.it m (w.pos k) = w.pos (k + m)
  | 0, k => rfl
  | m + 1, k => by
    simp only [Wd.it]
    rw [← Wd.pos_succ h0, Wd.it_pos h0 m (k + 1)]
    congr 1; omega
theorem Wd.it_is {w : Wd} (h0 : 0 < w.round.length) {i : Nat} (hi : i < w.n) (m : Nat) : w.it m i = w.pos (i + m) := by
  have e : w.pos i = i := by simp [Wd.pos, hi]
  rw [← Wd.it_pos h0, e]
def Wd.stop (w : Wd) (i : Nat) : Nat := max i w.ahead.length + 2 * w.round.length
/-- each place that comes is come to within two rounds -/
theorem Wd.soon {w : Wd} (h0 : 0 < w.round.length) (i : Nat) : ∀ m : Nat, ∃ k, i ≤ k ∧ k < w.stop i ∧ w.pos k = w.pos (i + m) ∧ k ≤ i + m := by
  intro m
  induction m using Nat.strongRecOn with
  | ind m ih =>
    by_cases h : i + m < w.stop i
    · exact ⟨i + m, by omega, h, rfl, Nat.le_refl _⟩
    · unfold Wd.stop at h
      obtain ⟨k, h1, h2, h3, h4⟩ := ih (m - w.round.length) (by omega)
      refine ⟨k, h1, h2, ?_, by omega⟩
      rw [h3, ← Wd.pos_turn (by omega)]
      congr 1; omega
theorem Wd.until_soon {w : Wd} (h0 : 0 < w.round.length) (A Bq : Nat → Prop) (i : Nat) : ∀ m : Nat, A (w.pos (i + m)) → (∀ j, j < m → Bq (w.pos (i + j))) → ∃ k, i ≤ k ∧ k < w.stop i ∧ A (w.pos k) := by
  intro m h _
  obtain ⟨k, h1, h2, h3, _⟩ := Wd.soon h0 i m
  exact ⟨k, h1, h2, by rw [h3]; exact h⟩

/-! ### formulas made of steps -/
mutual
def Fm.sz : Fm → Nat
  | .nil => 0
  | .mk _ _ of => 1 + Fm.szL of
def Fm.szL : List Fm → Nat
  | [] => 0
  | f :: l => f.sz + Fm.szL l
end
theorem rightL_sz {r : Fm → Int × Int} (h : ∀ x, 0 ≤ (r x).1 ∧ (r x).1 ≤ x.sz) : ∀ (l : List Fm) (n : Int), 0 ≤ n → (rightL r l n).1 ≤ n + Fm.szL l
  | [], n, hn => by simp [rightL, Fm.szL]
  | x :: l, n, hn => by
    simp only [rightL, Fm.szL]
    obtain ⟨h1, h2⟩ := h x
    split
    · have := rightL_sz h l (n + (r x).1) (by omega)
      omega
    · simp only; omega
theorem right_sz : ∀ (d : Nat) (f : Fm), (rightF d f).1 ≤ f.sz
  | d, .nil => by cases d <;> simp [rightF, Fm.sz]
  | 0, .mk k s of => by simp [rightF, Fm.sz]; omega
  | d + 1, .mk k s of => by
    simp only [rightF, Fm.sz]
    split
    · simp; omega
    · split
      · simp; omega
      · have := rightL_sz (fun x => ⟨(rightF_bound d x).1, right_sz d x⟩) of 1 (by omega)
        omega
/-- a formula of right kinds, so deep at most, its names not beyond what a machine holds -/
def wf : Nat → Fm → Prop
  | _, .nil => False
  | 0, .mk _ _ _ => False
  | d + 1, .mk k s of => badKind k s of = false ∧ s.length < 140737488355328 ∧ ∀ x ∈ of, wf d x
def namedB : Nat → Fm → Bool
  | _, .nil => true
  | 0, .mk _ _ _ => true
  | d + 1, .mk k s of => !(decide (k = 1) && !nameOk s) && of.all (namedB d)
theorem wf_mono {f : Fm} {d e : Nat} (h : wf d f) (hde : d ≤ e) : wf e f := by
  induction d generalizing e f with
  | zero => cases f <;> simp [wf] at h
  | succ d ih =>
    cases f with
    | nil => simp [wf] at h
    | mk k s of =>
      obtain ⟨e, rfl⟩ : ∃ e', e = e' + 1 := ⟨e - 1, by omega⟩
      simp only [wf] at h ⊢
      exact ⟨h.1, h.2.1, fun x hx => ih (h.2.2 x hx) (by omega)⟩
theorem right_wf : ∀ (d : Nat) (f : Fm), wf d f → (rightF d f).2 = if namedB d f then 0 else 5
  | d, .nil, h => by cases d <;> simp [wf] at h
  | 0, .mk k s of, h => by simp [wf] at h
  | d + 1, .mk k s of, h => by
    simp only [wf] at h
    obtain ⟨h1, _, h3⟩ := h
    simp only [rightF, namedB, h1, Bool.false_eq_true, if_false]
    by_cases hk : (decide (k = 1) && !nameOk s) = true
    · simp [hk]
    · have hk : (decide (k = 1) && !nameOk s) = false := by simpa using hk
      simp only [hk, Bool.false_eq_true, if_false, Bool.not_false, Bool.true_and]
      have : ∀ (l : List Fm) (n : Int), (∀ x ∈ l, wf d x) → (rightL (rightF d) l n).2 = if l.all (namedB d) then 0 else 5 := by
        intro l
        induction l with
        | nil => intro n _; simp [rightL]
        | cons x l ih =>
          intro n hl
          have hx := right_wf d x (hl x (by simp))
          simp only [rightL, List.all_cons]
          by_cases hn : namedB d x = true
          · rw [if_pos hn] at hx
            rw [if_pos hx, ih _ fun y hy => hl y (by simp [hy])]
            simp [hn]
          · rw [if_neg hn] at hx
            rw [if_neg (by omega)]
            simp [hx, hn]
      exact this of 1 h3
end Go.Sc
