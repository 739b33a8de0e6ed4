/- CONTRACTS: which texts may be names: expr.Name, and the reference's NameCheck. EXPRESSIONS, AND HOW TEXTS ARE READ AS EXPRESSIONS: plain. CONTRACTS: bytes and runes in texts; how package expr's reader reads blanks, signs and names. (of the seat YtldomhanfhfonaaGreatDoor) -/
import Derived.Test.YtldomhanfhfonaaGreatDoorCore5
namespace Go.Sc
open Go
set_option linter.unusedSimpArgs false
set_option linter.unusedVariables false
def low (c : UInt8) : Bool := decide ((97 : Int) ≤ c.toNat) && decide ((c.toNat : Int) ≤ 122)
def dig (c : UInt8) : Bool := decide ((48 : Int) ≤ c.toNat) && decide ((c.toNat : Int) ≤ 57)
def nch (c : UInt8) : Bool := low c || dig c || decide ((c.toNat : Int) = 95)
def letters : Str := [97, 98, 99, 100, 101, 102, 103, 104, 105, 106, 107, 108, 109, 110, 111, 112, 113, 114, 115, 116, 117, 118, 119, 120, 121, 122, 48, 49, 50, 51, 52, 53, 54, 55, 56, 57, 95]
def words9 : List Str := [[105, 110, 112, 117, 116], [99, 111, 105, 108], [116, 105, 109, 101, 114], [99, 111, 117, 110, 116, 101, 114], [115, 101, 116], [114, 101, 115, 101, 116], [114, 117, 110], [99, 111, 117, 110, 116], [122, 101, 114, 111]]
/-- may a text be a name? -/
def nameOk : Str → Bool
  | [] => false
  | c :: r => low c && r.all nch && decide ((c :: r).length ≤ 8) && !decide ((c :: r) ∈ words9)

theorem mem_letters (c : UInt8) : decide (c ∈ letters) = nch c := by
  have : ∀ i : Fin 256, decide (UInt8.ofNat i.val ∈ letters) = nch (UInt8.ofNat i.val) := by decide +kernel
  have h := this ⟨c.toNat, c.toNat_lt⟩
  simpa using h
theorem dropWhile_nil {p : UInt8 → Bool} {s : Str} : s.dropWhile p = [] ↔ s.all p = true := by
  induction s with
  | nil => simp
  | cons c s ih =>
    simp only [List.dropWhile_cons, List.all_cons, Bool.and_eq_true]
    split
    · rename_i h; simp [h, ih]
    · rename_i h; simp [h]
theorem trim_nil {cut s : Str} : trim cut s = [] ↔ s.all (fun c => decide (c ∈ cut)) = true := by
  unfold trim trimL
  rw [dropWhile_nil]
  have : trimR (fun c => decide (c ∈ cut)) s = [] ∨ ∃ t c, trimR (fun c => decide (c ∈ cut)) s = t ++ [c] ∧ c ∉ cut ∧ c ∈ s := by
    unfold trimR
    cases h : s.reverse.dropWhile (fun c => decide (c ∈ cut)) with
    | nil => exact .inl rfl
    | cons c t =>
      refine .inr ⟨t.reverse, c, by simp, ?_, ?_⟩
      · have := List.head?_dropWhile_not (fun c => decide (c ∈ cut)) s.reverse
        rw [h] at this
        simpa using this
      · have := (List.dropWhile_sublist (fun c => decide (c ∈ cut)) (l := s.reverse)).subset (by rw [h]; exact List.mem_cons_self : c ∈ s.reverse.dropWhile _)
        simpa using this
  rcases this with h | ⟨t, c, h, hc, hs⟩
  · rw [h]
    simp only [List.all_nil, true_iff]
    have : s.reverse.dropWhile (fun c => decide (c ∈ cut)) = [] := by
      unfold trimR at h
      simpa using h
    rw [dropWhile_nil] at this
    simpa using this
  · rw [h]
    constructor
    · intro h2
      simp [hc] at h2
    · intro h2
      rw [List.all_eq_true] at h2
      have := h2 c hs
      simp [hc] at this

section
variable {E : Env} {P : Program}
structure NameBodies (E : Env) (P : Program) : Prop where
  t : TrimBodies E P
  name : Body1 E P 1 F.expr_Name
  contains : Body2 E P 5 F.slices_Contains_Lstring_string
  index : Body2 E P 13 F.slices_Index_Lstring_string
theorem Name_spec (B : NameBodies E P) (s : Str) : FX E P 1 [S s] (Bo (nameOk s)) := by
  refine FX.of' (by simp [AV.closed, AV.closedL]) trivial fun n R hR => B.name _ _ _ ?_
  unfold F.expr_Name
  cases s with
  | nil =>
    simp only [nd0, Y1n, Y1o, Y1p, Y1q, Y1w, Y1x, Y1y, Y1z, Y20, Y21, Y28, Y2a, AV.cells?, Nat.reduceAdd, Nat.reduceMul, show (AV.val (.string ⟨#[]⟩)) = S [] from rfl]
    exact hR _ _ rfl
  | cons c r =>
    simp only [nd0, Y1n, Y1o, Y1p, Y1q, Y1w, Y1x, Y1y, Y1z, Y20, Y21, Y28, Y2a, AV.cells?, Nat.reduceAdd, Nat.reduceMul, show (AV.val (.string ⟨#[]⟩)) = S [] from rfl, show ¬ (c :: r = []) by simp]
    by_cases h1 : r.length + 1 ≤ 8
    case neg =>
      have : ¬ (((r.length + 1 : Nat) : Int) ≤ 8) := by omega
      simp only [nd0, Y1n, Y1o, Y1p, Y1q, Y1w, Y1x, Y1y, Y1z, Y20, Y21, Y28, Y2a, AV.cells?, Nat.reduceAdd, Nat.reduceMul, this]
      exact hR _ _ (by simp [nameOk, h1])
    have h1' : (((r.length + 1 : Nat) : Int) ≤ 8) := by omega
    simp only [nd0, Y1n, Y1o, Y1p, Y1q, Y1w, Y1x, Y1y, Y1z, Y20, Y21, Y28, Y2a, AV.cells?, Nat.reduceAdd, Nat.reduceMul, h1']
    rw [idxS_zero]
    simp only [nd0, Y1n, Y1o, Y1p, Y1q, Y1w, Y1x, Y1y, Y1z, Y20, Y21, Y28, Y2a, AV.cells?, Nat.reduceAdd, Nat.reduceMul]
    by_cases h2 : (97 : Int) ≤ c.toNat
    case neg =>
      simp only [nd0, Y1n, Y1o, Y1p, Y1q, Y1w, Y1x, Y1y, Y1z, Y20, Y21, Y28, Y2a, AV.cells?, Nat.reduceAdd, Nat.reduceMul, h2]
      exact hR _ _ (by simp [nameOk, low, h2])
    simp only [nd0, Y1n, Y1o, Y1p, Y1q, Y1w, Y1x, Y1y, Y1z, Y20, Y21, Y28, Y2a, AV.cells?, Nat.reduceAdd, Nat.reduceMul, h2]
    rw [idxS_zero]
    simp only [nd0, Y1n, Y1o, Y1p, Y1q, Y1w, Y1x, Y1y, Y1z, Y20, Y21, Y28, Y2a, AV.cells?, Nat.reduceAdd, Nat.reduceMul]
    by_cases h3 : (c.toNat : Int) ≤ 122
    case neg =>
      simp only [nd0, Y1n, Y1o, Y1p, Y1q, Y1w, Y1x, Y1y, Y1z, Y20, Y21, Y28, Y2a, AV.cells?, Nat.reduceAdd, Nat.reduceMul, h3]
      exact hR _ _ (by simp [nameOk, low, h3])
    simp only [nd0, Y1n, Y1o, Y1p, Y1q, Y1w, Y1x, Y1y, Y1z, Y20, Y21, Y28, Y2a, AV.cells?, Nat.reduceAdd, Nat.reduceMul, h3]
    have hlow : low c = true := by simp [low]; omega
    refine wCall.fx (Trim_spec B.t (c :: r) letters (by unfold ascii; decide) (by simp; omega) (by decide)) fun n => ?_
    simp only [nd0, Y1n, Y1o, Y1p, Y1q, Y1w, Y1x, Y1y, Y1z, Y20, Y21, Y28, Y2a, AV.cells?, Nat.reduceAdd, Nat.reduceMul, show (AV.val (.string ⟨#[]⟩)) = S [] from rfl, trim_nil]
    by_cases h4 : (c :: r).all (fun c => decide (c ∈ letters)) = true
    case neg =>
      simp only [nd0, Y1n, Y1o, Y1p, Y1q, Y1w, Y1x, Y1y, Y1z, Y20, Y21, Y28, Y2a, AV.cells?, Nat.reduceAdd, Nat.reduceMul, h4]
      refine hR _ _ ?_
      simp only [mem_letters] at h4
      have : ¬ (r.all nch = true) := fun h => h4 (by rw [List.all_cons]; simp [nch, hlow]; simpa [nch] using h)
      simp [nameOk, this]
    simp only [nd0, Y1n, Y1o, Y1p, Y1q, Y1w, Y1x, Y1y, Y1z, Y20, Y21, Y28, Y2a, AV.cells?, Nat.reduceAdd, Nat.reduceMul, h4]
    have hr : r.all nch = true := by
      simp only [mem_letters] at h4
      rw [List.all_cons] at h4
      simp at h4
      simpa using h4.2
    refine wNewS.F' (l := words9.map fun s => S s) rfl rfl ?_
    refine wCall.fx (ContainsS_spec (IndexS_spec B.index) B.contains words9 (c :: r) (by decide)) fun n => ?_
    simp only [nd0, Y1n, Y1o, Y1p, Y1q, Y1w, Y1x, Y1y, Y1z, Y20, Y21, Y28, Y2a, AV.cells?, Nat.reduceAdd, Nat.reduceMul]
    exact hR _ _ (by simp [nameOk, hlow, hr, h1])

theorem NameCheck_spec (hB : Body1 E P 2 F.ref_NameCheck) (s : Str) (hs : s.length < 4611686018427387904) : FX E P 2 [S s] (Bo (nameOk s)) := by
  refine FX.of' (by simp [AV.closed, AV.closedL]) trivial fun n R hR => hB _ _ _ ?_
  unfold F.ref_NameCheck
  simp only [nd0, Y1n, Y1o, Y1p, Y1q, Y1w, Y1x, Y1y, Y1z, Y20, Y21, Y28, Y2a, AV.cells?, Nat.reduceAdd, Nat.reduceMul]
  refine wLoop.one (fun m t H => ∃ pre rest, s = pre ++ rest ∧ t = Z pre.length ∧ m = rest.length ∧ ∀ i c, pre[i]? = some c → if i = 0 then low c = true else nch c = true) s.length (gh1.mk ⟨[], s, rfl, rfl, rfl, by simp⟩) ?_
  rintro m t H ⟨pre, rest, rfl, rfl, rfl, hp⟩
  cases rest with
  | cons c rest =>
    have h1 : ((pre.length : Int) < ((pre ++ c :: rest).length : Int)) := by simp; omega
    have hg : (pre ++ c :: rest)[pre.length]'(by simp) = c := by simp
    have hbad : ¬ (if pre.length = 0 then low c = true else nch c = true) → nameOk (pre ++ c :: rest) = false := by
      intro h
      cases pre with
      | nil => simp at h; simp [nameOk, h]
      | cons d pre =>
        simp at h
        simp [nameOk, h]
    have hgo : (if pre.length = 0 then low c = true else nch c = true) → wGet (binA .add (Z pre.length) (.val (.int .i64 1))) H fun t39 H => back1 (fun m t H => ∃ pre' rest', pre ++ c :: rest = pre' ++ rest' ∧ t = Z pre'.length ∧ m = rest'.length ∧ ∀ i c, pre'[i]? = some c → if i = 0 then low c = true else nch c = true) (rest.length + 1) t39 H := by
      intro h
      rw [binA_succ (by simp at hs; omega)]
      simp only [nd0, Y1n, Y1o, Y1p, Y1q, Y1w, Y1x, Y1y, Y1z, Y20, Y21, Y28, Y2a, AV.cells?, Nat.reduceAdd, Nat.reduceMul]
      refine back1.mk rest.length (by simp) ⟨pre ++ [c], rest, by simp, by simp, rfl, fun i d hi => ?_⟩
      by_cases hil : i < pre.length
      · rw [List.getElem?_append_left hil] at hi
        exact hp i d hi
      · have hl := lt_of_get hi
        simp at hl
        have : i = pre.length := by omega
        subst this
        simp at hi
        subst hi
        exact h
    simp only [nd0, Y1n, Y1o, Y1p, Y1q, Y1w, Y1x, Y1y, Y1z, Y20, Y21, Y28, Y2a, AV.cells?, Nat.reduceAdd, Nat.reduceMul, h1]
    rw [idxS (by simp)]
    simp only [nd0, Y1n, Y1o, Y1p, Y1q, Y1w, Y1x, Y1y, Y1z, Y20, Y21, Y28, Y2a, AV.cells?, Nat.reduceAdd, Nat.reduceMul, hg]
    by_cases hlow : low c = true
    · have h2 : (97 : Int) ≤ c.toNat := by simp [low] at hlow; omega
      have h3 : (c.toNat : Int) ≤ 122 := by simp [low] at hlow; omega
      simp only [nd0, Y1n, Y1o, Y1p, Y1q, Y1w, Y1x, Y1y, Y1z, Y20, Y21, Y28, Y2a, AV.cells?, Nat.reduceAdd, Nat.reduceMul, h2, h3]
      exact hgo (by split <;> simp [nch, hlow])
    · have hlow' : (if (decide ((97 : Int) ≤ c.toNat)) = true then (decide ((c.toNat : Int) ≤ 122)) else false) = false := by
        simp only [low, Bool.and_eq_true, decide_eq_true_eq, not_and] at hlow
        split <;> simp_all
      have hp2 : ∀ K : Kt, (∀ b, K (Bo b) H) → True := fun _ _ => trivial
      have key : ∀ K : Kt, K (Bo false) H → (wGuard (Bo (decide ((97 : Int) ≤ c.toNat))) true H (fun k => k (By c) H) fun t17 H =>
          wGuard (Bo (decide ((97 : Int) ≤ c.toNat))) true H (fun k => wGet (binA .leq t17 (.val (.int .u8 122))) H k) fun t18 H =>
          wGet (pickA (Bo (decide ((97 : Int) ≤ c.toNat))) t18 (.val (.bool false))) H K) := by
        intro K hK
        by_cases h2 : (97 : Int) ≤ c.toNat
        · have h3 : ¬ (c.toNat : Int) ≤ 122 := fun h => hlow (by simp [low]; omega)
          simp only [nd0, Y1n, Y1o, Y1p, Y1q, Y1w, Y1x, Y1y, Y1z, Y20, Y21, Y28, Y2a, AV.cells?, Nat.reduceAdd, Nat.reduceMul, h2, h3]; exact hK
        · simp only [nd0, Y1n, Y1o, Y1p, Y1q, Y1w, Y1x, Y1y, Y1z, Y20, Y21, Y28, Y2a, AV.cells?, Nat.reduceAdd, Nat.reduceMul, h2]; exact hK
      refine key _ ?_
      simp only [nd0, Y1n, Y1o, Y1p, Y1q, Y1w, Y1x, Y1y, Y1z, Y20, Y21, Y28, Y2a, AV.cells?, Nat.reduceAdd, Nat.reduceMul]
      by_cases h0 : pre.length = 0
      · have h0' : ((pre.length : Int) = 0) := by omega
        simp only [nd0, Y1n, Y1o, Y1p, Y1q, Y1w, Y1x, Y1y, Y1z, Y20, Y21, Y28, Y2a, AV.cells?, Nat.reduceAdd, Nat.reduceMul, h0']
        exact hR _ _ (by rw [hbad (by simp [h0, hlow])])
      · have h0' : ¬ ((pre.length : Int) = 0) := by omega
        simp only [nd0, Y1n, Y1o, Y1p, Y1q, Y1w, Y1x, Y1y, Y1z, Y20, Y21, Y28, Y2a, AV.cells?, Nat.reduceAdd, Nat.reduceMul, h0']
        by_cases h5 : (48 : Int) ≤ c.toNat
        · by_cases h6 : (c.toNat : Int) ≤ 57
          · simp only [nd0, Y1n, Y1o, Y1p, Y1q, Y1w, Y1x, Y1y, Y1z, Y20, Y21, Y28, Y2a, AV.cells?, Nat.reduceAdd, Nat.reduceMul, h5, h6]
            exact hgo (by simp [h0, nch, dig]; omega)
          · by_cases h7 : (c.toNat : Int) = 95
            · simp only [nd0, Y1n, Y1o, Y1p, Y1q, Y1w, Y1x, Y1y, Y1z, Y20, Y21, Y28, Y2a, AV.cells?, Nat.reduceAdd, Nat.reduceMul, h5, h6, decide_eq_true h7]
              exact hgo (by simp [h0, nch, h7])
            · simp only [nd0, Y1n, Y1o, Y1p, Y1q, Y1w, Y1x, Y1y, Y1z, Y20, Y21, Y28, Y2a, AV.cells?, Nat.reduceAdd, Nat.reduceMul, h5, h6, h7]
              exact hR _ _ (by rw [hbad (by simp [h0, nch, dig, hlow]; omega)])
        · have h7 : ¬ (c.toNat : Int) = 95 := by omega
          simp only [nd0, Y1n, Y1o, Y1p, Y1q, Y1w, Y1x, Y1y, Y1z, Y20, Y21, Y28, Y2a, AV.cells?, Nat.reduceAdd, Nat.reduceMul, h5, h7]
          exact hR _ _ (by rw [hbad (by simp [h0, nch, dig, hlow]; omega)])
  | nil =>
    simp only [List.append_nil] at *
    simp only [nd0, Y1n, Y1o, Y1p, Y1q, Y1w, Y1x, Y1y, Y1z, Y20, Y21, Y28, Y2a, AV.cells?, Nat.reduceAdd, Nat.reduceMul, Int.lt_irrefl]
    refine wJoin.one (fun t H => t = Bo (decide (pre ∈ [] :: words9))) ?_ ?_
    · have key : ∀ (H : AH) b, b = decide (pre ∈ [] :: words9) → gh1 (fun t H => t = Bo (decide (pre ∈ [] :: words9))) (Bo b) H := fun H b e => gh1.mk (by rw [e])
      repeat' (refine wIf.dec (fun h => ?_) (fun h => ?_))
      all_goals exact key _ _ (by simp [words9, *])
    · rintro t H rfl
      have hall : ∀ c r, pre = c :: r → low c = true ∧ r.all nch = true := by
        rintro c r rfl
        refine ⟨by simpa using hp 0 c rfl, ?_⟩
        rw [List.all_eq_true]
        intro d hd
        obtain ⟨i, hi, rfl⟩ := List.getElem_of_mem hd
        have := hp (i + 1) r[i] (by simp [hi])
        simpa using this
      by_cases hw : pre ∈ [] :: words9
      · simp only [nd0, Y1n, Y1o, Y1p, Y1q, Y1w, Y1x, Y1y, Y1z, Y20, Y21, Y28, Y2a, AV.cells?, Nat.reduceAdd, Nat.reduceMul, hw]
        refine hR _ _ ?_
        cases pre with
        | nil => rfl
        | cons c r => simp at hw; simp [nameOk, hw]
      · simp only [nd0, Y1n, Y1o, Y1p, Y1q, Y1w, Y1x, Y1y, Y1z, Y20, Y21, Y28, Y2a, AV.cells?, Nat.reduceAdd, Nat.reduceMul, hw]
        refine hR _ _ ?_
        cases pre with
        | nil => simp at hw
        | cons c r =>
          obtain ⟨h1, h2⟩ := hall c r rfl
          simp at hw
          simp [nameOk, h1, h2, hw]
          omega
end
end Go.Sc
namespace Go.Sc
open Go
set_option linter.unusedSimpArgs false
set_option linter.unusedVariables false
inductive Ex where
  | k (b : Bool)
  | bit (s : Str)
  | rise (s : Str)
  | fall (s : Str)
  | not (x : Ex)
  | and (l : List Ex)
  | or (l : List Ex)
  deriving Inhabited
inductive Rs (α : Type) where
  | ok (x : α) (i : Nat)
  | no (e p : Nat)

/-! ### what is read -/
def skipTo (s : Str) (i : Nat) : Nat := i + ((s.drop i).takeWhile (· == 32)).length
theorem skipTo_le (s : Str) (i : Nat) : i ≤ skipTo s i := by unfold skipTo; omega
theorem skipTo_len {s : Str} {i : Nat} (h : i ≤ s.length) : skipTo s i ≤ s.length := by
  have h1 := List.IsPrefix.length_le (List.takeWhile_prefix (fun c : UInt8 => c == 32) (l := s.drop i))
  rw [List.length_drop] at h1
  unfold skipTo; omega
theorem skipTo_step {s : Str} {i : Nat} (h : s[i]? = some 32) : skipTo s i = skipTo s (i + 1) := by
  have hl := lt_of_get h
  rw [List.getElem?_eq_getElem hl] at h
  injection h with h
  unfold skipTo
  rw [List.drop_eq_getElem_cons hl, h, List.takeWhile_cons]
  simp; omega
theorem skipTo_stop {s : Str} {i : Nat} (h : s[i]? ≠ some 32) : skipTo s i = i := by
  unfold skipTo
  by_cases hl : i < s.length
  · rw [List.getElem?_eq_getElem hl] at h
    rw [List.drop_eq_getElem_cons hl, List.takeWhile_cons]
    have : ¬ s[i] = 32 := fun e => h (by rw [e])
    simp [this]
  · rw [List.drop_eq_nil_of_le (by omega)]; simp
theorem skipTo_at (s : Str) (i : Nat) : s[skipTo s i]? ≠ some 32 := by
  generalize hn : s.length - i = n
  induction n generalizing i with
  | zero =>
    have : skipTo s i = i := skipTo_stop (by rw [List.getElem?_eq_none (by omega)]; simp)
    rw [this, List.getElem?_eq_none (by omega)]; simp
  | succ n ih =>
    by_cases h : s[i]? = some 32
    · rw [skipTo_step h]; exact ih _ (by omega)
    · rw [skipTo_stop h]; exact h
theorem skipTo_idem (s : Str) (i : Nat) : skipTo s (skipTo s i) = skipTo s i := skipTo_stop (skipTo_at s i)

def stop9 : Str := [32, 38, 124, 33, 94, 126, 40, 41, 61]
def stop11 : Str := [32, 38, 124, 33, 94, 126, 40, 41, 48, 49, 61]
/-- does a word that begins at i go on at k? -/
def wc (s : Str) (i k : Nat) : Bool := match s[k]? with
  | none => false
  | some c => !decide (c ∈ stop9) && (decide (i < k) || (!decide (c = 48) && !decide (c = 49)))
theorem wc_lt {s : Str} {i k : Nat} (h : wc s i k = true) : k < s.length := by
  unfold wc at h
  split at h
  · cases h
  · rename_i h1; exact lt_of_get h1
def wEnd (s : Str) (i k : Nat) : Nat := if h : wc s i k = true then wEnd s i (k + 1) else k
termination_by s.length - k
decreasing_by have := wc_lt h; omega
theorem wEnd_step {s : Str} {i k : Nat} (h : wc s i k = true) : wEnd s i k = wEnd s i (k + 1) := by rw [wEnd, dif_pos h]
theorem wEnd_stop {s : Str} {i k : Nat} (h : wc s i k = false) : wEnd s i k = k := by rw [wEnd, dif_neg (by rw [h]; simp)]
theorem wEnd_ge (s : Str) (i k : Nat) : k ≤ wEnd s i k := by
  generalize hn : s.length - k = n
  induction n generalizing k with
  | zero =>
    have : wc s i k = false := by
      cases h : wc s i k
      · rfl
      · have := wc_lt h; omega
    rw [wEnd_stop this]; exact Nat.le_refl _
  | succ n ih =>
    cases h : wc s i k with
    | false => rw [wEnd_stop h]; exact Nat.le_refl _
    | true => rw [wEnd_step h]; have := ih (k + 1) (by omega); omega
theorem wEnd_len {s : Str} {i k : Nat} (hk : k ≤ s.length) : wEnd s i k ≤ s.length := by
  generalize hn : s.length - k = n
  induction n generalizing k with
  | zero =>
    have : wc s i k = false := by
      cases h : wc s i k
      · rfl
      · have := wc_lt h; omega
    rw [wEnd_stop this]; exact hk
  | succ n ih =>
    cases h : wc s i k with
    | false => rw [wEnd_stop h]; exact hk
    | true => rw [wEnd_step h]; exact ih (by have := wc_lt h; omega) (by omega)
def wordAt (s : Str) (i : Nat) : Str := (s.take (wEnd s i i)).drop i
/-- a name -/
def wordR (s : Str) (i : Nat) : Rs Str :=
  if wordAt s (skipTo s i) = [] then .no 3 (skipTo s i) else if nameOk (wordAt s (skipTo s i)) = false then .no 5 (skipTo s i) else .ok (wordAt s (skipTo s i)) (wEnd s (skipTo s i) (skipTo s i))

/-- parts with a sign between -/
def rowR (s : Str) (c : UInt8) (f : Nat → Rs Ex) : Nat → Nat → List Ex → Rs (List Ex)
  | 0, i, _ => .no 3 i
  | n + 1, i, l => match f i with
    | .no e p => .no e p
    | .ok x j => if s[skipTo s j]? = some c then rowR s c f n (skipTo s j + 1) (l ++ [x]) else .ok (l ++ [x]) (skipTo s j)
def foldR (mk : List Ex → Ex) : List Ex → Ex
  | [x] => x
  | l => mk l
def allR (s : Str) (c : UInt8) (mk : List Ex → Ex) (f : Nat → Rs Ex) (i : Nat) : Rs Ex := match rowR s c f (s.length + 1) i [] with
  | .ok l j => .ok (foldR mk l) j
  | .no e p => .no e p
def andR (s : Str) (f : Nat → Rs Ex) : Nat → Rs Ex := allR s 38 .and f
def orR (s : Str) (f : Nat → Rs Ex) : Nat → Rs Ex := allR s 124 .or (andR s f)
def Rs.map {α β : Type} (g : α → β) : Rs α → Rs β
  | .ok x j => .ok (g x) j
  | .no e p => .no e p
def closeR (s : Str) : Rs Ex → Rs Ex
  | .ok x j => if s[skipTo s j]? = some 41 then .ok x (skipTo s j + 1) else .no 3 (skipTo s j)
  | .no e p => .no e p
/-- a contact, or what stands in parentheses -/
def oneR (s : Str) : Nat → Nat → Rs Ex
  | 0, i => .no 4 (skipTo s i)
  | d + 1, i =>
    if s[skipTo s i]? = some 33 then (oneR s d (skipTo s i + 1)).map .not
    else if s[skipTo s i]? = some 40 then closeR s (orR s (oneR s d) (skipTo s i + 1))
    else if s[skipTo s i]? = some 48 then .ok (.k false) (skipTo s i + 1)
    else if s[skipTo s i]? = some 49 then .ok (.k true) (skipTo s i + 1)
    else if s[skipTo s i]? = some 94 then (wordR s (skipTo s i + 1)).map .rise
    else if s[skipTo s i]? = some 126 then (wordR s (skipTo s i + 1)).map .fall
    else (wordR s (skipTo s i)).map .bit
/-- a whole expression: its error without a place is `inl` -/
def parseR (s : Str) : Rs Ex := match orR s (oneR s 20) 0 with
  | .no e p => .no e p
  | .ok x j => if skipTo s j < s.length then .no 3 (skipTo s j) else .ok x (skipTo s j)

/-! ### how great it is -/
mutual
def Ex.wt : Ex → Nat
  | .k _ => 1
  | .bit s => s.length
  | .rise s => s.length + 1
  | .fall s => s.length + 1
  | .not x => x.wt + 1
  | .and l => Ex.wtL l + 3 * l.length + 2
  | .or l => Ex.wtL l + 3 * l.length + 2
def Ex.wtL : List Ex → Nat
  | [] => 0
  | x :: l => x.wt + Ex.wtL l
end
/- names may be, and there are two parts or more -/
mutual
def Ex.fine : Ex → Prop
  | .k _ => True
  | .bit s => nameOk s = true
  | .rise s => nameOk s = true
  | .fall s => nameOk s = true
  | .not x => x.fine
  | .and l => 2 ≤ l.length ∧ Ex.fineL l
  | .or l => 2 ≤ l.length ∧ Ex.fineL l
def Ex.fineL : List Ex → Prop
  | [] => True
  | x :: l => x.fine ∧ Ex.fineL l
end
/-- what a reader comes to: on, and not too great -/
def GoodR (s : Str) (f : Nat → Rs Ex) : Prop := ∀ i x j, i ≤ s.length → f i = .ok x j → i ≤ j ∧ j ≤ s.length ∧ x.wt ≤ 8 * (j - i) ∧ x.fine
theorem wordR_good {s w : Str} {i j : Nat} (hi : i ≤ s.length) (h : wordR s i = .ok w j) : i ≤ j ∧ j ≤ s.length ∧ w.length ≤ j - i ∧ nameOk w = true := by
  unfold wordR at h
  split at h
  · cases h
  split at h
  · cases h
  · rename_i h1 h2
    injection h with h3 h4
    subst h3 h4
    have a1 := skipTo_le s i
    have a2 := skipTo_len hi
    have a3 := wEnd_ge s (skipTo s i) (skipTo s i)
    have a4 := wEnd_len (i := skipTo s i) a2
    refine ⟨by omega, a4, ?_, by simpa using h2⟩
    simp only [wordAt, List.length_drop, List.length_take]
    omega
theorem rowR_good {s : Str} {c : UInt8} {f : Nat → Rs Ex} (hf : GoodR s f) : ∀ (n i : Nat) (l : List Ex) {l' : List Ex} {j : Nat}, i ≤ s.length → rowR s c f n i l = .ok l' j →
    ∃ l1, l' = l ++ l1 ∧ l1 ≠ [] ∧ i ≤ j ∧ j ≤ s.length ∧ Ex.wtL l1 + 8 * (l1.length - 1) ≤ 8 * (j - i) ∧ Ex.fineL l1
  | 0, i, l, l', j, hi, h => by simp [rowR] at h
  | n + 1, i, l, l', j, hi, h => by
    unfold rowR at h
    split at h
    · cases h
    · rename_i x k hx
      obtain ⟨a1, a2, a3, a4⟩ := hf i x k hi hx
      have b1 := skipTo_le s k
      have b2 := skipTo_len a2
      split at h
      · rename_i hc
        have hlt := lt_of_get hc
        obtain ⟨l1, rfl, c1, c2, c3, c4, c5⟩ := rowR_good hf n (skipTo s k + 1) (l ++ [x]) (by omega) h
        refine ⟨x :: l1, by simp, by simp, by omega, c3, ?_, by simp only [Ex.fineL]; exact ⟨a4, c5⟩⟩
        have : 0 < l1.length := List.length_pos_iff.2 c1
        simp only [Ex.wtL, List.length_cons]
        omega
      · injection h with h1 h2
        subst h1 h2
        exact ⟨[x], rfl, by simp, by omega, b2, by simp [Ex.wtL]; omega, by simp [Ex.fineL, a4]⟩
theorem allR_good {s : Str} {c : UInt8} {mk : List Ex → Ex} {f : Nat → Rs Ex} (hm : ∀ l, (mk l).wt = Ex.wtL l + 3 * l.length + 2) (hm2 : ∀ l, 2 ≤ l.length → Ex.fineL l → (mk l).fine) (hf : GoodR s f) : GoodR s (allR s c mk f) := by
  intro i x j hi h
  unfold allR at h
  split at h
  · rename_i l k hl
    injection h with h1 h2
    subst h1 h2
    obtain ⟨l1, rfl, c1, c2, c3, c4, c5⟩ := rowR_good hf _ _ _ hi hl
    refine ⟨c2, c3, ?_⟩
    cases l with
    | nil => exact absurd rfl c1
    | cons y l2 =>
      cases l2 with
      | nil => exact ⟨by simpa [foldR, Ex.wtL] using c4, by simpa [foldR, Ex.fineL] using c5⟩
      | cons z l3 =>
        refine ⟨?_, hm2 _ (by simp) c5⟩
        show (mk (y :: z :: l3)).wt ≤ _
        rw [hm]
        simp only [List.length_cons] at c4 ⊢
        omega
  · cases h
theorem andR_good {s : Str} {f : Nat → Rs Ex} (hf : GoodR s f) : GoodR s (andR s f) := allR_good (fun _ => rfl) (fun _ h1 h2 => ⟨h1, h2⟩) hf
theorem orR_good {s : Str} {f : Nat → Rs Ex} (hf : GoodR s f) : GoodR s (orR s f) := allR_good (fun _ => rfl) (fun _ h1 h2 => ⟨h1, h2⟩) (andR_good hf)
theorem map_ok {α β : Type} {g : α → β} {r : Rs α} {y : β} {j : Nat} (h : r.map g = .ok y j) : ∃ x, r = .ok x j ∧ y = g x := by
  cases r with
  | ok x k => injection h with h1 h2; subst h1 h2; exact ⟨x, rfl, rfl⟩
  | no e p => cases h
theorem oneR_good (s : Str) : ∀ d, GoodR s (oneR s d)
  | 0, i, x, j, hi, h => by simp [oneR] at h
  | d + 1, i, x, j, hi, h => by
    have ih := oneR_good s d
    have b1 := skipTo_le s i
    have b2 := skipTo_len hi
    unfold oneR at h
    split at h
    · rename_i hc
      have hlt := lt_of_get hc
      obtain ⟨y, hy, rfl⟩ := map_ok h
      obtain ⟨a1, a2, a3, a4⟩ := ih _ _ _ (by omega) hy
      exact ⟨by omega, a2, by simp only [Ex.wt]; omega, a4⟩
    split at h
    · rename_i hc
      have hlt := lt_of_get hc
      cases ho : orR s (oneR s d) (skipTo s i + 1) with
      | no e p => rw [ho] at h; cases h
      | ok y k =>
        rw [ho] at h
        obtain ⟨a1, a2, a3, a4⟩ := orR_good ih _ _ _ (by omega) ho
        simp only [closeR] at h
        split at h
        · rename_i hc2
          have hlt2 := lt_of_get hc2
          have := skipTo_le s k
          injection h with h1 h2
          subst h1 h2
          exact ⟨by omega, by omega, by omega, a4⟩
        · cases h
    split at h
    · rename_i hc
      have hlt := lt_of_get hc
      injection h with h1 h2
      subst h1 h2
      exact ⟨by omega, by omega, by simp only [Ex.wt]; omega, trivial⟩
    split at h
    · rename_i hc
      have hlt := lt_of_get hc
      injection h with h1 h2
      subst h1 h2
      exact ⟨by omega, by omega, by simp only [Ex.wt]; omega, trivial⟩
    split at h
    · rename_i hc
      have hlt := lt_of_get hc
      obtain ⟨y, hy, rfl⟩ := map_ok h
      obtain ⟨a1, a2, a3, a4⟩ := wordR_good (by omega) hy
      exact ⟨by omega, a2, by simp only [Ex.wt]; omega, a4⟩
    split at h
    · rename_i hc
      have hlt := lt_of_get hc
      obtain ⟨y, hy, rfl⟩ := map_ok h
      obtain ⟨a1, a2, a3, a4⟩ := wordR_good (by omega) hy
      exact ⟨by omega, a2, by simp only [Ex.wt]; omega, a4⟩
    · obtain ⟨y, hy, rfl⟩ := map_ok h
      obtain ⟨a1, a2, a3, a4⟩ := wordR_good b2 hy
      exact ⟨by omega, a2, by simp only [Ex.wt]; omega, a4⟩
theorem parseR_good {s : Str} {x : Ex} {j : Nat} (h : parseR s = .ok x j) : x.wt ≤ 8 * s.length ∧ x.fine := by
  unfold parseR at h
  split at h
  · cases h
  · rename_i y k hy
    obtain ⟨a1, a2, a3, a4⟩ := orR_good (oneR_good s 20) 0 y k (by omega) hy
    split at h
    · cases h
    · injection h with h1 _
      subst h1
      exact ⟨by omega, a4⟩
/-- errors are none that is nought -/
def ErrR (f : Nat → Rs Ex) : Prop := ∀ i e p, f i = .no e p → e ≠ 0
theorem wordR_err {s : Str} {i e p : Nat} (h : wordR s i = .no e p) : e ≠ 0 := by
  unfold wordR at h
  split at h
  · injection h with h1; omega
  split at h
  · injection h with h1; omega
  · cases h
theorem rowR_err {s : Str} {c : UInt8} {f : Nat → Rs Ex} (hf : ErrR f) : ∀ (n i : Nat) (l : List Ex) {e p : Nat}, rowR s c f n i l = .no e p → e ≠ 0
  | 0, i, l, e, p, h => by simp only [rowR] at h; injection h with h1; omega
  | n + 1, i, l, e, p, h => by
    unfold rowR at h
    split at h
    · rename_i e' p' hx
      injection h with h1 h2
      subst h1
      exact hf _ _ _ hx
    · split at h
      · exact rowR_err hf n _ _ h
      · cases h
theorem allR_err {s : Str} {c : UInt8} {mk : List Ex → Ex} {f : Nat → Rs Ex} (hf : ErrR f) : ErrR (allR s c mk f) := by
  intro i e p h
  unfold allR at h
  split at h
  · cases h
  · rename_i e' p' hx
    injection h with h1 h2
    subst h1
    exact rowR_err hf _ _ _ hx
theorem map_no {α β : Type} {g : α → β} {r : Rs α} {e p : Nat} (h : r.map g = .no e p) : r = .no e p := by
  cases r with
  | ok x k => cases h
  | no e' p' => injection h with h1 h2; rw [h1, h2]
theorem oneR_err (s : Str) : ∀ d, ErrR (oneR s d)
  | 0, i, e, p, h => by simp only [oneR] at h; injection h with h1; omega
  | d + 1, i, e, p, h => by
    have ih := oneR_err s d
    unfold oneR at h
    split at h
    · exact ih _ _ _ (map_no h)
    split at h
    · cases ho : orR s (oneR s d) (skipTo s i + 1) with
      | no e' p' =>
        rw [ho] at h
        simp only [closeR] at h
        injection h with h1 h2
        subst h1
        exact allR_err (allR_err ih) _ _ _ ho
      | ok y k =>
        rw [ho] at h
        simp only [closeR] at h
        split at h
        · cases h
        · injection h with h1; omega
    split at h
    · cases h
    split at h
    · cases h
    split at h
    · exact wordR_err (map_no h)
    split at h
    · exact wordR_err (map_no h)
    · exact wordR_err (map_no h)
theorem parseR_err {s : Str} {e p : Nat} (h : parseR s = .no e p) : e ≠ 0 := by
  unfold parseR at h
  split at h
  · rename_i e' p' hx
    injection h with h1 h2
    subst h1
    exact allR_err (allR_err (oneR_err s 20)) _ _ _ hx
  · split at h
    · injection h with h1; omega
    · cases h
/-! ### how it is written -/
def joinS (sep : Str) : List Str → Str
  | [] => []
  | [x] => x
  | x :: y :: l => x ++ sep ++ joinS sep (y :: l)
def around (b : Bool) (t : Str) : Str := if b then 40 :: t ++ [41] else t
mutual
def Ex.wr : Nat → Ex → Str
  | _, .k b => if b then [49] else [48]
  | _, .bit s => s
  | _, .rise s => 94 :: s
  | _, .fall s => 126 :: s
  | _, .not x => 33 :: Ex.wr 2 x
  | st, .and l => around (decide (2 ≤ st)) (joinS [32, 38, 32] (Ex.wrL 2 l))
  | st, .or l => around (decide (1 ≤ st)) (joinS [32, 124, 32] (Ex.wrL 1 l))
def Ex.wrL : Nat → List Ex → List Str
  | _, [] => []
  | st, x :: l => Ex.wr st x :: Ex.wrL st l
end
/-! ### as values -/
mutual
/-- the program's -/
def Ex.enc : Ex → AV
  | .k b => .ifc 11 (Bo b)
  | .bit s => .ifc 14 (S s)
  | .rise s => .ifc 12 (S s)
  | .fall s => .ifc 13 (S s)
  | .not x => .ifc 10 (.agg [x.enc])
  | .and l => .ifc 9 (.slN (Ex.encL l) l.length)
  | .or l => .ifc 8 (.slN (Ex.encL l) l.length)
def Ex.encL : List Ex → List AV
  | [] => []
  | x :: l => x.enc :: Ex.encL l
end
mutual
/-- the document's -/
def Ex.ref : Ex → AV
  | .k b => .ptrF [S (if b then [49] else [48]), S [], nilS] 0
  | .bit s => .ptrF [S [98, 105, 116], S s, nilS] 0
  | .rise s => .ptrF [S [94], S s, nilS] 0
  | .fall s => .ptrF [S [126], S s, nilS] 0
  | .not x => .ptrF [S [33], S [], .slN [x.ref] 1] 0
  | .and l => .ptrF [S [38], S [], .slN (Ex.refL l) l.length] 0
  | .or l => .ptrF [S [124], S [], .slN (Ex.refL l) l.length] 0
def Ex.refL : List Ex → List AV
  | [] => []
  | x :: l => x.ref :: Ex.refL l
end
theorem Ex.encL_map : ∀ l : List Ex, Ex.encL l = l.map Ex.enc
  | [] => rfl
  | x :: l => by simp [Ex.encL, Ex.encL_map l]
theorem Ex.refL_map : ∀ l : List Ex, Ex.refL l = l.map Ex.ref
  | [] => rfl
  | x :: l => by simp [Ex.refL, Ex.refL_map l]
mutual
theorem Ex.enc_closed : ∀ x : Ex, x.enc.closed
  | .k _ => trivial
  | .bit _ => trivial
  | .rise _ => trivial
  | .fall _ => trivial
  | .not x => by simp only [Ex.enc, AV.closed, AV.closedL]; exact ⟨Ex.enc_closed x, trivial⟩
  | .and l => Ex.encL_closed l
  | .or l => Ex.encL_closed l
theorem Ex.encL_closed : ∀ l : List Ex, AV.closedL (Ex.encL l)
  | [] => trivial
  | x :: l => ⟨Ex.enc_closed x, Ex.encL_closed l⟩
end
mutual
theorem Ex.ref_closed : ∀ x : Ex, x.ref.closed
  | .k _ => ⟨trivial, trivial, trivial, trivial⟩
  | .bit _ => ⟨trivial, trivial, trivial, trivial⟩
  | .rise _ => ⟨trivial, trivial, trivial, trivial⟩
  | .fall _ => ⟨trivial, trivial, trivial, trivial⟩
  | .not x => by simp only [Ex.ref, AV.closed, AV.closedL]; exact ⟨trivial, trivial, ⟨Ex.ref_closed x, trivial⟩, trivial⟩
  | .and l => ⟨trivial, trivial, Ex.refL_closed l, trivial⟩
  | .or l => ⟨trivial, trivial, Ex.refL_closed l, trivial⟩
theorem Ex.refL_closed : ∀ l : List Ex, AV.closedL (Ex.refL l)
  | [] => trivial
  | x :: l => ⟨Ex.ref_closed x, Ex.refL_closed l⟩
end
theorem Ex.enc_scalar (x : Ex) : x.enc.scalar = true := by cases x <;> rfl
theorem Ex.ref_scalar (x : Ex) : x.ref.scalar = true := by cases x <;> rfl
end Go.Sc
namespace Go.Sc.F
open Go Go.Sc
set_option linter.unusedVariables false
/-- signalbox/signalboxref.ExprParse -/
def ref_ExprParse (E : Env) (P : Program) (a0 : AV) (H : AH) (R : Kt) : Prop :=
  wNew 2 (some [(.val (.int .i64 0)), (.val (.int .i64 0))]) H fun t3 H =>
  wGet (lenS a0) H fun t7 H =>
  wGet (binA .gtr t7 (.val (.int .i64 2000))) H fun t8 H =>
  wIf t8 (
    wCall E P 87 [(.val (.int .i64 4))] H fun t9 H =>
    wPut (storeN 2 t3 t9 H) fun _u H =>
    wGet (retPack [some (.val (.pointer none)), loadN 2 t3 H]) H R) (
    wGet (loadN 2 (gptr E 5) H) H fun t11 H =>
    wAgg (fillA [(.val (.string ⟨#[]⟩)), (.val (.int .i64 0)), (.val (.int .i64 0)), (.val (.int .i64 0))] [(0, 1, a0), (2, 2, t11)]) H fun t12 H =>
    wNew 4 (AV.cells? t12) H fun t13 H =>
    wCall E P 130 [t13, (.val (.int .i64 0))] H fun t15 H =>
    wJoin 0 (fun J1 =>
      wGet (nilA t13) H fun t17 H =>
      wGet (faddr 2 t17) H fun t18 H =>
      wGet (faddr 0 t18) H fun t19 H =>
      wGet (load1 t19 H) H fun t20 H =>
      wGet (binA .eql t20 (.val (.int .i64 0))) H fun t21 H =>
      wGuard t21 true H (fun k => k t13 H) fun t23 H =>
      wGuard t21 true H (fun k => wCall E P 131 [t23] H k) fun t24 H =>
      wGuard t21 true H (fun k => wGet (binA .neq t24 (.val (.int .u8 0))) H k) fun t25 H =>
      wGet (pickA t21 t25 (.val (.bool false))) H fun t26 H =>
      wGuard t26 false H (fun k => k t13 H) fun t28 H =>
      wGuard t26 false H (fun k => wGet (nilA t28) H k) fun t29 H =>
      wGuard t26 false H (fun k => wGet (faddr 2 t29) H k) fun t30 H =>
      wGuard t26 false H (fun k => wGet (faddr 0 t30) H k) fun t31 H =>
      wGuard t26 false H (fun k => wGet (load1 t31 H) H k) fun t32 H =>
      wGuard t26 false H (fun k => wGet (binA .eql t32 (.val (.int .i64 0))) H k) fun t33 H =>
      wGuard t26 false H (fun k => k t33 H) fun t34 H =>
      wGuard t34 true H (fun k => k t13 H) fun t35 H =>
      wGuard t34 true H (fun k => wGet (nilA t35) H k) fun t36 H =>
      wGuard t34 true H (fun k => wGet (faddr 1 t36) H k) fun t37 H =>
      wGuard t34 true H (fun k => wGet (load1 t37 H) H k) fun t38 H =>
      wGuard t34 true H (fun k => k a0 H) fun t39 H =>
      wGuard t34 true H (fun k => wGet (lenS t39) H k) fun t40 H =>
      wGuard t34 true H (fun k => wGet (binA .lss t38 t40) H k) fun t41 H =>
      wGuard t26 false H (fun k => wGet (pickA t34 t41 (.val (.bool false))) H k) fun t42 H =>
      wGet (pickA t26 (.val (.bool true)) t42) H fun t43 H =>
      wIf t43 (
        wCall E P 132 [t13, (.val (.int .i64 3))] H fun t45 H =>
        J1 H) (
        J1 H)) fun H =>
      wGet (nilA t13) H fun t47 H =>
      wGet (faddr 2 t47) H fun t48 H =>
      wGet (faddr 0 t48) H fun t49 H =>
      wGet (load1 t49 H) H fun t50 H =>
      wGet (binA .neq t50 (.val (.int .i64 0))) H fun t51 H =>
      wIf t51 (
        wGet (nilA t13) H fun t53 H =>
        wGet (faddr 2 t53) H fun t54 H =>
        wGet (loadN 2 t54 H) H fun t55 H =>
        (wGet (loadN 2 t54 H) H (fun y H2 => y = t55 ∧ H2 = H)) ∧
        wPut (storeN 2 t3 t55 H) fun _u H =>
        wGet (retPack [some (.val (.pointer none)), loadN 2 t3 H]) H R) (
        wGet (loadN 2 (gptr E 5) H) H fun t57 H =>
        (wGet (loadN 2 (gptr E 5) H) H (fun y H2 => y = t57 ∧ H2 = H)) ∧
        wPut (storeN 2 t3 t57 H) fun _u H =>
        wGet (retPack [some t15, loadN 2 t3 H]) H R))

/-- signalbox/expr.Parse -/
def expr_Parse (E : Env) (P : Program) (a0 : AV) (H : AH) (R : Kt) : Prop :=
  wGet (lenS a0) H fun t8 H =>
  wGet (binA .gtr t8 (.val (.int .i64 2000))) H fun t9 H =>
  wIf t9 (
    R (.tup [(.val (.nilIface)), (.ifc 1 (.val (.int .i64 4)))]) H) (
    wAgg (fillA [(.val (.string ⟨#[]⟩)), (.val (.int .i64 0))] [(0, 1, a0)]) H fun t12 H =>
    wNew 2 (AV.cells? t12) H fun t13 H =>
    wCall E P 133 [t13, (.val (.int .i64 20))] H fun t16 H =>
    wGet (extractA t16 0) H fun t17 H =>
    wGet (extractA t16 1) H fun t18 H =>
    wBool (eqA .iface t18 (.val (.nilIface))) H true fun t20 H =>
    wIf t20 (
      R (.tup [(.val (.nilIface)), t18]) H) (
      wCall E P 134 [t13] H fun t23 H =>
      wGet (nilA t13) H fun t25 H =>
      wGet (faddr 1 t25) H fun t26 H =>
      wGet (load1 t26 H) H fun t27 H =>
      wGet (lenS a0) H fun t29 H =>
      wGet (binA .lss t27 t29) H fun t30 H =>
      wIf t30 (
        wCall E P 135 [t13, (.val (.int .i64 3))] H fun t32 H =>
        R (.tup [(.val (.nilIface)), t32]) H) (
        R (.tup [t17, (.val (.nilIface))]) H)))

/-- (*signalbox/signalboxref.parser).whole -/
def pref_parser_whole (E : Env) (P : Program) (a0 a1 : AV) (H : AH) (R : Kt) : Prop :=
  wNew 1 (AV.cells? a0) H fun t2 H =>
  wGet (load1 t2 H) H fun t5 H =>
  wCall E P 137 [t5, (.val (.int .u8 124)), a1, (.fn 136 [] [t2])] H fun t8 H =>
  R t8 H

/-- (*signalbox/signalboxref.parser).next -/
def pref_parser_next (E : Env) (P : Program) (a0 : AV) (H : AH) (R : Kt) : Prop :=
  wCall E P 138 [a0] H fun t4 H =>
  wGet (nilA a0) H fun t6 H =>
  wGet (faddr 1 t6) H fun t7 H =>
  wGet (load1 t7 H) H fun t8 H =>
  wGet (nilA a0) H fun t10 H =>
  wGet (faddr 0 t10) H fun t11 H =>
  wGet (load1 t11 H) H fun t12 H =>
  wGet (lenS t12) H fun t13 H =>
  wGet (binA .lss t8 t13) H fun t14 H =>
  wIf t14 (
    wGet (nilA a0) H fun t16 H =>
    wGet (faddr 0 t16) H fun t17 H =>
    wGet (load1 t17 H) H fun t18 H =>
    wGet (nilA a0) H fun t20 H =>
    wGet (faddr 1 t20) H fun t21 H =>
    wGet (load1 t21 H) H fun t22 H =>
    wGet (idxStr t18 t22) H fun t23 H =>
    R t23 H) (
    R (.val (.int .u8 0)) H)

/-- (*signalbox/signalboxref.parser).fail -/
def pref_parser_fail (E : Env) (P : Program) (a0 a1 : AV) (H : AH) (R : Kt) : Prop :=
  wCall E P 138 [a0] H fun t6 H =>
  wJoin 0 (fun J1 =>
    wGet (nilA a0) H fun t8 H =>
    wGet (faddr 2 t8) H fun t9 H =>
    wGet (faddr 0 t9) H fun t10 H =>
    wGet (load1 t10 H) H fun t11 H =>
    wGet (binA .eql t11 (.val (.int .i64 0))) H fun t12 H =>
    wIf t12 (
      wGet (nilA a0) H fun t16 H =>
      wGet (faddr 1 t16) H fun t17 H =>
      wGet (load1 t17 H) H fun t18 H =>
      wAgg (fillA [(.val (.int .i64 0)), (.val (.int .i64 0))] [(0, 1, a1), (1, 1, t18)]) H fun t19 H =>
      wGet (nilA a0) H fun t20 H =>
      wGet (faddr 2 t20) H fun t21 H =>
      wPut (storeN 2 t21 t19 H) fun _u H =>
      J1 H) (
      J1 H)) fun H =>
    R (.val (.pointer none)) H

/-- (*signalbox/expr.reader).or -/
def pexpr_reader_or (E : Env) (P : Program) (a0 a1 : AV) (H : AH) (R : Kt) : Prop :=
  wCall E P 140 [a0, (.val (.int .u8 124)), a1, (.fn 139 [a0] [])] H fun t13 H =>
  wGet (extractA t13 0) H fun t14 H =>
  wGet (extractA t13 1) H fun t15 H =>
  wBool (eqA .iface t15 (.val (.nilIface))) H true fun t17 H =>
  wIf t17 (
    R (.tup [(.val (.nilIface)), t15]) H) (
    wGet (lenA t14) H fun t20 H =>
    wGet (binA .eql t20 (.val (.int .i64 1))) H fun t21 H =>
    wIf t21 (
      wGet (iaddr 1 t14 (.val (.int .i64 0))) H fun t23 H =>
      wGet (load1 t23 H) H fun t24 H =>
      R (.tup [t24, (.val (.nilIface))]) H) (
      R (.tup [(.ifc 8 t14), (.val (.nilIface))]) H))

/-- (*signalbox/expr.reader).blanks -/
def pexpr_reader_blanks (E : Env) (P : Program) (a0 : AV) (H : AH) (R : Kt) : Prop :=
  wLoop 0 (fun I1 => I1 H) fun I1 H =>
    wGet (nilA a0) H fun t3 H =>
    wGet (faddr 1 t3) H fun t4 H =>
    wGet (load1 t4 H) H fun t5 H =>
    wGet (nilA a0) H fun t7 H =>
    wGet (faddr 0 t7) H fun t8 H =>
    wGet (load1 t8 H) H fun t9 H =>
    wGet (lenS t9) H fun t10 H =>
    wGet (binA .lss t5 t10) H fun t11 H =>
    wGuard t11 true H (fun k => k a0 H) fun t13 H =>
    wGuard t11 true H (fun k => wGet (nilA t13) H k) fun t14 H =>
    wGuard t11 true H (fun k => wGet (faddr 0 t14) H k) fun t15 H =>
    wGuard t11 true H (fun k => wGet (load1 t15 H) H k) fun t16 H =>
    wGuard t11 true H (fun k => k a0 H) fun t17 H =>
    wGuard t11 true H (fun k => wGet (nilA t17) H k) fun t18 H =>
    wGuard t11 true H (fun k => wGet (faddr 1 t18) H k) fun t19 H =>
    wGuard t11 true H (fun k => wGet (load1 t19 H) H k) fun t20 H =>
    wGuard t11 true H (fun k => wGet (idxStr t16 t20) H k) fun t21 H =>
    wGuard t11 true H (fun k => wGet (binA .eql t21 (.val (.int .u8 32))) H k) fun t22 H =>
    wGet (pickA t11 t22 (.val (.bool false))) H fun t23 H =>
    wIf t23 (
      wGet (nilA a0) H fun t25 H =>
      wGet (faddr 1 t25) H fun t26 H =>
      wGet (load1 t26 H) H fun t27 H =>
      wGet (binA .add t27 (.val (.int .i64 1))) H fun t28 H =>
      wGet (nilA a0) H fun t29 H =>
      wGet (faddr 1 t29) H fun t30 H =>
      wPut (store1 t30 t28 H) fun _u H =>
      I1 H) (
      R (.tup []) H)

/-- (*signalbox/expr.reader).fail -/
def pexpr_reader_fail (E : Env) (P : Program) (a0 a1 : AV) (H : AH) (R : Kt) : Prop :=
  wCall E P 134 [a0] H fun t6 H =>
  wGet (nilA a0) H fun t9 H =>
  wGet (faddr 1 t9) H fun t10 H =>
  wGet (load1 t10 H) H fun t11 H =>
  wAgg (fillA [(.val (.int .i64 0)), (.val (.int .i64 0))] [(0, 1, a1), (1, 1, t11)]) H fun t12 H =>
  wNew 2 (AV.cells? t12) H fun t13 H =>
  R (.ifc 2 t13) H

/-- (*signalbox/signalboxref.parser).row -/
def pref_parser_row (E : Env) (P : Program) (a0 a1 a2 a3 : AV) (H : AH) (R : Kt) : Prop :=
  wCallV E P a3 [a2] H fun t12 H =>
  wNewS 1 1 (fillA (List.replicate 1 [(.val (.pointer none))]).flatten [(0, 1, t12)]) H fun t13 H =>
  wLoop 1 (fun I1 => I1 t13 H) fun I1 t9 H =>
    wGet (nilA a0) H fun t15 H =>
    wGet (faddr 2 t15) H fun t16 H =>
    wGet (faddr 0 t16) H fun t17 H =>
    wGet (load1 t17 H) H fun t18 H =>
    wGet (binA .eql t18 (.val (.int .i64 0))) H fun t19 H =>
    wGuard t19 true H (fun k => k a0 H) fun t21 H =>
    wGuard t19 true H (fun k => wCall E P 131 [t21] H k) fun t22 H =>
    wGuard t19 true H (fun k => k a1 H) fun t23 H =>
    wGuard t19 true H (fun k => wGet (binA .eql t22 t23) H k) fun t24 H =>
    wGet (pickA t19 t24 (.val (.bool false))) H fun t25 H =>
    wIf t25 (
      wGet (nilA a0) H fun t27 H =>
      wGet (faddr 1 t27) H fun t28 H =>
      wGet (load1 t28 H) H fun t29 H =>
      wGet (binA .add t29 (.val (.int .i64 1))) H fun t30 H =>
      wGet (nilA a0) H fun t31 H =>
      wGet (faddr 1 t31) H fun t32 H =>
      wPut (store1 t32 t30 H) fun _u H =>
      wCallV E P a3 [a2] H fun t36 H =>
      wNewS 1 1 (fillA (List.replicate 1 [(.val (.pointer none))]).flatten [(0, 1, t36)]) H fun t37 H =>
      wApp 1 8 t9 t37 H fun t38 H =>
      I1 t38 H) (
      wGet (lenA t9) H fun t40 H =>
      wGet (binA .eql t40 (.val (.int .i64 1))) H fun t41 H =>
      wIf t41 (
        wGet (iaddr 1 t9 (.val (.int .i64 0))) H fun t43 H =>
        wGet (load1 t43 H) H fun t44 H =>
        R t44 H) (
        wGet (convA .string a1) H fun t46 H =>
        wAgg (fillA [(.val (.string ⟨#[]⟩)), (.val (.string ⟨#[]⟩)), (.val (.slice none 0 0))] [(0, 1, t46), (2, 1, t9)]) H fun t48 H =>
        wNew 3 (AV.cells? t48) H fun t49 H =>
        R t49 H))

/-- (*signalbox/signalboxref.parser).whole$1 -/
def pref_parser_whole_c1 (E : Env) (P : Program) (a0 a1 : AV) (H : AH) (R : Kt) : Prop :=
  wGet (load1 a1 H) H fun t4 H =>
  wGet (load1 a1 H) H fun t6 H =>
  wCall E P 137 [t4, (.val (.int .u8 38)), a0, (.fn 141 [t6] [])] H fun t8 H =>
  R t8 H

/-- (*signalbox/signalboxref.parser).piece -/
def pref_parser_piece (E : Env) (P : Program) (a0 a1 : AV) (H : AH) (R : Kt) : Prop :=
  wGet (nilA a0) H fun t8 H =>
  wGet (faddr 2 t8) H fun t9 H =>
  wGet (faddr 0 t9) H fun t10 H =>
  wGet (load1 t10 H) H fun t11 H =>
  wGet (binA .neq t11 (.val (.int .i64 0))) H fun t12 H =>
  wIf t12 (
    R (.val (.pointer none)) H) (
    wGet (binA .geq a1 (.val (.int .i64 20))) H fun t14 H =>
    wIf t14 (
      wCall E P 132 [a0, (.val (.int .i64 4))] H fun t16 H =>
      R t16 H) (
      wCall E P 131 [a0] H fun t18 H =>
      wGet (binA .eql t18 (.val (.int .u8 33))) H fun t21 H =>
      wIf t21 (
        wGet (nilA a0) H fun t23 H =>
        wGet (faddr 1 t23) H fun t24 H =>
        wGet (load1 t24 H) H fun t25 H =>
        wGet (binA .add t25 (.val (.int .i64 1))) H fun t26 H =>
        wGet (nilA a0) H fun t27 H =>
        wGet (faddr 1 t27) H fun t28 H =>
        wPut (store1 t28 t26 H) fun _u H =>
        wGet (binA .add a1 (.val (.int .i64 1))) H fun t31 H =>
        wCall E P 141 [a0, t31] H fun t32 H =>
        wNewS 1 1 (fillA (List.replicate 1 [(.val (.pointer none))]).flatten [(0, 1, t32)]) H fun t33 H =>
        wAgg (fillA [(.val (.string ⟨#[]⟩)), (.val (.string ⟨#[]⟩)), (.val (.slice none 0 0))] [(0, 1, (.val (.string ⟨#[33]⟩))), (2, 1, t33)]) H fun t34 H =>
        wNew 3 (AV.cells? t34) H fun t35 H =>
        R t35 H) (
        wGet (binA .eql t18 (.val (.int .u8 40))) H fun t37 H =>
        wIf t37 (
          wGet (nilA a0) H fun t39 H =>
          wGet (faddr 1 t39) H fun t40 H =>
          wGet (load1 t40 H) H fun t41 H =>
          wGet (binA .add t41 (.val (.int .i64 1))) H fun t42 H =>
          wGet (nilA a0) H fun t43 H =>
          wGet (faddr 1 t43) H fun t44 H =>
          wPut (store1 t44 t42 H) fun _u H =>
          wGet (binA .add a1 (.val (.int .i64 1))) H fun t47 H =>
          wCall E P 130 [a0, t47] H fun t48 H =>
          wGet (nilA a0) H fun t50 H =>
          wGet (faddr 2 t50) H fun t51 H =>
          wGet (faddr 0 t51) H fun t52 H =>
          wGet (load1 t52 H) H fun t53 H =>
          wGet (binA .eql t53 (.val (.int .i64 0))) H fun t54 H =>
          wGuard t54 true H (fun k => k a0 H) fun t56 H =>
          wGuard t54 true H (fun k => wCall E P 131 [t56] H k) fun t57 H =>
          wGuard t54 true H (fun k => wGet (binA .neq t57 (.val (.int .u8 41))) H k) fun t58 H =>
          wGet (pickA t54 t58 (.val (.bool false))) H fun t59 H =>
          wIf t59 (
            wCall E P 132 [a0, (.val (.int .i64 3))] H fun t61 H =>
            R t61 H) (
            wGet (nilA a0) H fun t63 H =>
            wGet (faddr 1 t63) H fun t64 H =>
            wGet (load1 t64 H) H fun t65 H =>
            wGet (binA .add t65 (.val (.int .i64 1))) H fun t66 H =>
            wGet (nilA a0) H fun t67 H =>
            wGet (faddr 1 t67) H fun t68 H =>
            wPut (store1 t68 t66 H) fun _u H =>
            R t48 H)) (
          wJoin 1 (fun J1 =>
            wGet (binA .eql t18 (.val (.int .u8 48))) H fun t71 H =>
            wIf t71 (
              J1 t71 H) (
              wGet (binA .eql t18 (.val (.int .u8 49))) H fun t72 H =>
              J1 t72 H)) fun t70 H =>
            wIf t70 (
              wGet (nilA a0) H fun t74 H =>
              wGet (faddr 1 t74) H fun t75 H =>
              wGet (load1 t75 H) H fun t76 H =>
              wGet (binA .add t76 (.val (.int .i64 1))) H fun t77 H =>
              wGet (nilA a0) H fun t78 H =>
              wGet (faddr 1 t78) H fun t79 H =>
              wPut (store1 t79 t77 H) fun _u H =>
              wGet (convA .string t18) H fun t81 H =>
              wAgg (fillA [(.val (.string ⟨#[]⟩)), (.val (.string ⟨#[]⟩)), (.val (.slice none 0 0))] [(0, 1, t81)]) H fun t82 H =>
              wNew 3 (AV.cells? t82) H fun t83 H =>
              R t83 H) (
              wJoin 1 (fun J2 =>
                wGet (binA .eql t18 (.val (.int .u8 94))) H fun t85 H =>
                wIf t85 (
                  J2 t85 H) (
                  wGet (binA .eql t18 (.val (.int .u8 126))) H fun t86 H =>
                  J2 t86 H)) fun t84 H =>
                wIf t84 (
                  wGet (nilA a0) H fun t88 H =>
                  wGet (faddr 1 t88) H fun t89 H =>
                  wGet (load1 t89 H) H fun t90 H =>
                  wGet (binA .add t90 (.val (.int .i64 1))) H fun t91 H =>
                  wGet (nilA a0) H fun t92 H =>
                  wGet (faddr 1 t92) H fun t93 H =>
                  wPut (store1 t93 t91 H) fun _u H =>
                  wGet (convA .string t18) H fun t95 H =>
                  wCall E P 142 [a0] H fun t97 H =>
                  wAgg (fillA [(.val (.string ⟨#[]⟩)), (.val (.string ⟨#[]⟩)), (.val (.slice none 0 0))] [(0, 1, t95), (1, 1, t97)]) H fun t98 H =>
                  wNew 3 (AV.cells? t98) H fun t99 H =>
                  R t99 H) (
                  wCall E P 142 [a0] H fun t101 H =>
                  wAgg (fillA [(.val (.string ⟨#[]⟩)), (.val (.string ⟨#[]⟩)), (.val (.slice none 0 0))] [(0, 1, (.val (.string ⟨#[98, 105, 116]⟩))), (1, 1, t101)]) H fun t102 H =>
                  wNew 3 (AV.cells? t102) H fun t103 H =>
                  R t103 H))))))

/-- (*signalbox/signalboxref.parser).skip -/
def pref_parser_skip (E : Env) (P : Program) (a0 : AV) (H : AH) (R : Kt) : Prop :=
  wLoop 0 (fun I1 => I1 H) fun I1 H =>
    wGet (nilA a0) H fun t3 H =>
    wGet (faddr 1 t3) H fun t4 H =>
    wGet (load1 t4 H) H fun t5 H =>
    wGet (nilA a0) H fun t7 H =>
    wGet (faddr 0 t7) H fun t8 H =>
    wGet (load1 t8 H) H fun t9 H =>
    wGet (lenS t9) H fun t10 H =>
    wGet (binA .lss t5 t10) H fun t11 H =>
    wGuard t11 true H (fun k => k a0 H) fun t13 H =>
    wGuard t11 true H (fun k => wGet (nilA t13) H k) fun t14 H =>
    wGuard t11 true H (fun k => wGet (faddr 0 t14) H k) fun t15 H =>
    wGuard t11 true H (fun k => wGet (load1 t15 H) H k) fun t16 H =>
    wGuard t11 true H (fun k => k a0 H) fun t17 H =>
    wGuard t11 true H (fun k => wGet (nilA t17) H k) fun t18 H =>
    wGuard t11 true H (fun k => wGet (faddr 1 t18) H k) fun t19 H =>
    wGuard t11 true H (fun k => wGet (load1 t19 H) H k) fun t20 H =>
    wGuard t11 true H (fun k => wGet (idxStr t16 t20) H k) fun t21 H =>
    wGuard t11 true H (fun k => wGet (binA .eql t21 (.val (.int .u8 32))) H k) fun t22 H =>
    wGet (pickA t11 t22 (.val (.bool false))) H fun t23 H =>
    wIf t23 (
      wGet (nilA a0) H fun t25 H =>
      wGet (faddr 1 t25) H fun t26 H =>
      wGet (load1 t26 H) H fun t27 H =>
      wGet (binA .add t27 (.val (.int .i64 1))) H fun t28 H =>
      wGet (nilA a0) H fun t29 H =>
      wGet (faddr 1 t29) H fun t30 H =>
      wPut (store1 t30 t28 H) fun _u H =>
      I1 H) (
      R (.tup []) H)

/-- (*signalbox/expr.reader).several -/
def pexpr_reader_several (E : Env) (P : Program) (a0 a1 a2 a3 : AV) (H : AH) (R : Kt) : Prop :=
  wLoop 1 (fun I1 => I1 (.val (.slice none 0 0)) H) fun I1 t10 H =>
    wCallV E P a3 [a2] H fun t16 H =>
    wGet (extractA t16 0) H fun t17 H =>
    wGet (extractA t16 1) H fun t18 H =>
    wBool (eqA .iface t18 (.val (.nilIface))) H true fun t20 H =>
    wIf t20 (
      R (.tup [(.val (.slice none 0 0)), t18]) H) (
      wNewS 1 1 (fillA (List.replicate 1 [(.val (.nilIface))]).flatten [(0, 1, t17)]) H fun t24 H =>
      wApp 1 16 t10 t24 H fun t25 H =>
      wCall E P 143 [a0, a1] H fun t28 H =>
      wGet (unA .not t28) H fun t29 H =>
      wIf t29 (
        R (.tup [t25, (.val (.nilIface))]) H) (
        I1 t25 H))

/-- (*signalbox/expr.reader).and -/
def pexpr_reader_and (E : Env) (P : Program) (a0 a1 : AV) (H : AH) (R : Kt) : Prop :=
  wCall E P 140 [a0, (.val (.int .u8 38)), a1, (.fn 144 [a0] [])] H fun t13 H =>
  wGet (extractA t13 0) H fun t14 H =>
  wGet (extractA t13 1) H fun t15 H =>
  wBool (eqA .iface t15 (.val (.nilIface))) H true fun t17 H =>
  wIf t17 (
    R (.tup [(.val (.nilIface)), t15]) H) (
    wGet (lenA t14) H fun t20 H =>
    wGet (binA .eql t20 (.val (.int .i64 1))) H fun t21 H =>
    wIf t21 (
      wGet (iaddr 1 t14 (.val (.int .i64 0))) H fun t23 H =>
      wGet (load1 t23 H) H fun t24 H =>
      R (.tup [t24, (.val (.nilIface))]) H) (
      R (.tup [(.ifc 9 t14), (.val (.nilIface))]) H))

/-- (*signalbox/signalboxref.parser).word -/
def pref_parser_word (E : Env) (P : Program) (a0 : AV) (H : AH) (R : Kt) : Prop :=
  wCall E P 138 [a0] H fun t6 H =>
  wGet (nilA a0) H fun t8 H =>
  wGet (faddr 1 t8) H fun t9 H =>
  wGet (load1 t9 H) H fun t10 H =>
  wLoop 1 (fun I1 => I1 t10 H) fun I1 t3 H =>
    wGet (nilA a0) H fun t13 H =>
    wGet (faddr 0 t13) H fun t14 H =>
    wGet (load1 t14 H) H fun t15 H =>
    wGet (lenS t15) H fun t16 H =>
    wGet (binA .lss t3 t16) H fun t17 H =>
    wGuard t17 true H (fun k => k a0 H) fun t19 H =>
    wGuard t17 true H (fun k => wGet (nilA t19) H k) fun t20 H =>
    wGuard t17 true H (fun k => wGet (faddr 0 t20) H k) fun t21 H =>
    wGuard t17 true H (fun k => wGet (load1 t21 H) H k) fun t22 H =>
    wGuard t17 true H (fun k => k t3 H) fun t23 H =>
    wGuard t17 true H (fun k => wGet (idxStr t22 t23) H k) fun t24 H =>
    wGuard t17 true H (fun k => wGet (convA (.int .i32) t24) H k) fun t25 H =>
    wGuard t17 true H (fun k => wCall E P 16 [(.val (.string ⟨#[32, 38, 124, 33, 94, 126, 40, 41, 61]⟩)), t25] H k) fun t26 H =>
    wGuard t17 true H (fun k => wGet (unA .not t26) H k) fun t27 H =>
    wGet (pickA t17 t27 (.val (.bool false))) H fun t28 H =>
    wGuard t28 true H (fun k => k t3 H) fun t30 H =>
    wGuard t28 true H (fun k => k a0 H) fun t31 H =>
    wGuard t28 true H (fun k => wGet (nilA t31) H k) fun t32 H =>
    wGuard t28 true H (fun k => wGet (faddr 1 t32) H k) fun t33 H =>
    wGuard t28 true H (fun k => wGet (load1 t33 H) H k) fun t34 H =>
    wGuard t28 true H (fun k => wGet (binA .gtr t30 t34) H k) fun t35 H =>
    wGuard t28 true H (fun k => k t35 H) fun t36 H =>
    wGuard t36 false H (fun k => k a0 H) fun t37 H =>
    wGuard t36 false H (fun k => wGet (nilA t37) H k) fun t38 H =>
    wGuard t36 false H (fun k => wGet (faddr 0 t38) H k) fun t39 H =>
    wGuard t36 false H (fun k => wGet (load1 t39 H) H k) fun t40 H =>
    wGuard t36 false H (fun k => k t3 H) fun t41 H =>
    wGuard t36 false H (fun k => wGet (idxStr t40 t41) H k) fun t42 H =>
    wGuard t36 false H (fun k => wGet (binA .neq t42 (.val (.int .u8 48))) H k) fun t43 H =>
    wGuard t36 false H (fun k => k t43 H) fun t44 H =>
    wGuard t44 true H (fun k => k a0 H) fun t45 H =>
    wGuard t44 true H (fun k => wGet (nilA t45) H k) fun t46 H =>
    wGuard t44 true H (fun k => wGet (faddr 0 t46) H k) fun t47 H =>
    wGuard t44 true H (fun k => wGet (load1 t47 H) H k) fun t48 H =>
    wGuard t44 true H (fun k => k t3 H) fun t49 H =>
    wGuard t44 true H (fun k => wGet (idxStr t48 t49) H k) fun t50 H =>
    wGuard t44 true H (fun k => wGet (binA .neq t50 (.val (.int .u8 49))) H k) fun t51 H =>
    wGuard t36 false H (fun k => wGet (pickA t44 t51 (.val (.bool false))) H k) fun t52 H =>
    wGuard t28 true H (fun k => wGet (pickA t36 (.val (.bool true)) t52) H k) fun t53 H =>
    wGet (pickA t28 t53 (.val (.bool false))) H fun t54 H =>
    wIf t54 (
      wGet (binA .add t3 (.val (.int .i64 1))) H fun t56 H =>
      I1 t56 H) (
      wGet (nilA a0) H fun t58 H =>
      wGet (faddr 0 t58) H fun t59 H =>
      wGet (load1 t59 H) H fun t60 H =>
      wGet (nilA a0) H fun t62 H =>
      wGet (faddr 1 t62) H fun t63 H =>
      wGet (load1 t63 H) H fun t64 H =>
      wGet (sliceS t60 (some t64) (some t3)) H fun t66 H =>
      wJoin 0 (fun J2 =>
        wGet (binA .eql t66 (.val (.string ⟨#[]⟩))) H fun t73 H =>
        wIf t73 (
          wCall E P 132 [a0, (.val (.int .i64 3))] H fun t75 H =>
          J2 H) (
          wCall E P 2 [t66] H fun t78 H =>
          wGet (unA .not t78) H fun t79 H =>
          wIf t79 (
            wCall E P 132 [a0, (.val (.int .i64 5))] H fun t81 H =>
            J2 H) (
            wGet (nilA a0) H fun t69 H =>
            wGet (faddr 1 t69) H fun t70 H =>
            wPut (store1 t70 t3 H) fun _u H =>
            J2 H))) fun H =>
        R t66 H)

/-- (*signalbox/expr.reader).take -/
def pexpr_reader_take (E : Env) (P : Program) (a0 a1 : AV) (H : AH) (R : Kt) : Prop :=
  wCall E P 134 [a0] H fun t6 H =>
  wGet (nilA a0) H fun t8 H =>
  wGet (faddr 1 t8) H fun t9 H =>
  wGet (load1 t9 H) H fun t10 H =>
  wGet (nilA a0) H fun t12 H =>
  wGet (faddr 0 t12) H fun t13 H =>
  wGet (load1 t13 H) H fun t14 H =>
  wGet (lenS t14) H fun t15 H =>
  wGet (binA .lss t10 t15) H fun t16 H =>
  wGuard t16 true H (fun k => k a0 H) fun t18 H =>
  wGuard t16 true H (fun k => wGet (nilA t18) H k) fun t19 H =>
  wGuard t16 true H (fun k => wGet (faddr 0 t19) H k) fun t20 H =>
  wGuard t16 true H (fun k => wGet (load1 t20 H) H k) fun t21 H =>
  wGuard t16 true H (fun k => k a0 H) fun t22 H =>
  wGuard t16 true H (fun k => wGet (nilA t22) H k) fun t23 H =>
  wGuard t16 true H (fun k => wGet (faddr 1 t23) H k) fun t24 H =>
  wGuard t16 true H (fun k => wGet (load1 t24 H) H k) fun t25 H =>
  wGuard t16 true H (fun k => wGet (idxStr t21 t25) H k) fun t26 H =>
  wGuard t16 true H (fun k => k a1 H) fun t27 H =>
  wGuard t16 true H (fun k => wGet (binA .eql t26 t27) H k) fun t28 H =>
  wGet (pickA t16 t28 (.val (.bool false))) H fun t29 H =>
  wIf t29 (
    wGet (nilA a0) H fun t31 H =>
    wGet (faddr 1 t31) H fun t32 H =>
    wGet (load1 t32 H) H fun t33 H =>
    wGet (binA .add t33 (.val (.int .i64 1))) H fun t34 H =>
    wGet (nilA a0) H fun t35 H =>
    wGet (faddr 1 t35) H fun t36 H =>
    wPut (store1 t36 t34 H) fun _u H =>
    R (.val (.bool true)) H) (
    R (.val (.bool false)) H)

/-- (*signalbox/expr.reader).one -/
def pexpr_reader_one (E : Env) (P : Program) (a0 a1 : AV) (H : AH) (R : Kt) : Prop :=
  wGet (binA .eql a1 (.val (.int .i64 0))) H fun t17 H =>
  wIf t17 (
    wCall E P 135 [a0, (.val (.int .i64 4))] H fun t19 H =>
    R (.tup [(.val (.nilIface)), t19]) H) (
    wCall E P 143 [a0, (.val (.int .u8 33))] H fun t22 H =>
    wIf t22 (
      wGet (binA .sub a1 (.val (.int .i64 1))) H fun t26 H =>
      wCall E P 144 [a0, t26] H fun t27 H =>
      wGet (extractA t27 0) H fun t28 H =>
      wGet (extractA t27 1) H fun t29 H =>
      wBool (eqA .iface t29 (.val (.nilIface))) H true fun t31 H =>
      wIf t31 (
        R (.tup [(.val (.nilIface)), t29]) H) (
        wAgg (fillA [(.val (.nilIface))] [(0, 1, t28)]) H fun t34 H =>
        R (.tup [(.ifc 10 t34), (.val (.nilIface))]) H)) (
      wCall E P 143 [a0, (.val (.int .u8 40))] H fun t38 H =>
      wIf t38 (
        wGet (binA .sub a1 (.val (.int .i64 1))) H fun t42 H =>
        wCall E P 133 [a0, t42] H fun t43 H =>
        wGet (extractA t43 0) H fun t44 H =>
        wGet (extractA t43 1) H fun t45 H =>
        wBool (eqA .iface t45 (.val (.nilIface))) H true fun t47 H =>
        wIf t47 (
          R (.tup [(.val (.nilIface)), t45]) H) (
          wCall E P 143 [a0, (.val (.int .u8 41))] H fun t50 H =>
          wGet (unA .not t50) H fun t51 H =>
          wIf t51 (
            wCall E P 135 [a0, (.val (.int .i64 3))] H fun t53 H =>
            R (.tup [(.val (.nilIface)), t53]) H) (
            R (.tup [t44, (.val (.nilIface))]) H))) (
        wCall E P 143 [a0, (.val (.int .u8 48))] H fun t57 H =>
        wIf t57 (
          R (.tup [(.ifc 11 (.val (.bool false))), (.val (.nilIface))]) H) (
          wCall E P 143 [a0, (.val (.int .u8 49))] H fun t61 H =>
          wIf t61 (
            R (.tup [(.ifc 11 (.val (.bool true))), (.val (.nilIface))]) H) (
            wCall E P 143 [a0, (.val (.int .u8 94))] H fun t65 H =>
            wIf t65 (
              wCall E P 145 [a0] H fun t68 H =>
              wGet (extractA t68 0) H fun t69 H =>
              wGet (extractA t68 1) H fun t70 H =>
              R (.tup [(.ifc 12 t69), t70]) H) (
              wCall E P 143 [a0, (.val (.int .u8 126))] H fun t76 H =>
              wIf t76 (
                wCall E P 145 [a0] H fun t79 H =>
                wGet (extractA t79 0) H fun t80 H =>
                wGet (extractA t79 1) H fun t81 H =>
                R (.tup [(.ifc 13 t80), t81]) H) (
                wCall E P 145 [a0] H fun t87 H =>
                wGet (extractA t87 0) H fun t88 H =>
                wGet (extractA t87 1) H fun t89 H =>
                R (.tup [(.ifc 14 t88), t89]) H)))))))

/-- (*signalbox/expr.reader).word -/
def pexpr_reader_word (E : Env) (P : Program) (a0 : AV) (H : AH) (R : Kt) : Prop :=
  wCall E P 134 [a0] H fun t7 H =>
  wGet (nilA a0) H fun t9 H =>
  wGet (faddr 1 t9) H fun t10 H =>
  wGet (load1 t10 H) H fun t11 H =>
  wLoop 1 (fun I1 => I1 t11 H) fun I1 t4 H =>
    wGet (nilA a0) H fun t14 H =>
    wGet (faddr 0 t14) H fun t15 H =>
    wGet (load1 t15 H) H fun t16 H =>
    wGet (lenS t16) H fun t17 H =>
    wGet (binA .lss t4 t17) H fun t18 H =>
    wGuard t18 true H (fun k => k a0 H) fun t20 H =>
    wGuard t18 true H (fun k => wGet (nilA t20) H k) fun t21 H =>
    wGuard t18 true H (fun k => wGet (faddr 0 t21) H k) fun t22 H =>
    wGuard t18 true H (fun k => wGet (load1 t22 H) H k) fun t23 H =>
    wGuard t18 true H (fun k => k t4 H) fun t24 H =>
    wGuard t18 true H (fun k => wGet (idxStr t23 t24) H k) fun t25 H =>
    wGuard t18 true H (fun k => wCall E P 21 [(.val (.string ⟨#[32, 38, 124, 33, 94, 126, 40, 41, 48, 49, 61]⟩)), t25] H k) fun t26 H =>
    wGuard t18 true H (fun k => wGet (binA .lss t26 (.val (.int .i64 0))) H k) fun t27 H =>
    wGet (pickA t18 t27 (.val (.bool false))) H fun t28 H =>
    wGuard t28 false H (fun k => k t4 H) fun t30 H =>
    wGuard t28 false H (fun k => k a0 H) fun t31 H =>
    wGuard t28 false H (fun k => wGet (nilA t31) H k) fun t32 H =>
    wGuard t28 false H (fun k => wGet (faddr 1 t32) H k) fun t33 H =>
    wGuard t28 false H (fun k => wGet (load1 t33 H) H k) fun t34 H =>
    wGuard t28 false H (fun k => wGet (binA .gtr t30 t34) H k) fun t35 H =>
    wGuard t28 false H (fun k => k t35 H) fun t36 H =>
    wGuard t36 true H (fun k => k t4 H) fun t37 H =>
    wGuard t36 true H (fun k => k a0 H) fun t38 H =>
    wGuard t36 true H (fun k => wGet (nilA t38) H k) fun t39 H =>
    wGuard t36 true H (fun k => wGet (faddr 0 t39) H k) fun t40 H =>
    wGuard t36 true H (fun k => wGet (load1 t40 H) H k) fun t41 H =>
    wGuard t36 true H (fun k => wGet (lenS t41) H k) fun t42 H =>
    wGuard t36 true H (fun k => wGet (binA .lss t37 t42) H k) fun t43 H =>
    wGuard t28 false H (fun k => wGet (pickA t36 t43 (.val (.bool false))) H k) fun t44 H =>
    wGuard t28 false H (fun k => k t44 H) fun t45 H =>
    wGuard t45 true H (fun k => k a0 H) fun t46 H =>
    wGuard t45 true H (fun k => wGet (nilA t46) H k) fun t47 H =>
    wGuard t45 true H (fun k => wGet (faddr 0 t47) H k) fun t48 H =>
    wGuard t45 true H (fun k => wGet (load1 t48 H) H k) fun t49 H =>
    wGuard t45 true H (fun k => k t4 H) fun t50 H =>
    wGuard t45 true H (fun k => wGet (idxStr t49 t50) H k) fun t51 H =>
    wGuard t45 true H (fun k => wGet (binA .eql t51 (.val (.int .u8 48))) H k) fun t52 H =>
    wGuard t45 true H (fun k => k t52 H) fun t53 H =>
    wGuard t53 false H (fun k => k a0 H) fun t54 H =>
    wGuard t53 false H (fun k => wGet (nilA t54) H k) fun t55 H =>
    wGuard t53 false H (fun k => wGet (faddr 0 t55) H k) fun t56 H =>
    wGuard t53 false H (fun k => wGet (load1 t56 H) H k) fun t57 H =>
    wGuard t53 false H (fun k => k t4 H) fun t58 H =>
    wGuard t53 false H (fun k => wGet (idxStr t57 t58) H k) fun t59 H =>
    wGuard t53 false H (fun k => wGet (binA .eql t59 (.val (.int .u8 49))) H k) fun t60 H =>
    wGuard t45 true H (fun k => wGet (pickA t53 (.val (.bool true)) t60) H k) fun t61 H =>
    wGuard t28 false H (fun k => wGet (pickA t45 t61 (.val (.bool false))) H k) fun t62 H =>
    wGet (pickA t28 (.val (.bool true)) t62) H fun t63 H =>
    wIf t63 (
      wGet (binA .add t4 (.val (.int .i64 1))) H fun t65 H =>
      I1 t65 H) (
      wGet (nilA a0) H fun t67 H =>
      wGet (faddr 0 t67) H fun t68 H =>
      wGet (load1 t68 H) H fun t69 H =>
      wGet (nilA a0) H fun t71 H =>
      wGet (faddr 1 t71) H fun t72 H =>
      wGet (load1 t72 H) H fun t73 H =>
      wGet (sliceS t69 (some t73) (some t4)) H fun t75 H =>
      wGet (binA .eql t75 (.val (.string ⟨#[]⟩))) H fun t77 H =>
      wIf t77 (
        wCall E P 135 [a0, (.val (.int .i64 3))] H fun t79 H =>
        R (.tup [(.val (.string ⟨#[]⟩)), t79]) H) (
        wCall E P 1 [t75] H fun t81 H =>
        wGet (unA .not t81) H fun t82 H =>
        wIf t82 (
          wCall E P 135 [a0, (.val (.int .i64 5))] H fun t84 H =>
          R (.tup [(.val (.string ⟨#[]⟩)), t84]) H) (
          wGet (nilA a0) H fun t87 H =>
          wGet (faddr 1 t87) H fun t88 H =>
          wPut (store1 t88 t4 H) fun _u H =>
          R (.tup [t75, (.val (.nilIface))]) H)))

/-- strings.IndexRune -/
def strings_IndexRune_ScV11 (E : Env) (P : Program) (a0 a1 : AV) (H : AH) (R : Kt) : Prop :=
  wGet (binA .leq (.val (.int .i32 0)) a1) H fun t162 H =>
  wGuard t162 true H (fun k => k a1 H) fun t164 H =>
  wGuard t162 true H (fun k => wGet (binA .lss t164 (.val (.int .i32 128))) H k) fun t165 H =>
  wGet (pickA t162 t165 (.val (.bool false))) H fun t166 H =>
  wIf t166 (
    wGet (convA (.int .u8) a1) H fun t169 H =>
    wCall E P 21 [a0, t169] H fun t170 H =>
    R t170 H) (
    wGet (binA .eql a1 (.val (.int .i32 65533))) H fun t173 H =>
    wIf t173 (
      False) (
      wCall E P 22 [a1] H fun t185 H =>
      wGet (unA .not t185) H fun t186 H =>
      wIf t186 (
        R (.val (.int .i64 (-1))) H) (
        wGet (convA .string a1) H fun t18 H =>
        wGet (lenS t18) H fun t20 H =>
        wGet (binA .sub t20 (.val (.int .i64 1))) H fun t21 H =>
        wLoop 1 (fun I1 => I1 t21 H) fun I1 t9 H =>
          wGet (lenS a0) H fun t25 H =>
          wGet (binA .lss t9 t25) H fun t26 H =>
          wIf t26 (
            wJoin 1 (fun J2 =>
              wGet (idxStr a0 t9) H fun t29 H =>
              wGet (idxStr t18 t21) H fun t32 H =>
              wGet (binA .neq t29 t32) H fun t33 H =>
              wIf t33 (
                wGet (binA .add t9 (.val (.int .i64 1))) H fun t36 H =>
                wGet (sliceS a0 (some t36) none) H fun t37 H =>
                wGet (idxStr t18 t21) H fun t40 H =>
                wCall E P 21 [t37, t40] H fun t41 H =>
                wGet (binA .lss t41 (.val (.int .i64 0))) H fun t43 H =>
                wIf t43 (
                  R (.val (.int .i64 (-1))) H) (
                  wGet (binA .add t41 (.val (.int .i64 1))) H fun t46 H =>
                  wGet (binA .add t9 t46) H fun t47 H =>
                  J2 t47 H)) (
                J2 t9 H)) fun t9_1 H =>
              wLoop 1 (fun I3 => I3 (.val (.int .i64 1)) H) fun I3 t12 H =>
                wGet (lenS t18) H fun t50 H =>
                wGet (binA .lss t12 t50) H fun t51 H =>
                wIf t51 (
                  wGet (binA .sub t9_1 t12) H fun t57 H =>
                  wGet (idxStr a0 t57) H fun t58 H =>
                  wGet (binA .sub t21 t12) H fun t62 H =>
                  wGet (idxStr t18 t62) H fun t63 H =>
                  wGet (binA .neq t58 t63) H fun t64 H =>
                  wIf t64 (
                    False) (
                    wGet (binA .add t12 (.val (.int .i64 1))) H fun t53 H =>
                    I3 t53 H)) (
                  wGet (binA .sub t9_1 t21) H fun t67 H =>
                  R t67 H)) (
            R (.val (.int .i64 (-1))) H))))

end Go.Sc.F
namespace Go.Sc
open Go
set_option linter.unusedSimpArgs false
set_option linter.unusedVariables false
set_option linter.unnecessarySimpa false
structure RuneBodies (E : Env) (P : Program) : Prop where
  ib : ∀ (s : Str) (c : UInt8), FX E P 21 [S s, By c] (Z (idx s c))
  ir : Body2 E P 19 F.strings_IndexRune_ScV11
  cr : Body2 E P 16 F.strings_ContainsRune
  vr : Body1 E P 22 F.unicode_utf8_ValidRune
section
variable {E : Env} {P : Program}
abbrev Ru (n : Nat) : AV := .val (.int .i32 n)
theorem ValidRune_spec (B : RuneBodies E P) {n : Nat} (h : n < 55296) : FX E P 22 [Ru n] (Bo true) := by
  refine FX.of' (by simp [AV.closed, AV.closedL]) trivial fun m R hR => B.vr _ _ _ ?_
  unfold F.unicode_utf8_ValidRune
  simp only [nd0, Y1n, Y1o, Y1p, Y1q, Y1w, Y1x, Y1y, Y1z, Y20, Y21, Y28, Y2a, AV.cells?, Nat.reduceAdd, Nat.reduceMul, decide_eq_true (show (0 : Int) ≤ (n : Int) by omega), decide_eq_true (show (n : Int) < 55296 by omega)]
  exact hR _ _ rfl
theorem enc2 (c : UInt8) (h : 128 ≤ c.toNat) : Utf8.encode (c.toNat : Int) = ⟨[UInt8.ofNat (192 + c.toNat / 64), UInt8.ofNat (128 + c.toNat % 64)].toArray⟩ := by
  have h2 := c.toNat_lt
  unfold Utf8.encode
  have hv : Utf8.valid (c.toNat : Int) = true := by unfold Utf8.valid; simp; omega
  simp only [hv, if_true, Int.toNat_natCast]
  rw [if_neg (by omega), if_pos (by omega)]
theorem wrap_u8 (c : UInt8) : IntKind.u8.wrap (c.toNat : Int) = c.toNat := by
  have h2 := c.toNat_lt
  simp [IntKind.wrap, IntKind.bits, IntKind.signed]
  omega
theorem wrap_i32 (c : UInt8) : IntKind.i32.wrap (c.toNat : Int) = c.toNat := by
  have h2 := c.toNat_lt
  simp [IntKind.wrap, IntKind.bits, IntKind.signed]
  omega
theorem idx_none {s : Str} {c : UInt8} (h : c ∉ s) : idx s c = -1 := by simp [idx, h]
theorem IndexRune_spec (B : RuneBodies E P) (s : Str) (c : UInt8) (ha : ascii s) (hs : s.length < 1000000) : FX E P 19 [S s, Ru c.toNat] (Z (idx s c)) := by
  refine FX.of' (by simp [AV.closed, AV.closedL]) trivial fun m R hR => B.ir _ _ _ _ ?_
  have hc := c.toNat_lt
  unfold F.strings_IndexRune_ScV11
  simp only [nd0, Y1n, Y1o, Y1p, Y1q, Y1w, Y1x, Y1y, Y1z, Y20, Y21, Y28, Y2a, AV.cells?, Nat.reduceAdd, Nat.reduceMul, decide_eq_true (show (0 : Int) ≤ (c.toNat : Int) by omega)]
  by_cases h : c.toNat < 128
  · simp only [nd0, Y1n, Y1o, Y1p, Y1q, Y1w, Y1x, Y1y, Y1z, Y20, Y21, Y28, Y2a, AV.cells?, Nat.reduceAdd, Nat.reduceMul, decide_eq_true (show (c.toNat : Int) < 128 by omega), wrap_u8]
    refine wCall.fx (B.ib s c) fun n => ?_
    exact hR _ _ rfl
  · simp only [nd0, Y1n, Y1o, Y1p, Y1q, Y1w, Y1x, Y1y, Y1z, Y20, Y21, Y28, Y2a, AV.cells?, Nat.reduceAdd, Nat.reduceMul, decide_eq_false (show ¬ (c.toNat : Int) < 128 by omega), decide_eq_false (show ¬ (c.toNat : Int) = 65533 by omega)]
    refine wCall.fx (ValidRune_spec B (by omega)) fun n => ?_
    simp only [nd0, Y1n, Y1o, Y1p, Y1q, Y1w, Y1x, Y1y, Y1z, Y20, Y21, Y28, Y2a, AV.cells?, Nat.reduceAdd, Nat.reduceMul]
    have hnot : c ∉ s := fun hm => h (by have := ha c hm; exact this)
    have hcv : convA .string (Ru c.toNat) = some (S [UInt8.ofNat (192 + c.toNat / 64), UInt8.ofNat (128 + c.toNat % 64)]) := by
      simp only [convA]; rw [enc2 c (by omega)]
    have hlast : 128 ≤ (UInt8.ofNat (128 + c.toNat % 64)).toNat := by
      rw [UInt8.toNat_ofNat']; omega
    generalize UInt8.ofNat (128 + c.toNat % 64) = b at hcv hlast
    generalize UInt8.ofNat (192 + c.toNat / 64) = a at hcv
    rw [hcv]
    simp only [nd0, Y1n, Y1o, Y1p, Y1q, Y1w, Y1x, Y1y, Y1z, Y20, Y21, Y28, Y2a, AV.cells?, Nat.reduceAdd, Nat.reduceMul]
    rw [show (((1 + 1 : Nat) : Int)) = 2 from rfl, binA_sub (by omega)]
    simp only [nd0, Y1n, Y1o, Y1p, Y1q, Y1w, Y1x, Y1y, Y1z, Y20, Y21, Y28, Y2a, AV.cells?, Nat.reduceAdd, Nat.reduceMul]
    refine wLoop.one (fun m t H => t = Z 1 ∧ ∃ n, H = ⟨[], n⟩) 0 (gh1.mk ⟨rfl, _, rfl⟩) ?_
    rintro m t H ⟨rfl, n, rfl⟩
    simp only [nd0, Y1n, Y1o, Y1p, Y1q, Y1w, Y1x, Y1y, Y1z, Y20, Y21, Y28, Y2a, AV.cells?, Nat.reduceAdd, Nat.reduceMul]
    by_cases hl : 1 < s.length
    · simp only [nd0, Y1n, Y1o, Y1p, Y1q, Y1w, Y1x, Y1y, Y1z, Y20, Y21, Y28, Y2a, AV.cells?, Nat.reduceAdd, Nat.reduceMul, decide_eq_true (show (1 : Int) < (s.length : Int) by omega)]
      refine wJoin.one (fun _ _ => False) ?_ (fun _ _ h => h.elim)
      have i1 : idxStr (S s) (Z 1) = some (By s[1]) := by have := idxS (s := s) (i := 1) hl; exact this
      have i2 : idxStr (S [a, b]) (Z 1) = some (By b) := by have := idxS (s := [a, b]) (i := 1) (by simp); exact this
      rw [show (2 : Int) - 1 = 1 from rfl]
      rw [i1, i2]
      simp only [nd0, Y1n, Y1o, Y1p, Y1q, Y1w, Y1x, Y1y, Y1z, Y20, Y21, Y28, Y2a, AV.cells?, Nat.reduceAdd, Nat.reduceMul]
      have hne : ¬ ((s[1].toNat : Int) = (b.toNat : Int)) := by
        have : s[1].toNat < 128 := ha s[1] (List.getElem_mem _)
        omega
      simp only [nd0, Y1n, Y1o, Y1p, Y1q, Y1w, Y1x, Y1y, Y1z, Y20, Y21, Y28, Y2a, AV.cells?, Nat.reduceAdd, Nat.reduceMul, decide_eq_false hne]
      rw [binA_add (by omega)]
      simp only [nd0, Y1n, Y1o, Y1p, Y1q, Y1w, Y1x, Y1y, Y1z, Y20, Y21, Y28, Y2a, AV.cells?, Nat.reduceAdd, Nat.reduceMul]
      rw [sliceS_S (l := 2) (h := s.length) rfl rfl (by omega) (by omega) (by omega)]
      simp only [nd0, Y1n, Y1o, Y1p, Y1q, Y1w, Y1x, Y1y, Y1z, Y20, Y21, Y28, Y2a, AV.cells?, Nat.reduceAdd, Nat.reduceMul]
      have hn2 : b ∉ ((s.take s.length).drop (2 : Int).toNat) := fun hm => by
        have : b < 128 := ha b (List.mem_of_mem_take (List.mem_of_mem_drop hm))
        have : b.toNat < 128 := this
        omega
      refine wCall.fx (B.ib _ b) fun n => ?_
      rw [idx_none hn2]
      simp only [nd0, Y1n, Y1o, Y1p, Y1q, Y1w, Y1x, Y1y, Y1z, Y20, Y21, Y28, Y2a, AV.cells?, Nat.reduceAdd, Nat.reduceMul, decide_eq_true (show (-1 : Int) < 0 by omega)]
      exact hR _ _ (by rw [idx_none hnot])
    · simp only [nd0, Y1n, Y1o, Y1p, Y1q, Y1w, Y1x, Y1y, Y1z, Y20, Y21, Y28, Y2a, AV.cells?, Nat.reduceAdd, Nat.reduceMul, decide_eq_false (show ¬ (1 : Int) < (s.length : Int) by omega)]
      exact hR _ _ (by rw [idx_none hnot])
theorem ContainsRune_spec (B : RuneBodies E P) (s : Str) (c : UInt8) (ha : ascii s) (hs : s.length < 1000000) : FX E P 16 [S s, Ru c.toNat] (Bo (decide (c ∈ s))) := by
  refine FX.of' (by simp [AV.closed, AV.closedL]) trivial fun m R hR => B.cr _ _ _ _ ?_
  unfold F.strings_ContainsRune
  refine wCall.fx (IndexRune_spec B s c ha hs) fun n => ?_
  simp only [nd0, Y1n, Y1o, Y1p, Y1q, Y1w, Y1x, Y1y, Y1z, Y20, Y21, Y28, Y2a, AV.cells?, Nat.reduceAdd, Nat.reduceMul]
  refine hR _ _ ?_
  congr 2
  exact decide_eq_decide.2 (by
    have := idx_neg (l := s) (x := c)
    constructor
    · intro h1
      by_cases h : c ∈ s
      · exact h
      · have := this.2 h; omega
    · intro h1
      by_cases h : idx s c < 0
      · exact absurd h1 (this.1 h)
      · omega)
end
/-! ### the program's reader -/
def rd (s : Str) (i : Nat) : List AV := [S s, Z i]
theorem rd_closed (s : Str) (i : Nat) : AV.closedL (rd s i) := ⟨trivial, trivial, trivial⟩
structure ReadBodies (E : Env) (P : Program) : Prop where
  n : NameBodies E P
  r : RuneBodies E P
  blanks : Body1 E P 134 F.pexpr_reader_blanks
  fail : Body2 E P 135 F.pexpr_reader_fail
  take : Body2 E P 143 F.pexpr_reader_take
  word : Body1 E P 145 F.pexpr_reader_word
section
variable {E : Env} {P : Program}
theorem at_some {s : Str} {i : Nat} (h : i < s.length) : s[i]? = some s[i] := List.getElem?_eq_getElem h
theorem at_eq {s : Str} {i : Nat} (h : i < s.length) {c : UInt8} : s[i]? = some c ↔ (s[i].toNat : Int) = c.toNat := by
  rw [at_some h]
  constructor
  · intro e; injection e with e; rw [e]
  · intro e; rw [show s[i] = c from UInt8.toNat_inj.1 (by omega)]
theorem blanks_spec (B : ReadBodies E P) (s : Str) (i : Nat) (hi : i ≤ s.length) (hs : s.length < 1000000) : PC E P 134 2 (rd s i) (fun b g => [.ptrL b 0 g]) (fun r cs => r = .tup [] ∧ cs = rd s (skipTo s i)) := by
  refine PC.of (fun _ _ => rfl) (rd_closed s i) (by rintro r cs ⟨rfl, rfl⟩; exact ⟨trivial, rd_closed _ _⟩) fun n g R hR => B.blanks _ _ _ ?_
  unfold F.pexpr_reader_blanks
  refine wLoop.zero (fun m H => ∃ j c, m = s.length - j ∧ j ≤ s.length ∧ skipTo s j = skipTo s i ∧ H = ⟨[.cells g 2 [S s, Z j]], c⟩) (s.length - i) (gh0.mk ⟨i, n, rfl, hi, rfl, rfl⟩) ?_
  rintro m H ⟨j, c, rfl, hj, he, rfl⟩
  simp only [nd0, Y1n, Y1o, Y1p, Y1q, Y1w, Y1x, Y1y, Y1z, Y20, Y21, Y28, Y2a, AV.cells?, Nat.reduceAdd, Nat.reduceMul]
  by_cases h : j < s.length
  · simp only [nd0, Y1n, Y1o, Y1p, Y1q, Y1w, Y1x, Y1y, Y1z, Y20, Y21, Y28, Y2a, AV.cells?, Nat.reduceAdd, Nat.reduceMul, decide_eq_true (show (j : Int) < (s.length : Int) by omega)]
    rw [idxS h]
    simp only [nd0, Y1n, Y1o, Y1p, Y1q, Y1w, Y1x, Y1y, Y1z, Y20, Y21, Y28, Y2a, AV.cells?, Nat.reduceAdd, Nat.reduceMul]
    by_cases h2 : (s[j].toNat : Int) = 32
    · simp only [nd0, Y1n, Y1o, Y1p, Y1q, Y1w, Y1x, Y1y, Y1z, Y20, Y21, Y28, Y2a, AV.cells?, Nat.reduceAdd, Nat.reduceMul, decide_eq_true h2]
      rw [binA_succ (by omega)]
      simp only [nd0, Y1n, Y1o, Y1p, Y1q, Y1w, Y1x, Y1y, Y1z, Y20, Y21, Y28, Y2a, AV.cells?, Nat.reduceAdd, Nat.reduceMul]
      rw [store1_L rfl]
      simp only [nd0, Y1n, Y1o, Y1p, Y1q, Y1w, Y1x, Y1y, Y1z, Y20, Y21, Y28, Y2a, AV.cells?, Nat.reduceAdd, Nat.reduceMul, Nat.reduceLT]
      refine back0.mk (s.length - (j + 1)) (by omega) ⟨j + 1, c, rfl, by omega, ?_, rfl⟩
      rw [← he]
      exact (skipTo_step ((at_eq h).2 h2)).symm
    · simp only [nd0, Y1n, Y1o, Y1p, Y1q, Y1w, Y1x, Y1y, Y1z, Y20, Y21, Y28, Y2a, AV.cells?, Nat.reduceAdd, Nat.reduceMul, decide_eq_false h2]
      refine hR _ _ (rd s j) [] c (.same _) ⟨rfl, ?_⟩
      rw [← he, skipTo_stop (fun e => h2 ((at_eq h).1 e))]
  · simp only [nd0, Y1n, Y1o, Y1p, Y1q, Y1w, Y1x, Y1y, Y1z, Y20, Y21, Y28, Y2a, AV.cells?, Nat.reduceAdd, Nat.reduceMul, decide_eq_false (show ¬ (j : Int) < (s.length : Int) by omega)]
    refine hR _ _ (rd s j) [] c (.same _) ⟨rfl, ?_⟩
    rw [← he, skipTo_stop (by rw [List.getElem?_eq_none (by omega)]; simp)]
theorem take_spec (B : ReadBodies E P) (s : Str) (i : Nat) (ch : UInt8) (hi : i ≤ s.length) (hs : s.length < 1000000) : PC E P 143 2 (rd s i) (fun b g => [.ptrL b 0 g, By ch]) (fun r cs => r = Bo (decide (s[skipTo s i]? = some ch)) ∧ cs = rd s (if s[skipTo s i]? = some ch then skipTo s i + 1 else skipTo s i)) := by
  refine PC.of (fun _ _ => rfl) (rd_closed s i) (by rintro r cs ⟨rfl, rfl⟩; exact ⟨trivial, rd_closed _ _⟩) fun n g R hR => B.take _ _ _ _ ?_
  unfold F.pexpr_reader_take
  refine wCall.pc (b := 0) (blanks_spec B s i hi hs) rfl rfl ?_
  rintro r cs n ⟨rfl, rfl⟩
  have hk := skipTo_len hi
  generalize skipTo s i = k at hk hR
  unfold rd
  simp only [nd0, Y1n, Y1o, Y1p, Y1q, Y1w, Y1x, Y1y, Y1z, Y20, Y21, Y28, Y2a, AV.cells?, Nat.reduceAdd, Nat.reduceMul]
  by_cases h : k < s.length
  · simp only [nd0, Y1n, Y1o, Y1p, Y1q, Y1w, Y1x, Y1y, Y1z, Y20, Y21, Y28, Y2a, AV.cells?, Nat.reduceAdd, Nat.reduceMul, decide_eq_true (show (k : Int) < (s.length : Int) by omega)]
    rw [idxS h]
    simp only [nd0, Y1n, Y1o, Y1p, Y1q, Y1w, Y1x, Y1y, Y1z, Y20, Y21, Y28, Y2a, AV.cells?, Nat.reduceAdd, Nat.reduceMul]
    by_cases h2 : (s[k].toNat : Int) = ch.toNat
    · simp only [nd0, Y1n, Y1o, Y1p, Y1q, Y1w, Y1x, Y1y, Y1z, Y20, Y21, Y28, Y2a, AV.cells?, Nat.reduceAdd, Nat.reduceMul, decide_eq_true h2]
      rw [binA_succ (by omega)]
      simp only [nd0, Y1n, Y1o, Y1p, Y1q, Y1w, Y1x, Y1y, Y1z, Y20, Y21, Y28, Y2a, AV.cells?, Nat.reduceAdd, Nat.reduceMul]
      rw [store1_L rfl]
      simp only [nd0, Y1n, Y1o, Y1p, Y1q, Y1w, Y1x, Y1y, Y1z, Y20, Y21, Y28, Y2a, AV.cells?, Nat.reduceAdd, Nat.reduceMul, Nat.reduceLT]
      have h3 := (at_eq h).2 h2
      refine hR _ _ (rd s (k + 1)) [] n (.same _) ?_
      rw [if_pos h3, decide_eq_true h3]
      exact ⟨rfl, rfl⟩
    · simp only [nd0, Y1n, Y1o, Y1p, Y1q, Y1w, Y1x, Y1y, Y1z, Y20, Y21, Y28, Y2a, AV.cells?, Nat.reduceAdd, Nat.reduceMul, decide_eq_false h2]
      have h3 : ¬ s[k]? = some ch := fun e => h2 ((at_eq h).1 e)
      refine hR _ _ (rd s k) [] n (.same _) ?_
      rw [if_neg h3, decide_eq_false h3]
      exact ⟨rfl, rfl⟩
  · simp only [nd0, Y1n, Y1o, Y1p, Y1q, Y1w, Y1x, Y1y, Y1z, Y20, Y21, Y28, Y2a, AV.cells?, Nat.reduceAdd, Nat.reduceMul, decide_eq_false (show ¬ (k : Int) < (s.length : Int) by omega)]
    have h3 : ¬ s[k]? = some ch := by rw [List.getElem?_eq_none (by omega)]; simp
    refine hR _ _ (rd s k) [] n (.same _) ?_
    rw [if_neg h3, decide_eq_false h3]
    exact ⟨rfl, rfl⟩
theorem fail_spec (B : ReadBodies E P) (s : Str) (i e : Nat) (hi : i ≤ s.length) (hs : s.length < 1000000) : PC E P 135 2 (rd s i) (fun b g => [.ptrL b 0 g, Z e]) (fun r cs => r = At e (skipTo s i) ∧ cs = rd s (skipTo s i)) := by
  refine PC.of (fun _ _ => rfl) (rd_closed s i) (by rintro r cs ⟨rfl, rfl⟩; exact ⟨At_closed _ _, rd_closed _ _⟩) fun n g R hR => B.fail _ _ _ _ ?_
  unfold F.pexpr_reader_fail
  refine wCall.pc (b := 0) (blanks_spec B s i hi hs) rfl rfl ?_
  rintro r cs n ⟨rfl, rfl⟩
  generalize skipTo s i = k at hR
  unfold rd
  simp only [nd0, Y1n, Y1o, Y1p, Y1q, Y1w, Y1x, Y1y, Y1z, Y20, Y21, Y28, Y2a, AV.cells?, Nat.reduceAdd, Nat.reduceMul, show fillA [Z 0, Z 0] [(0, 1, Z e), (1, 1, Z k)] = some [Z e, Z k] from rfl]
  refine wNew.F' (l := [Z e, Z k]) rfl ?_
  exact hR _ _ (rd s k) [] n (.same _) ⟨rfl, rfl⟩
theorem mem11 {c : UInt8} : c ∈ stop11 ↔ c ∈ stop9 ∨ c = 48 ∨ c = 49 := by
  simp only [stop11, stop9, List.mem_cons, List.not_mem_nil, or_false]
  constructor
  · rintro (h | h | h | h | h | h | h | h | h | h | h) <;> simp [h]
  · rintro ((h | h | h | h | h | h | h | h | h) | h | h) <;> simp [h]
theorem byk {c : UInt8} {n : Nat} (hn : n < 256) : ((c.toNat : Int) = n) ↔ c = UInt8.ofNat n := by
  constructor
  · intro h
    apply UInt8.toNat_inj.1
    rw [UInt8.toNat_ofNat']
    omega
  · rintro rfl
    rw [UInt8.toNat_ofNat']
    omega
theorem word_cond (B : ReadBodies E P) {s : Str} {k j g c : Nat} {K : Kt} (hkj : k ≤ j) (hj : j ≤ s.length) (hs : s.length < 1000000) (h : ∀ c, K (Bo (wc s k j)) ⟨[.cells g 2 [S s, Z k]], c⟩) :
  wGet (nilA (.ptrL 0 0 g)) ⟨[.cells g 2 [S s, Z k]], c⟩ fun t14 H =>
  wGet (faddr 0 t14) H fun t15 H =>
  wGet (load1 t15 H) H fun t16 H =>
  wGet (lenS t16) H fun t17 H =>
  wGet (binA .lss (Z j) t17) H fun t18 H =>
  wGuard t18 true H (fun k => k (.ptrL 0 0 g) H) fun t20 H =>
  wGuard t18 true H (fun k => wGet (nilA t20) H k) fun t21 H =>
  wGuard t18 true H (fun k => wGet (faddr 0 t21) H k) fun t22 H =>
  wGuard t18 true H (fun k => wGet (load1 t22 H) H k) fun t23 H =>
  wGuard t18 true H (fun k => k (Z j) H) fun t24 H =>
  wGuard t18 true H (fun k => wGet (idxStr t23 t24) H k) fun t25 H =>
  wGuard t18 true H (fun k => wCall E P 21 [(.val (.string ⟨#[32, 38, 124, 33, 94, 126, 40, 41, 48, 49, 61]⟩)), t25] H k) fun t26 H =>
  wGuard t18 true H (fun k => wGet (binA .lss t26 (.val (.int .i64 0))) H k) fun t27 H =>
  wGet (pickA t18 t27 (.val (.bool false))) H fun t28 H =>
  wGuard t28 false H (fun k => k (Z j) H) fun t30 H =>
  wGuard t28 false H (fun k => k (.ptrL 0 0 g) H) fun t31 H =>
  wGuard t28 false H (fun k => wGet (nilA t31) H k) fun t32 H =>
  wGuard t28 false H (fun k => wGet (faddr 1 t32) H k) fun t33 H =>
  wGuard t28 false H (fun k => wGet (load1 t33 H) H k) fun t34 H =>
  wGuard t28 false H (fun k => wGet (binA .gtr t30 t34) H k) fun t35 H =>
  wGuard t28 false H (fun k => k t35 H) fun t36 H =>
  wGuard t36 true H (fun k => k (Z j) H) fun t37 H =>
  wGuard t36 true H (fun k => k (.ptrL 0 0 g) H) fun t38 H =>
  wGuard t36 true H (fun k => wGet (nilA t38) H k) fun t39 H =>
  wGuard t36 true H (fun k => wGet (faddr 0 t39) H k) fun t40 H =>
  wGuard t36 true H (fun k => wGet (load1 t40 H) H k) fun t41 H =>
  wGuard t36 true H (fun k => wGet (lenS t41) H k) fun t42 H =>
  wGuard t36 true H (fun k => wGet (binA .lss t37 t42) H k) fun t43 H =>
  wGuard t28 false H (fun k => wGet (pickA t36 t43 (.val (.bool false))) H k) fun t44 H =>
  wGuard t28 false H (fun k => k t44 H) fun t45 H =>
  wGuard t45 true H (fun k => k (.ptrL 0 0 g) H) fun t46 H =>
  wGuard t45 true H (fun k => wGet (nilA t46) H k) fun t47 H =>
  wGuard t45 true H (fun k => wGet (faddr 0 t47) H k) fun t48 H =>
  wGuard t45 true H (fun k => wGet (load1 t48 H) H k) fun t49 H =>
  wGuard t45 true H (fun k => k (Z j) H) fun t50 H =>
  wGuard t45 true H (fun k => wGet (idxStr t49 t50) H k) fun t51 H =>
  wGuard t45 true H (fun k => wGet (binA .eql t51 (.val (.int .u8 48))) H k) fun t52 H =>
  wGuard t45 true H (fun k => k t52 H) fun t53 H =>
  wGuard t53 false H (fun k => k (.ptrL 0 0 g) H) fun t54 H =>
  wGuard t53 false H (fun k => wGet (nilA t54) H k) fun t55 H =>
  wGuard t53 false H (fun k => wGet (faddr 0 t55) H k) fun t56 H =>
  wGuard t53 false H (fun k => wGet (load1 t56 H) H k) fun t57 H =>
  wGuard t53 false H (fun k => k (Z j) H) fun t58 H =>
  wGuard t53 false H (fun k => wGet (idxStr t57 t58) H k) fun t59 H =>
  wGuard t53 false H (fun k => wGet (binA .eql t59 (.val (.int .u8 49))) H k) fun t60 H =>
  wGuard t45 true H (fun k => wGet (pickA t53 (.val (.bool true)) t60) H k) fun t61 H =>
  wGuard t28 false H (fun k => wGet (pickA t45 t61 (.val (.bool false))) H k) fun t62 H =>
  wGet (pickA t28 (.val (.bool true)) t62) H K := by
  simp only [nd0, Y1n, Y1o, Y1p, Y1q, Y1w, Y1x, Y1y, Y1z, Y20, Y21, Y28, Y2a, AV.cells?, Nat.reduceAdd, Nat.reduceMul]
  by_cases hl : j < s.length
  · have hat := at_some hl
    simp only [nd0, Y1n, Y1o, Y1p, Y1q, Y1w, Y1x, Y1y, Y1z, Y20, Y21, Y28, Y2a, AV.cells?, Nat.reduceAdd, Nat.reduceMul, decide_eq_true (show (j : Int) < (s.length : Int) by omega)]
    rw [idxS hl]
    simp only [nd0, Y1n, Y1o, Y1p, Y1q, Y1w, Y1x, Y1y, Y1z, Y20, Y21, Y28, Y2a, AV.cells?, Nat.reduceAdd, Nat.reduceMul]
    refine wCall.fx (B.r.ib stop11 s[j]) fun n2 => ?_
    simp only [nd0, Y1n, Y1o, Y1p, Y1q, Y1w, Y1x, Y1y, Y1z, Y20, Y21, Y28, Y2a, AV.cells?, Nat.reduceAdd, Nat.reduceMul]
    by_cases hm : s[j] ∈ stop11
    · simp only [nd0, Y1n, Y1o, Y1p, Y1q, Y1w, Y1x, Y1y, Y1z, Y20, Y21, Y28, Y2a, AV.cells?, Nat.reduceAdd, Nat.reduceMul, decide_eq_false (show ¬ idx stop11 s[j] < 0 from fun e => idx_neg.1 e hm)]
      by_cases hjk : k < j
      · simp only [nd0, Y1n, Y1o, Y1p, Y1q, Y1w, Y1x, Y1y, Y1z, Y20, Y21, Y28, Y2a, AV.cells?, Nat.reduceAdd, Nat.reduceMul, decide_eq_true (show (k : Int) < (j : Int) by omega), decide_eq_true (show (j : Int) < (s.length : Int) by omega)]
        rw [idxS hl]
        simp only [nd0, Y1n, Y1o, Y1p, Y1q, Y1w, Y1x, Y1y, Y1z, Y20, Y21, Y28, Y2a, AV.cells?, Nat.reduceAdd, Nat.reduceMul]
        by_cases h48 : (s[j].toNat : Int) = 48
        · simp only [nd0, Y1n, Y1o, Y1p, Y1q, Y1w, Y1x, Y1y, Y1z, Y20, Y21, Y28, Y2a, AV.cells?, Nat.reduceAdd, Nat.reduceMul, decide_eq_true h48]
          have e := (byk (n := 48) (by omega)).1 h48
          have : wc s k j = true := by simp only [wc, hat, e]; simp [stop9, hjk]
          rw [this] at h
          exact h _
        · simp only [nd0, Y1n, Y1o, Y1p, Y1q, Y1w, Y1x, Y1y, Y1z, Y20, Y21, Y28, Y2a, AV.cells?, Nat.reduceAdd, Nat.reduceMul, decide_eq_false h48]
          rw [idxS hl]
          simp only [nd0, Y1n, Y1o, Y1p, Y1q, Y1w, Y1x, Y1y, Y1z, Y20, Y21, Y28, Y2a, AV.cells?, Nat.reduceAdd, Nat.reduceMul]
          by_cases h49 : (s[j].toNat : Int) = 49
          · simp only [nd0, Y1n, Y1o, Y1p, Y1q, Y1w, Y1x, Y1y, Y1z, Y20, Y21, Y28, Y2a, AV.cells?, Nat.reduceAdd, Nat.reduceMul, decide_eq_true h49]
            have e := (byk (n := 49) (by omega)).1 h49
            have : wc s k j = true := by simp only [wc, hat, e]; simp [stop9, hjk]
            rw [this] at h
            exact h _
          · simp only [nd0, Y1n, Y1o, Y1p, Y1q, Y1w, Y1x, Y1y, Y1z, Y20, Y21, Y28, Y2a, AV.cells?, Nat.reduceAdd, Nat.reduceMul, decide_eq_false h49]
            have h9 : s[j] ∈ stop9 := (mem11.1 hm).resolve_right (by
              rintro (e | e)
              · exact h48 ((byk (n := 48) (by omega)).2 e)
              · exact h49 ((byk (n := 49) (by omega)).2 e))
            have : wc s k j = false := by simp only [wc, hat, decide_eq_true h9]; simp
            rw [this] at h
            exact h _
      · simp only [nd0, Y1n, Y1o, Y1p, Y1q, Y1w, Y1x, Y1y, Y1z, Y20, Y21, Y28, Y2a, AV.cells?, Nat.reduceAdd, Nat.reduceMul, decide_eq_false (show ¬ (k : Int) < (j : Int) by omega)]
        have : wc s k j = false := by
          simp only [wc, hat, decide_eq_false hjk]
          rcases mem11.1 hm with h9 | h9 | h9
          · simp [h9]
          · simp [h9]
          · simp [h9]
        rw [this] at h
        exact h _
    · simp only [nd0, Y1n, Y1o, Y1p, Y1q, Y1w, Y1x, Y1y, Y1z, Y20, Y21, Y28, Y2a, AV.cells?, Nat.reduceAdd, Nat.reduceMul, decide_eq_true (show idx stop11 s[j] < 0 from idx_neg.2 hm)]
      have : wc s k j = true := by
        simp only [wc, hat]
        have := fun e => hm (mem11.2 e)
        have h9 : s[j] ∉ stop9 := fun e => this (.inl e)
        have h48 : s[j] ≠ 48 := fun e => this (.inr (.inl e))
        have h49 : s[j] ≠ 49 := fun e => this (.inr (.inr e))
        simp [h9, h48, h49]
      rw [this] at h
      exact h _
  · have : wc s k j = false := by
      cases hw : wc s k j
      · rfl
      · exact absurd (wc_lt hw) hl
    rw [this] at h
    simp only [nd0, Y1n, Y1o, Y1p, Y1q, Y1w, Y1x, Y1y, Y1z, Y20, Y21, Y28, Y2a, AV.cells?, Nat.reduceAdd, Nat.reduceMul, decide_eq_false (show ¬ (j : Int) < (s.length : Int) by omega)]
    by_cases hjk : k < j
    · simp only [nd0, Y1n, Y1o, Y1p, Y1q, Y1w, Y1x, Y1y, Y1z, Y20, Y21, Y28, Y2a, AV.cells?, Nat.reduceAdd, Nat.reduceMul, decide_eq_true (show (k : Int) < (j : Int) by omega), decide_eq_false (show ¬ (j : Int) < (s.length : Int) by omega)]
      exact h _
    · simp only [nd0, Y1n, Y1o, Y1p, Y1q, Y1w, Y1x, Y1y, Y1z, Y20, Y21, Y28, Y2a, AV.cells?, Nat.reduceAdd, Nat.reduceMul, decide_eq_false (show ¬ (k : Int) < (j : Int) by omega)]
      exact h _
/-- the name at a place, if it may be one -/
theorem word_spec (B : ReadBodies E P) (s : Str) (i : Nat) (hi : i ≤ s.length) (hs : s.length < 1000000) : PC E P 145 2 (rd s i) (fun b g => [.ptrL b 0 g]) (fun r cs => match wordR s i with
    | .ok w j => r = .tup [S w, nilE] ∧ cs = rd s j
    | .no e p => r = .tup [S [], At e p] ∧ ∃ j, cs = rd s j) := by
  refine PC.of (fun _ _ => rfl) (rd_closed s i) ?_ fun n g R hR => B.word _ _ _ ?_
  · intro r cs h
    cases hw : wordR s i with
    | ok w j => rw [hw] at h; obtain ⟨rfl, rfl⟩ := h; exact ⟨⟨trivial, trivial, trivial⟩, rd_closed _ _⟩
    | no e p => rw [hw] at h; obtain ⟨rfl, j, rfl⟩ := h; exact ⟨⟨trivial, At_closed _ _, trivial⟩, rd_closed _ _⟩
  unfold F.pexpr_reader_word
  refine wCall.pc (b := 0) (blanks_spec B s i hi hs) rfl rfl ?_
  rintro r cs n ⟨rfl, rfl⟩
  have hk := skipTo_len hi
  have hid := skipTo_idem s i
  unfold wordR at hR
  generalize skipTo s i = k at hk hR hid
  refine wGet_some.2 (wGet_some.2 ⟨⟨Z k, by simp [load1, AH.cells, rd], ?_⟩⟩)
  have hwe := wEnd_ge s k k
  have hwl := wEnd_len (i := k) hk
  refine wLoop.one (fun m t H => ∃ j c, m = s.length - j ∧ k ≤ j ∧ j ≤ s.length ∧ wEnd s k j = wEnd s k k ∧ t = Z j ∧ H = ⟨[.cells g 2 [S s, Z k]], c⟩) (s.length - k) (gh1.mk ⟨k, n, rfl, Nat.le_refl _, hk, rfl, rfl, rfl⟩) ?_
  rintro m t H ⟨j, c, rfl, hkj, hj, he, rfl, rfl⟩
  refine word_cond B hkj hj hs fun c => ?_
  cases hw : wc s k j with
  | true =>
    have := wc_lt hw
    simp only [nd0, Y1n, Y1o, Y1p, Y1q, Y1w, Y1x, Y1y, Y1z, Y20, Y21, Y28, Y2a, AV.cells?, Nat.reduceAdd, Nat.reduceMul]
    rw [binA_succ (by omega)]
    simp only [nd0, Y1n, Y1o, Y1p, Y1q, Y1w, Y1x, Y1y, Y1z, Y20, Y21, Y28, Y2a, AV.cells?, Nat.reduceAdd, Nat.reduceMul]
    exact back1.mk (s.length - (j + 1)) (by omega) ⟨j + 1, c, rfl, by omega, by omega, by rw [← he, wEnd_step hw], rfl, rfl⟩
  | false =>
    simp only [nd0, Y1n, Y1o, Y1p, Y1q, Y1w, Y1x, Y1y, Y1z, Y20, Y21, Y28, Y2a, AV.cells?, Nat.reduceAdd, Nat.reduceMul]
    rw [wEnd_stop hw] at he
    rw [sliceS_S (l := k) (h := j) rfl rfl (by omega) (by omega) (by omega)]
    have hwd : (s.take ((j : Int)).toNat).drop ((k : Int)).toNat = wordAt s k := by
      rw [wordAt, ← he]; simp
    rw [hwd]
    simp only [nd0, Y1n, Y1o, Y1p, Y1q, Y1w, Y1x, Y1y, Y1z, Y20, Y21, Y28, Y2a, AV.cells?, Nat.reduceAdd, Nat.reduceMul, show (AV.val (.string ⟨#[]⟩)) = S [] from rfl]
    by_cases h1 : wordAt s k = []
    · rw [if_pos h1] at hR
      simp only [nd0, Y1n, Y1o, Y1p, Y1q, Y1w, Y1x, Y1y, Y1z, Y20, Y21, Y28, Y2a, AV.cells?, Nat.reduceAdd, Nat.reduceMul, decide_eq_true h1]
      refine wCall.pc (b := 0) (fail_spec B s k 3 hk hs) rfl rfl ?_
      rintro r cs n ⟨rfl, rfl⟩
      exact hR _ _ _ [] n (.same _) ⟨by rw [hid], _, rfl⟩
    · rw [if_neg h1] at hR
      simp only [nd0, Y1n, Y1o, Y1p, Y1q, Y1w, Y1x, Y1y, Y1z, Y20, Y21, Y28, Y2a, AV.cells?, Nat.reduceAdd, Nat.reduceMul, decide_eq_false h1]
      refine wCall.fx (Name_spec B.n (wordAt s k)) fun n => ?_
      simp only [nd0, Y1n, Y1o, Y1p, Y1q, Y1w, Y1x, Y1y, Y1z, Y20, Y21, Y28, Y2a, AV.cells?, Nat.reduceAdd, Nat.reduceMul]
      by_cases h2 : nameOk (wordAt s k) = false
      · rw [if_pos h2] at hR
        simp only [nd0, Y1n, Y1o, Y1p, Y1q, Y1w, Y1x, Y1y, Y1z, Y20, Y21, Y28, Y2a, AV.cells?, Nat.reduceAdd, Nat.reduceMul, h2]
        refine wCall.pc (b := 0) (fail_spec B s k 5 hk hs) rfl rfl ?_
        rintro r cs n ⟨rfl, rfl⟩
        exact hR _ _ _ [] n (.same _) ⟨by rw [hid], _, rfl⟩
      · rw [if_neg h2] at hR
        simp only [nd0, Y1n, Y1o, Y1p, Y1q, Y1w, Y1x, Y1y, Y1z, Y20, Y21, Y28, Y2a, AV.cells?, Nat.reduceAdd, Nat.reduceMul, show nameOk (wordAt s k) = true by simpa using h2]
        rw [store1_L rfl]
        simp only [nd0, Y1n, Y1o, Y1p, Y1q, Y1w, Y1x, Y1y, Y1z, Y20, Y21, Y28, Y2a, AV.cells?, Nat.reduceAdd, Nat.reduceMul, Nat.reduceLT]
        exact hR _ _ (rd s j) [] n (.same _) ⟨rfl, by rw [← he]⟩
end
end Go.Sc
