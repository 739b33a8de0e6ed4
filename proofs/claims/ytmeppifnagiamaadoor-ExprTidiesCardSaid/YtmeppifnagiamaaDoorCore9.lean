/- CONTRACTS: lists of numbers are compared, searched, copied. PLAIN LAWS of tables: numbering, rounds, blocks (no program in sight). PLAIN LAWS OF TABLES: the rounds end; in the table of blocks no two states are alike. PLAIN LAWS OF TABLES, MORE: states of one block tell the same; the table of blocks tells what its states do; the inputs that are told part states at the last one alone. CONTRACTS: package block: Check, number, rounds, Blocks. CONTRACTS: package block: Blocks, Tell; and the keep's helpers. CONTRACTS: package block: Least. (of the seat YtmeppifnagiamaaDoor) -/
import Derived.Test.YtmeppifnagiamaaDoorCore8
namespace Go.Sc
open Go
set_option linter.unusedSimpArgs false
set_option linter.unusedVariables false

def LI (l : List Int) : AV := Lm (fun z => Z z) l
def LLI (l : List (List Int)) : AV := Lm LI l
theorem LI_closed (l : List Int) : (LI l).closed := by simp [LI, Lm, AV.closed, closed_Z]
theorem LLI_closed (l : List (List Int)) : (LLI l).closed := by simp only [LLI, Lm, AV.closed]; exact closed_map LI_closed l
theorem LI_scalar (l : List Int) : (LI l).scalar = true := rfl
theorem mapZ_get {l : List Int} {i : Nat} (h : i < l.length) : (l.map fun z => Z z)[i]? = some (Z (l.getD i 0)) := by
  simp [List.getD, List.getElem?_eq_getElem h]
theorem mapL_get {l : List (List Int)} {i : Nat} (h : i < l.length) : (l.map LI)[i]? = some (LI (l.getD i [])) := by
  simp [List.getD, List.getElem?_eq_getElem h]
def idxO : Option Nat → Int
  | some i => i
  | none => -1

section
variable {E : Env} {P : Program}
theorem ACalls.slN1 {k : Nat} {cs : List AV} {len : Nat} {H : AH} {R : Kt} (h0 : len = 0 → ACalls E P k [nilS] H R) (h1 : ACalls E P k [.slF cs 0 len] H R) : ACalls E P k [.slN cs len] H R := fun c vs hH hv => by
  obtain ⟨v, rfl, hr⟩ := hv.one'
  simp only [VRel] at hr
  rcases hr with ⟨rfl, hl⟩ | ⟨p, cap, rfl, hl, hr⟩
  · exact h0 hl c _ hH (.one (by simp only [VRel]))
  · refine h1 c _ hH (.one ?_)
    simp only [VRel]
    exact ⟨p, cap, rfl, hl, hr.imp id fun ⟨b, o, hp, hc⟩ => ⟨b, o, by simpa using hp, hc⟩⟩

theorem Equal_spec (hB : Body2 E P 65 F.slices_Equal_Lint_int) (l l' : List Int) (hl : l.length < 4611686018427387904) : FX E P 65 [LI l, LI l'] (Bo (decide (l = l'))) := by
  refine FX.of' (by simp [AV.closedL, LI_closed]) (by simp [AV.closed]) fun n R hR => hB _ _ _ _ ?_
  unfold F.slices_Equal_Lint_int LI
  simp only [nd0, Y1n, Y1o, Y1p, Y1q, Y1w, Y1x, Y1y, Y1z, Y20, Y21, Y28, Y2a, AV.cells?, Nat.reduceAdd, Nat.reduceMul]
  by_cases hn : l.length = l'.length
  case neg =>
    simp only [nd0, Y1n, Y1o, Y1p, Y1q, Y1w, Y1x, Y1y, Y1z, Y20, Y21, Y28, Y2a, AV.cells?, Nat.reduceAdd, Nat.reduceMul, decide_eq_false (show ¬ ((l.length : Int) = l'.length) by omega)]
    exact hR _ _ (by rw [decide_eq_false (fun e => hn (by rw [e]))])
  simp only [nd0, Y1n, Y1o, Y1p, Y1q, Y1w, Y1x, Y1y, Y1z, Y20, Y21, Y28, Y2a, AV.cells?, Nat.reduceAdd, Nat.reduceMul, decide_eq_true (show ((l.length : Int) = l'.length) by omega)]
  refine wLoop.one (fun m i H => ∃ j : Nat, i = Z j ∧ j ≤ l.length ∧ m = l.length - j ∧ ∀ k, k < j → l[k]? = l'[k]?) l.length (gh1.mk ⟨0, rfl, by omega, rfl, by simp⟩) ?_
  rintro m i H ⟨j, rfl, hj, rfl, hp⟩
  by_cases hlt : j < l.length
  case neg =>
    have : j = l.length := by omega
    subst this
    simp only [nd0, Y1n, Y1o, Y1p, Y1q, Y1w, Y1x, Y1y, Y1z, Y20, Y21, Y28, Y2a, AV.cells?, Nat.reduceAdd, Nat.reduceMul, Int.lt_irrefl]
    refine hR _ _ ?_
    rw [decide_eq_true]
    refine List.ext_getElem? fun k => ?_
    by_cases hk : k < l.length
    · exact hp k hk
    · rw [List.getElem?_eq_none (by omega), List.getElem?_eq_none (by omega)]
  simp only [nd0, Y1n, Y1o, Y1p, Y1q, Y1w, Y1x, Y1y, Y1z, Y20, Y21, Y28, Y2a, AV.cells?, Nat.reduceAdd, Nat.reduceMul, decide_eq_true (show (j : Int) < (l.length : Int) by omega)]
  rw [iaddr_Nn hlt, iaddr_Nn (show j < l'.length by omega)]
  simp only [nd0, Y1n, Y1o, Y1p, Y1q, Y1w, Y1x, Y1y, Y1z, Y20, Y21, Y28, Y2a, AV.cells?, Nat.reduceAdd, Nat.reduceMul, mapZ_get hlt, mapZ_get (show j < l'.length by omega)]
  have e1 : l[j]? = some (l.getD j 0) := by simp [List.getD, List.getElem?_eq_getElem hlt]
  have e2 : l'[j]? = some (l'.getD j 0) := by simp [List.getD, List.getElem?_eq_getElem (show j < l'.length by omega)]
  by_cases he : l.getD j 0 = l'.getD j 0
  · simp only [nd0, Y1n, Y1o, Y1p, Y1q, Y1w, Y1x, Y1y, Y1z, Y20, Y21, Y28, Y2a, AV.cells?, Nat.reduceAdd, Nat.reduceMul, decide_eq_true he]
    rw [binA_succ (by omega)]
    simp only [nd0, Y1n, Y1o, Y1p, Y1q, Y1w, Y1x, Y1y, Y1z, Y20, Y21, Y28, Y2a, AV.cells?, Nat.reduceAdd, Nat.reduceMul]
    refine back1.mk (l.length - (j + 1)) (by omega) ⟨j + 1, rfl, by omega, rfl, fun k hk => ?_⟩
    by_cases hkj : k = j
    · subst hkj; rw [e1, e2, he]
    · exact hp k (by omega)
  · simp only [nd0, Y1n, Y1o, Y1p, Y1q, Y1w, Y1x, Y1y, Y1z, Y20, Y21, Y28, Y2a, AV.cells?, Nat.reduceAdd, Nat.reduceMul, decide_eq_false he]
    refine hR _ _ ?_
    rw [decide_eq_false]
    rintro rfl
    exact he rfl

/-- the first element of which so much holds -/
theorem IndexFunc_any {α : Type} {f : α → AV} {G : Env → Program → AV → AV → AH → Kt → Prop} {kk : Nat} (hG : G = F.slices_IndexFunc_Lint_int ∨ G = F.slices_IndexFunc_LLint_Lint) (hB : Body2 E P kk G) {k : Nat} {cs : List AV} {p : α → Bool} (hf : ∀ a, (f a).closed) (l : List α) (hl : l.length < 4611686018427387904) (hcs : AV.closedL cs)
    (hp : ∀ a ∈ l, FX E P k ([f a] ++ cs) (Bo (p a))) : FX E P kk [Lm f l, .fn k [] cs] (Z (idxO (l.findIdx? p))) := by
  refine FX.of' (by simp only [AV.closedL, Lm, AV.closed, and_true, true_and]; exact ⟨closed_map hf l, hcs⟩) (by simp [AV.closed]) fun n R hR => hB _ _ _ _ ?_
  have main : wLoop 1 (fun I1 => I1 (Z 0) ⟨[], n⟩) fun I1 t8 H =>
      wGet (binA .lss t8 (Z l.length)) H fun t9 H =>
      wIf t9 (
        wGet (iaddr 1 (Lm f l) t8) H fun t14 H =>
        wGet (load1 t14 H) H fun t15 H =>
        wCallV E P (.fn k [] cs) [t15] H fun t16 H =>
        wIf t16 (
          R t8 H) (
          wGet (binA .add t8 (.val (.int .i64 1))) H fun t18 H =>
          I1 t18 H)) (
        R (.val (.int .i64 (-1))) H) := by
    refine wLoop.one (fun m i H => ∃ pre rest, l = pre ++ rest ∧ i = Z pre.length ∧ m = rest.length ∧ ∀ a ∈ pre, p a = false) l.length (gh1.mk ⟨[], l, rfl, rfl, rfl, by simp⟩) ?_
    rintro m i H ⟨pre, rest, rfl, rfl, rfl, hpre⟩
    cases rest with
    | nil =>
      simp only [nd0, Y1n, Y1o, Y1p, Y1q, Y1w, Y1x, Y1y, Y1z, Y20, Y21, Y28, Y2a, AV.cells?, Nat.reduceAdd, Nat.reduceMul, List.append_nil, Int.lt_irrefl]
      refine hR _ _ ?_
      rw [List.append_nil, List.findIdx?_eq_none_iff.2 hpre]
      rfl
    | cons x rest =>
      simp only [nd0, Y1n, Y1o, Y1p, Y1q, Y1w, Y1x, Y1y, Y1z, Y20, Y21, Y28, Y2a, AV.cells?, Nat.reduceAdd, Nat.reduceMul, decide_eq_true (show (pre.length : Int) < ((pre ++ x :: rest).length : Int) by simp; omega)]
      rw [iaddr_Nn lt_mid]
      simp only [nd0, Y1n, Y1o, Y1p, Y1q, Y1w, Y1x, Y1y, Y1z, Y20, Y21, Y28, Y2a, AV.cells?, Nat.reduceAdd, Nat.reduceMul, at_mid]
      refine wCallV.fx (hp x (by simp)) fun n1 => ?_
      refine wIf.bool (fun h => ?_) fun h => ?_
      · refine hR _ _ ?_
        have : (pre ++ x :: rest).findIdx? p = some pre.length := by
          rw [List.findIdx?_append, List.findIdx?_eq_none_iff.2 hpre]
          simp [List.findIdx?_cons, h]
        rw [this]; rfl
      · rw [binA_succ (by simp at hl; omega)]
        simp only [nd0, Y1n, Y1o, Y1p, Y1q, Y1w, Y1x, Y1y, Y1z, Y20, Y21, Y28, Y2a, AV.cells?, Nat.reduceAdd, Nat.reduceMul]
        refine back1.mk rest.length (by simp) ⟨pre ++ [x], rest, by simp, by simp, rfl, fun a ha => ?_⟩
        rcases List.mem_append.1 ha with ha | ha
        · exact hpre a ha
        · simp at ha; subst ha; exact h
  rcases hG with rfl | rfl
  · unfold F.slices_IndexFunc_Lint_int
    simp only [nd0, Y1n, Y1o, Y1p, Y1q, Y1w, Y1x, Y1y, Y1z, Y20, Y21, Y28, Y2a, AV.cells?, Nat.reduceAdd, Nat.reduceMul]
    exact main
  · unfold F.slices_IndexFunc_LLint_Lint
    simp only [nd0, Y1n, Y1o, Y1p, Y1q, Y1w, Y1x, Y1y, Y1z, Y20, Y21, Y28, Y2a, AV.cells?, Nat.reduceAdd, Nat.reduceMul]
    exact main
theorem ContainsFunc_spec (hB : Body2 E P 59 F.slices_ContainsFunc_Lint_int) (hI : Body2 E P 66 F.slices_IndexFunc_Lint_int) {k : Nat} {cs : List AV} {p : Int → Bool} (l : List Int) (hl : l.length < 4611686018427387904) (hcs : AV.closedL cs)
    (hp : ∀ a ∈ l, FX E P k ([Z a] ++ cs) (Bo (p a))) : FX E P 59 [LI l, .fn k [] cs] (Bo (l.any p)) := by
  refine FX.of' (by simp only [AV.closedL, AV.closed, and_true, true_and]; exact ⟨LI_closed l, hcs⟩) (by simp [AV.closed]) fun n R hR => hB _ _ _ _ ?_
  unfold F.slices_ContainsFunc_Lint_int
  refine wCall.fx (IndexFunc_any (f := fun z => Z z) (.inl rfl) hI (fun _ => by simp [AV.closed]) l hl hcs hp) fun n => ?_
  simp only [nd0, Y1n, Y1o, Y1p, Y1q, Y1w, Y1x, Y1y, Y1z, Y20, Y21, Y28, Y2a, AV.cells?, Nat.reduceAdd, Nat.reduceMul]
  refine hR _ _ ?_
  cases hf : l.findIdx? p with
  | none =>
    rw [List.findIdx?_eq_none_iff] at hf
    have : l.any p = false := by rw [List.any_eq_false]; intro x hx; simp [hf x hx]
    rw [this]; rfl
  | some i =>
    rw [List.findIdx?_eq_some_iff_getElem] at hf
    obtain ⟨h1, h2, _⟩ := hf
    have : l.any p = true := by rw [List.any_eq_true]; exact ⟨_, List.getElem_mem h1, h2⟩
    rw [this]
    have : (0 : Int) ≤ idxO (some i) := by simp [idxO]
    rw [decide_eq_true this]
theorem Clone_spec (hB : Body1 E P 57 F.slices_Clone_Lint_int) (l : List Int) (hl : l.length < 4398046511104) : FX E P 57 [LI l] (LI l) := by
  refine FX.of (by simp [AV.closedL, LI_closed]) (LI_closed _) fun n R hR => ?_
  refine ACalls.slN1 (fun h0 => hB _ _ _ ?_) (hB _ _ _ ?_)
  · unfold F.slices_Clone_Lint_int
    simp only [nd0, Y1n, Y1o, Y1p, Y1q, Y1w, Y1x, Y1y, Y1z, Y20, Y21, Y28, Y2a, AV.cells?, Nat.reduceAdd, Nat.reduceMul]
    refine hR _ _ (.sub ?_)
    unfold LI Lm
    rw [h0]
    exact .nil
  · unfold F.slices_Clone_Lint_int
    simp only [nd0, Y1n, Y1o, Y1p, Y1q, Y1w, Y1x, Y1y, Y1z, Y20, Y21, Y28, Y2a, AV.cells?, Nat.reduceAdd, Nat.reduceMul]
    refine wNewS.T (l := []) rfl (.refl _) rfl ?_
    simp only [nd0, Y1n, Y1o, Y1p, Y1q, Y1w, Y1x, Y1y, Y1z, Y20, Y21, Y28, Y2a, AV.cells?, Nat.reduceAdd, Nat.reduceMul]
    refine wApp.gr (m := l.length) (new := l.map fun z => Z z) .mk rfl rfl (by simp [cellsOfA, subL, List.take_of_length_le]) (.refl _) (by simp [AV.scalar]) (by simp [mostBytes]; omega) fun z' x' c' hg' => ?_
    simp only [nd0, Y1n, Y1o, Y1p, Y1q, Y1w, Y1x, Y1y, Y1z, Y20, Y21, Y28, Y2a, AV.cells?, Nat.reduceAdd, Nat.reduceMul]
    refine hR _ _ (.sub ?_)
    have := hg'.sub
    simpa [LI, Lm] using this
end
end Go.Sc
namespace Go.Sc
open Go
set_option linter.unusedSimpArgs false
set_option linter.unusedVariables false
set_option linter.unnecessarySimpa false

def idxZ : Option Nat → Int
  | some i => i
  | none => -1
/-- the first one of 'n' -/
def IsFirst (n : Nat) (p : Nat → Bool) : Option Nat → Prop
  | some i => i < n ∧ p i = true ∧ ∀ j, j < i → p j = false
  | none => ∀ j, j < n → p j = false
theorem IsFirst.findIdx {α : Type} {l : List α} {p : α → Bool} {o : Option Nat} (h : IsFirst l.length (fun i => (l[i]?.map p).getD false) o) : l.findIdx? p = o := by
  cases o with
  | none =>
    rw [List.findIdx?_eq_none_iff]
    intro x hx
    obtain ⟨i, hi, rfl⟩ := List.getElem_of_mem hx
    have := h i hi
    simpa [hi] using this
  | some i =>
    obtain ⟨h1, h2, h3⟩ := h
    rw [List.findIdx?_eq_some_iff_getElem]
    refine ⟨h1, by simpa [h1] using h2, fun j hj => ?_⟩
    have := h3 j hj
    simpa [show j < l.length by omega] using this
/-- lists are numbered as they come: those that are seen, and the numbers -/
def numStep (s : List (List Int) × List Int) (l : List Int) : List (List Int) × List Int :=
  match s.1.findIdx? (fun x => decide (x = l)) with
  | some k => (s.1, s.2 ++ [(k : Int)])
  | none => (s.1 ++ [l], s.2 ++ [(s.1.length : Int)])
def numAll (t : List (List Int)) : List (List Int) × List Int := t.foldl numStep ([], [])
def number (t : List (List Int)) : List Int := (numAll t).2
theorem numStep_len (s : List (List Int) × List Int) (l : List Int) : (numStep s l).1.length ≤ s.1.length + 1 ∧ (numStep s l).2.length = s.2.length + 1 := by
  unfold numStep; split <;> simp
theorem numAll_len (t : List (List Int)) : (numAll t).1.length ≤ t.length ∧ (numAll t).2.length = t.length := by
  suffices h : ∀ (t : List (List Int)) s, (t.foldl numStep s).1.length ≤ s.1.length + t.length ∧ (t.foldl numStep s).2.length = s.2.length + t.length by
    simpa [numAll] using h t ([], [])
  intro t
  induction t with
  | nil => simp
  | cons l t ih =>
    intro s
    have h1 := ih (numStep s l)
    have h2 := numStep_len s l
    simp only [List.foldl_cons, List.length_cons]
    omega
theorem numAll_mem (t : List (List Int)) : ∀ l ∈ (numAll t).1, l ∈ t := by
  suffices h : ∀ (t : List (List Int)) s (q : List (List Int)), (∀ l ∈ s.1, l ∈ q) → ∀ l ∈ (t.foldl numStep s).1, l ∈ q ∨ l ∈ t by
    intro l hl
    rcases h t ([], []) [] (by simp) l hl with h | h
    · simp at h
    · exact h
  intro t
  induction t with
  | nil => intro s q hs l hl; exact .inl (hs l hl)
  | cons z t ih =>
    intro s q hs l hl
    rcases ih (numStep s z) (z :: q) (by
      intro l hl
      unfold numStep at hl
      split at hl
      · exact List.mem_cons_of_mem _ (hs l hl)
      · simp only [List.mem_append, List.mem_singleton] at hl
        rcases hl with hl | rfl
        · exact List.mem_cons_of_mem _ (hs l hl)
        · exact List.mem_cons_self) l hl with h | h
    · rcases List.mem_cons.1 h with rfl | h
      · exact .inr List.mem_cons_self
      · exact .inl h
    · exact .inr (List.mem_cons_of_mem _ h)
theorem numAll_take_succ {t : List (List Int)} {i : Nat} (hi : i < t.length) : numAll (t.take (i + 1)) = numStep (numAll (t.take i)) t[i] := by
  simp only [numAll]
  rw [List.take_succ_eq_append_getElem hi, List.foldl_append]
  rfl
/-- errors: a code, and a place -/
abbrev Err := Option (Nat × Option Nat)
structure Table where
  next : List (List Int)
  tells : List (List Int)
def checkAt (t : Table) (s : Nat) : Err :=
  if (t.next[s]?.getD []).length ≠ (t.next[0]?.getD []).length ∨ (t.tells[s]?.getD []).length ≠ (t.next[0]?.getD []).length then some (3, some s)
  else if (t.next[s]?.getD []).any (fun x => decide (x < 0) || decide (x ≥ t.next.length)) then some (2, some s)
  else none
def check (t : Table) : Err :=
  if t.next.length < 1 ∨ t.next.length > 500 ∨ (t.next[0]?.getD []).length > 64 then some (4, none)
  else if t.tells.length ≠ t.next.length then some (3, none)
  else (List.range t.next.length).findSome? (checkAt t)
theorem findSome_none_of {α β : Type} {f : α → Option β} {l : List α} (h : ∀ x ∈ l, f x = none) : l.findSome? f = none := by
  rw [List.findSome?_eq_none_iff]; exact h
theorem findSome_range {β : Type} {f : Nat → Option β} {n i : Nat} {y : β} (hi : i < n) (hpre : ∀ j, j < i → f j = none) (hy : f i = some y) : (List.range n).findSome? f = some y := by
  rw [List.findSome?_eq_some_iff]
  refine ⟨(List.range n).take i, i, (List.range n).drop (i + 1), ?_, hy, fun a ha => hpre a ?_⟩
  · have h : i < (List.range n).length := by simpa using hi
    have := List.take_append_drop i (List.range n)
    rw [List.drop_eq_getElem_cons h] at this
    simpa using this.symm
  · rw [List.take_range] at ha
    have := List.mem_range.1 ha
    omega
def cell (l : List Int) (i : Nat) : Int := l[i]?.getD 0
def row (t : List (List Int)) (i : Nat) : List Int := t[i]?.getD []
/-- what is told of a state: its block, and by each input what it tells, and the block to which it leads -/
def lineTo (t : Table) (now : List Int) (s i : Nat) : List Int := cell now s :: ((List.range i).map fun j => [cell (row t.tells s) j, cell now (cell (row t.next s) j).toNat]).flatten
def line (t : Table) (now : List Int) (s : Nat) : List Int := lineTo t now s (row t.next s).length
def stepR (t : Table) (now : List Int) : List Int := number ((List.range t.next.length).map (line t now))
def iter (t : Table) : Nat → List Int
  | 0 => List.replicate t.next.length 0
  | k + 1 => stepR t (iter t k)
def IsLast (t : Table) (k : Nat) : Prop := iter t (k + 1) = iter t k ∧ ∀ j, j < k → iter t (j + 1) ≠ iter t j
theorem stepR_len (t : Table) (now : List Int) : (stepR t now).length = t.next.length := by
  have := (numAll_len ((List.range t.next.length).map (line t now))).2
  simpa [stepR, number] using this
theorem iter_len (t : Table) : ∀ k, (iter t k).length = t.next.length
  | 0 => by simp [iter]
  | k + 1 => stepR_len t _
/-- a table that may be -/
structure Good (t : Table) : Prop where
  pos : 1 ≤ t.next.length
  few : t.next.length ≤ 500
  wide : (row t.next 0).length ≤ 64
  tells : t.tells.length = t.next.length
  rows : ∀ s, s < t.next.length → (row t.next s).length = (row t.next 0).length ∧ (row t.tells s).length = (row t.next 0).length
  there : ∀ s, s < t.next.length → ∀ x ∈ row t.next s, 0 ≤ x ∧ x < t.next.length
theorem good_iff {t : Table} : check t = none ↔ Good t := by
  unfold check
  constructor
  · intro h
    split at h
    · cases h
    rename_i h1
    split at h
    · cases h
    rename_i h2
    rw [List.findSome?_eq_none_iff] at h
    have hs : ∀ s, s < t.next.length → ((row t.next s).length = (row t.next 0).length ∧ (row t.tells s).length = (row t.next 0).length) ∧ ∀ x ∈ row t.next s, 0 ≤ x ∧ x < t.next.length := by
      intro s hs
      have := h s (List.mem_range.2 hs)
      unfold checkAt at this
      split at this
      · cases this
      rename_i h3
      split at this
      · cases this
      rename_i h4
      refine ⟨by simp only [row]; omega, fun x hx => ?_⟩
      simp only [List.any_eq_true, Bool.or_eq_true, decide_eq_true_eq, not_exists, not_and] at h4
      have := h4 x hx
      omega
    exact ⟨by omega, by omega, by simp only [row]; omega, by simpa using h2, fun s h => (hs s h).1, fun s h => (hs s h).2⟩
  · intro g
    have := g.pos; have := g.few; have := g.tells
    rw [if_neg (by have := g.wide; simp only [row] at this; omega), if_neg (by omega)]
    apply findSome_none_of
    intro s hs
    have hs := List.mem_range.1 hs
    have h1 := g.rows s hs
    have h2 := g.there s hs
    simp only [row] at h1 h2
    unfold checkAt
    rw [if_neg (by omega), if_neg]
    simp only [List.any_eq_true, Bool.or_eq_true, decide_eq_true_eq, not_exists, not_and]
    intro x hx
    have := h2 x hx
    omega
theorem lineTo_succ (t : Table) (now : List Int) (s i : Nat) : lineTo t now s (i + 1) = lineTo t now s i ++ [cell (row t.tells s) i, cell now (cell (row t.next s) i).toNat] := by
  simp [lineTo, List.range_succ]
theorem lineTo_len (t : Table) (now : List Int) (s i : Nat) : (lineTo t now s i).length = 1 + 2 * i := by
  induction i with
  | zero => simp [lineTo]
  | succ i ih => rw [lineTo_succ]; simp [ih]; omega
def fewB (t : Table) (m : Int) : Bool := decide ((t.next.length : Int) ≤ m) && (decide (t.tells.length ≤ 500) && (decide (t.next.length = 0) || decide ((row t.next 0).length ≤ 16)))
/-- that the rounds end (told in plain Lean elsewhere) -/
def Ends (t : Table) : Prop := Good t → ∃ K, K < 1000000 ∧ IsLast t K
theorem IsLast.uniq {t : Table} {j k : Nat} (hj : IsLast t j) (hk : IsLast t k) : j = k := by
  rcases Nat.lt_trichotomy j k with h | h | h
  · exact absurd hj.1 (hk.2 j h)
  · exact h
  · exact absurd hk.1 (hj.2 k h)
/-- the first state of each block -/
def repsTo (l : List Int) : Nat → List Nat
  | 0 => []
  | i + 1 => if cell l i < (repsTo l i).length then repsTo l i else repsTo l i ++ [i]
def leastTo (t : Table) (l : List Int) (i : Nat) : Table := ⟨(repsTo l i).map fun s => (row t.next s).map fun y => cell l y.toNat, (repsTo l i).map (row t.tells)⟩
def leastT (t : Table) (l : List Int) : Table := leastTo t l t.next.length
theorem repsTo_len (l : List Int) : ∀ i, (repsTo l i).length ≤ i
  | 0 => by simp [repsTo]
  | i + 1 => by
    have := repsTo_len l i
    simp only [repsTo]; split <;> simp <;> omega
/-- does input 'i' part two states 'k' rounds before the end? -/
def parts (t : Table) (k : Nat) (a b i : Nat) : Bool :=
  (decide (k = 1) && decide (cell (row t.tells a) i ≠ cell (row t.tells b) i)) || (decide (k > 1) && decide (cell (iter t (k - 1)) (cell (row t.next a) i).toNat ≠ cell (iter t (k - 1)) (cell (row t.next b) i).toNat))
def partFrom (t : Table) : Nat → Nat → Nat → List Int → List Int
  | 0, _, _, out => out
  | k + 1, a, b, out => match (List.range (row t.next a).length).find? (parts t (k + 1) a b) with
    | some i => partFrom t k (cell (row t.next a) i).toNat (cell (row t.next b) i).toNat (out ++ [(i : Int)])
    | none => partFrom t k a b out
def t0 : Table := ⟨[[1], [0], [0]], [[5], [5], [6]]⟩
theorem t0_check : check t0 = none := by decide
theorem t0_last : IsLast t0 1 := by
  refine ⟨by decide, fun j hj => ?_⟩
  have : j = 0 := by omega
  subst this
  decide
/-- what a table tells of inputs -/
def tellFrom (t : Table) : Int → List Int → List Int
  | _, [] => []
  | s, i :: l => cell (row t.tells s.toNat) i.toNat :: tellFrom t (cell (row t.next s.toNat) i.toNat) l
def TellOk (t : Table) (s : Int) (l : List Int) : Prop := 0 ≤ s ∧ s < t.next.length ∧ ∀ i ∈ l, 0 ≤ i ∧ i < (row t.next 0).length
theorem tellFrom_snoc (t : Table) : ∀ (l : List Int) (s : Int) (i : Int), tellFrom t s (l ++ [i]) = tellFrom t s l ++ [cell (row t.tells (l.foldl (fun s i => cell (row t.next s.toNat) i.toNat) s).toNat) i.toNat]
  | [], s, i => rfl
  | x :: l, s, i => by simp only [List.cons_append, tellFrom, List.foldl_cons]; rw [tellFrom_snoc t l]
theorem tellFrom_len (t : Table) : ∀ (l : List Int) (s : Int), (tellFrom t s l).length = l.length
  | [], _ => rfl
  | x :: l, s => by simp [tellFrom, tellFrom_len t l]
/-- where inputs lead -/
def goTo (t : Table) (s : Int) (l : List Int) : Int := l.foldl (fun s i => cell (row t.next s.toNat) i.toNat) s
theorem goTo_snoc (t : Table) (s : Int) (l : List Int) (i : Int) : goTo t s (l ++ [i]) = cell (row t.next (goTo t s l).toNat) i.toNat := by simp [goTo]
theorem Good.next_in {t : Table} (hg : Good t) {s : Nat} (hs : s < t.next.length) {i : Nat} (hi : i < (row t.next 0).length) : 0 ≤ cell (row t.next s) i ∧ cell (row t.next s) i < t.next.length := by
  have hi' : i < (row t.next s).length := by rw [(hg.rows s hs).1]; exact hi
  have : (row t.next s)[i] ∈ row t.next s := List.getElem_mem hi'
  exact hg.there s hs _ (by simpa [cell, hi'] using this)
end Go.Sc
namespace Go.Sc
open Go
set_option linter.unnecessarySimpa false
set_option linter.unusedSimpArgs false

/-! ### numbers as they come -/
structure NumInv (t : List (List Int)) (s : List (List Int) × List Int) : Prop where
  len : s.2.length = t.length
  idx : ∀ j, j < t.length → ∃ k : Nat, s.2[j]? = some (k : Int) ∧ s.1[k]? = t[j]?
  nodup : s.1.Nodup
  new : ∀ j, j < t.length → ∀ v : Nat, ∀ k : Nat, s.2[j]? = some (k : Int) → v < k → ∃ j', j' < j ∧ s.2[j']? = some (v : Int)
  all : ∀ v, v < s.1.length → ∃ j, j < t.length ∧ s.2[j]? = some (v : Int)

theorem numInv_step {t : List (List Int)} {s : List (List Int) × List Int} (h : NumInv t s) (l : List Int) : NumInv (t ++ [l]) (numStep s l) := by
  unfold numStep
  cases hf : s.1.findIdx? (fun x => decide (x = l)) with
  | some k =>
    rw [List.findIdx?_eq_some_iff_getElem] at hf
    obtain ⟨hk, hkl, _⟩ := hf
    have hkl : s.1[k] = l := by simpa using hkl
    have hget : ∀ j, j < t.length → (s.2 ++ [(k : Int)])[j]? = s.2[j]? := fun j hj => List.getElem?_append_left (by rw [h.len]; exact hj)
    refine ⟨by simp [h.len], fun j hj => ?_, h.nodup, fun j hj v k' hk' hv => ?_, fun v hv => ?_⟩
    · by_cases hjt : j < t.length
      · obtain ⟨k', h1, h2⟩ := h.idx j hjt
        exact ⟨k', by simp only; rw [hget j hjt]; exact h1, by rw [List.getElem?_append_left hjt]; exact h2⟩
      · have : j = t.length := by simp at hj; omega
        subst this
        exact ⟨k, by simp [← h.len], by simp [List.getElem?_eq_getElem hk, hkl]⟩
    · simp only at hk'
      by_cases hjt : j < t.length
      · rw [hget j hjt] at hk'
        obtain ⟨j', h1, h2⟩ := h.new j hjt v k' hk' hv
        exact ⟨j', h1, by simp only; rw [hget j' (by omega)]; exact h2⟩
      · have : j = t.length := by simp at hj; omega
        subst this
        rw [← h.len] at hk'
        simp at hk'
        obtain ⟨j', h1, h2⟩ := h.all v (by omega)
        exact ⟨j', h1, by simp only; rw [hget j' h1]; exact h2⟩
    · obtain ⟨j', h1, h2⟩ := h.all v hv
      exact ⟨j', by simp; omega, by simp only; rw [hget j' h1]; exact h2⟩
  | none =>
    rw [List.findIdx?_eq_none_iff] at hf
    have hnot : l ∉ s.1 := fun hm => by simpa using hf l hm
    have hget : ∀ j, j < t.length → (s.2 ++ [(s.1.length : Int)])[j]? = s.2[j]? := fun j hj => List.getElem?_append_left (by rw [h.len]; exact hj)
    refine ⟨by simp [h.len], fun j hj => ?_, ?_, fun j hj v k' hk' hv => ?_, fun v hv => ?_⟩
    · by_cases hjt : j < t.length
      · obtain ⟨k', h1, h2⟩ := h.idx j hjt
        refine ⟨k', by simp only; rw [hget j hjt]; exact h1, ?_⟩
        have hk' : k' < s.1.length := by
          rw [List.getElem?_eq_getElem hjt] at h2
          exact lt_of_get h2
        rw [List.getElem?_append_left hjt]
        simp only
        rw [List.getElem?_append_left hk']; exact h2
      · have : j = t.length := by simp at hj; omega
        subst this
        exact ⟨s.1.length, by simp [← h.len], by simp⟩
    · rw [List.nodup_append]
      refine ⟨h.nodup, by simp, ?_⟩
      intro a ha b hb
      simp at hb; subst hb
      rintro rfl; exact hnot ha
    · simp only at hk'
      by_cases hjt : j < t.length
      · rw [hget j hjt] at hk'
        obtain ⟨j', h1, h2⟩ := h.new j hjt v k' hk' hv
        exact ⟨j', h1, by simp only; rw [hget j' (by omega)]; exact h2⟩
      · have : j = t.length := by simp at hj; omega
        subst this
        rw [← h.len] at hk'
        simp at hk'
        obtain ⟨j', h1, h2⟩ := h.all v (by omega)
        exact ⟨j', h1, by simp only; rw [hget j' h1]; exact h2⟩
    · by_cases hvl : v < s.1.length
      · obtain ⟨j', h1, h2⟩ := h.all v hvl
        exact ⟨j', by simp; omega, by simp only; rw [hget j' h1]; exact h2⟩
      · have : v = s.1.length := by simp at hv; omega
        subst this
        exact ⟨t.length, by simp, by simp [← h.len]⟩
theorem numInv_take (t : List (List Int)) : ∀ i, i ≤ t.length → NumInv (t.take i) (numAll (t.take i))
  | 0, _ => by
    simp only [List.take_zero, numAll, List.foldl_nil]
    exact ⟨rfl, by simp, List.nodup_nil, by simp, by simp⟩
  | i + 1, hi => by
    rw [numAll_take_succ (by omega), List.take_succ_eq_append_getElem (by omega)]
    exact numInv_step (numInv_take t i (by omega)) _
theorem numInv (t : List (List Int)) : NumInv t (numAll t) := by
  have := numInv_take t t.length (Nat.le_refl _)
  rwa [List.take_length] at this

/-- numbers that come in order -/
structure Canon (u : List Int) : Prop where
  nat : ∀ i, i < u.length → ∃ k : Nat, u[i]? = some (k : Int)
  new : ∀ i, i < u.length → ∀ v k : Nat, u[i]? = some (k : Int) → v < k → ∃ j, j < i ∧ u[j]? = some (v : Int)
theorem number_canon (t : List (List Int)) : Canon (number t) := by
  have h := numInv t
  have hl : (number t).length = t.length := h.len
  exact ⟨fun i hi => by obtain ⟨k, h1, _⟩ := h.idx i (by omega); exact ⟨k, h1⟩, fun i hi v k => h.new i (by omega) v k⟩
theorem number_same {t : List (List Int)} {i j : Nat} (hi : i < t.length) (hj : j < t.length) : (number t)[i]? = (number t)[j]? ↔ t[i]? = t[j]? := by
  have h := numInv t
  obtain ⟨k, h1, h2⟩ := h.idx i hi
  obtain ⟨k', h3, h4⟩ := h.idx j hj
  show (numAll t).2[i]? = (numAll t).2[j]? ↔ _
  rw [h1, h3, ← h2, ← h4]
  have hk : k < (numAll t).1.length := by rw [List.getElem?_eq_getElem hi] at h2; exact lt_of_get h2
  have hk' : k' < (numAll t).1.length := by rw [List.getElem?_eq_getElem hj] at h4; exact lt_of_get h4
  constructor
  · intro e
    injection e with e
    have : k = k' := by omega
    rw [this]
  · intro e
    rw [List.getElem?_eq_getElem hk, List.getElem?_eq_getElem hk'] at e
    injection e with e
    have := (List.getElem_inj h.nodup).1 e
    rw [this]
/-- such numbers are told by who is alike -/
theorem canon_eq {u v : List Int} (hu : Canon u) (hv : Canon v) (hl : u.length = v.length) (h : ∀ i j, i < u.length → j < u.length → (u[i]? = u[j]? ↔ v[i]? = v[j]?)) : u = v := by
  apply List.ext_getElem?
  intro i
  induction i using Nat.strongRecOn with
  | _ i ih =>
    by_cases hi : i < u.length
    case neg => rw [List.getElem?_eq_none (by omega), List.getElem?_eq_none (by omega)]
    have hi' : i < v.length := by omega
    obtain ⟨k, hk⟩ := hu.nat i hi
    obtain ⟨k', hk'⟩ := hv.nat i hi'
    have key : k = k' := by
      rcases Nat.lt_trichotomy k k' with hlt | he | hlt
      · obtain ⟨j, hj, hjv⟩ := hv.new i hi' k k' hk' hlt
        have h1 := ih j hj
        have : v[i]? = v[j]? := (h i j hi (by omega)).1 (by rw [h1, hjv, hk])
        rw [hk', hjv] at this
        injection this with this; omega
      · exact he
      · obtain ⟨j, hj, hjv⟩ := hu.new i hi k' k hk hlt
        have h1 := ih j hj
        have : u[i]? = u[j]? := (h i j hi (by omega)).2 (by rw [← h1, hjv, hk'])
        rw [hk, hjv] at this
        injection this with this; omega
    rw [hk, hk', key]

/-! ### rounds -/
theorem iter_canon {t : Table} : ∀ k, Canon (iter t k)
  | 0 => by
    refine ⟨fun i hi => ⟨0, ?_⟩, fun i hi v k hk hv => ?_⟩
    · have : i < t.next.length := by simpa [iter] using hi
      simp [iter, this]
    · simp only [iter] at hi hk
      have : i < t.next.length := by simpa using hi
      simp [this] at hk; omega
  | k + 1 => number_canon _
theorem cell_get {l : List Int} {i : Nat} (hi : i < l.length) : l[i]? = some (cell l i) := by simp [cell, hi]
theorem cell_eq_iff {l : List Int} {i j : Nat} (hi : i < l.length) (hj : j < l.length) : l[i]? = l[j]? ↔ cell l i = cell l j := by rw [cell_get hi, cell_get hj]; simp
theorem stepR_same {t : Table} {now : List Int} {i j : Nat} (hi : i < t.next.length) (hj : j < t.next.length) : cell (stepR t now) i = cell (stepR t now) j ↔ line t now i = line t now j := by
  rw [← cell_eq_iff (by rw [stepR_len]; exact hi) (by rw [stepR_len]; exact hj)]
  simp only [stepR]
  rw [number_same (by simpa using hi) (by simpa using hj)]
  simp [hi, hj]
theorem lineTo_same {t : Table} {now : List Int} {s s' : Nat} : ∀ w, lineTo t now s w = lineTo t now s' w ↔ cell now s = cell now s' ∧ ∀ i, i < w → cell (row t.tells s) i = cell (row t.tells s') i ∧ cell now (cell (row t.next s) i).toNat = cell now (cell (row t.next s') i).toNat
  | 0 => by simp [lineTo]
  | w + 1 => by
    rw [lineTo_succ, lineTo_succ]
    constructor
    · intro h
      have h := List.append_inj h (by rw [lineTo_len, lineTo_len])
      obtain ⟨h1, h2⟩ := (lineTo_same w).1 h.1
      refine ⟨h1, fun i hi => ?_⟩
      by_cases hw : i < w
      · exact h2 i hw
      · have : i = w := by omega
        subst this
        have := h.2
        simp at this
        exact this
    · rintro ⟨h1, h2⟩
      rw [(lineTo_same w).2 ⟨h1, fun i hi => h2 i (by omega)⟩, (h2 w (by omega)).1, (h2 w (by omega)).2]
theorem line_same {t : Table} (hg : Good t) {now : List Int} {s s' : Nat} (hs : s < t.next.length) (hs' : s' < t.next.length) :
    line t now s = line t now s' ↔ cell now s = cell now s' ∧ ∀ i, i < (row t.next 0).length → cell (row t.tells s) i = cell (row t.tells s') i ∧ cell now (cell (row t.next s) i).toNat = cell now (cell (row t.next s') i).toNat := by
  rw [line, line, (hg.rows s hs).1, (hg.rows s' hs').1, lineTo_same]

/-- pairs that are alike -/
def alike (u : List Int) (n : Nat) : Nat := (((List.range n).map fun i => (List.range n).map fun j => (i, j)).flatten).countP fun p => decide (u[p.1]? = u[p.2]?)
theorem countP_lt {α : Type} {p q : α → Bool} : ∀ {l : List α}, (∀ x ∈ l, p x = true → q x = true) → (∃ x ∈ l, q x = true ∧ p x = false) → l.countP p < l.countP q
  | [], _, h => by simp at h
  | y :: l, h, ⟨x, hx, h1, h2⟩ => by
    have hle : l.countP p ≤ l.countP q := List.countP_mono_left fun z hz hpz => h z (List.mem_cons_of_mem _ hz) hpz
    rcases List.mem_cons.1 hx with rfl | hx
    · simp [List.countP_cons, h1, h2]; omega
    · have := countP_lt (l := l) (fun z hz => h z (List.mem_cons_of_mem _ hz)) ⟨x, hx, h1, h2⟩
      have hy := h y List.mem_cons_self
      simp only [List.countP_cons]
      cases hp : p y <;> cases hq : q y <;> simp_all <;> omega
theorem alike_le (u : List Int) (n : Nat) : alike u n ≤ n * n := by
  have h : (((List.range n).map fun i => (List.range n).map fun j => (i, j)).flatten).length = n * n := by
    rw [List.length_flatten, List.map_map]
    have : ((List.length : List (Nat × Nat) → Nat) ∘ fun (i : Nat) => (List.range n).map fun j => (i, j)) = fun _ => n := by funext i; simp
    rw [this, List.map_const', List.sum_replicate_nat, List.length_range]
  rw [← h]
  exact List.countP_le_length
theorem alike_lt {t : Table} {k : Nat} (h : iter t (k + 1) ≠ iter t k) : alike (iter t (k + 1)) t.next.length < alike (iter t k) t.next.length := by
  have himp : ∀ i j, i < t.next.length → j < t.next.length → (iter t (k + 1))[i]? = (iter t (k + 1))[j]? → (iter t k)[i]? = (iter t k)[j]? := by
    intro i j hi hj he
    rw [cell_eq_iff (by rw [iter_len]; exact hi) (by rw [iter_len]; exact hj)] at he ⊢
    have := (stepR_same (now := iter t k) hi hj).1 he
    simp only [line, lineTo] at this
    injection this
  have hex : ∃ i j, i < t.next.length ∧ j < t.next.length ∧ (iter t k)[i]? = (iter t k)[j]? ∧ ¬ (iter t (k + 1))[i]? = (iter t (k + 1))[j]? := by
    apply Classical.byContradiction
    intro hno
    apply h
    refine canon_eq (iter_canon _) (iter_canon _) (by rw [iter_len, iter_len]) fun i j hi hj => ⟨himp i j (by rwa [iter_len] at hi) (by rwa [iter_len] at hj), fun he => ?_⟩
    apply Classical.byContradiction
    intro hne
    exact hno ⟨i, j, by rwa [iter_len] at hi, by rwa [iter_len] at hj, he, hne⟩
  obtain ⟨i, j, hi, hj, h1, h2⟩ := hex
  refine countP_lt (fun x hx hp => ?_) ⟨(i, j), ?_, by simpa using h1, by simpa using h2⟩
  · simp only [List.mem_flatten, List.mem_map, List.mem_range] at hx
    obtain ⟨_, ⟨a, ha, rfl⟩, hx⟩ := hx
    simp only [List.mem_map, List.mem_range] at hx
    obtain ⟨b, hb, rfl⟩ := hx
    simp only [decide_eq_true_eq] at hp ⊢
    exact himp a b ha hb hp
  · simp only [List.mem_flatten, List.mem_map, List.mem_range]
    exact ⟨_, ⟨i, hi, rfl⟩, by simp [hj]⟩
/-- the rounds end -/
theorem ends (t : Table) : Ends t := by
  intro hg
  have hn := hg.few
  have hex : ∃ k, k ≤ t.next.length * t.next.length ∧ iter t (k + 1) = iter t k := by
    apply Classical.byContradiction
    intro hno
    have hno : ∀ k, k ≤ t.next.length * t.next.length → iter t (k + 1) ≠ iter t k := fun k hk he => hno ⟨k, hk, he⟩
    have : ∀ k, k ≤ t.next.length * t.next.length + 1 → alike (iter t k) t.next.length + k ≤ t.next.length * t.next.length := by
      intro k
      induction k with
      | zero => intro _; simpa using alike_le _ _
      | succ k ih =>
        intro hk
        have := ih (by omega)
        have := alike_lt (hno k (by omega))
        omega
    have := this _ (Nat.le_refl _)
    omega
  obtain ⟨k, hk, hmin⟩ := exists_least (p := fun k => k ≤ t.next.length * t.next.length ∧ iter t (k + 1) = iter t k) hex
  refine ⟨k, ?_, hk.2, fun j hj he => hmin j hj ⟨by omega, he⟩⟩
  have : t.next.length * t.next.length ≤ 500 * 500 := Nat.mul_le_mul hn hn
  omega

/-! ### the table of blocks -/
/-- states that tell alike for ever are of one block -/
theorem coarsest {t : Table} (hg : Good t) (q : Nat → Nat → Prop) (hq : ∀ s s', s < t.next.length → s' < t.next.length → q s s' → ∀ i, i < (row t.next 0).length →
      cell (row t.tells s) i = cell (row t.tells s') i ∧ q (cell (row t.next s) i).toNat (cell (row t.next s') i).toNat) : ∀ k s s', s < t.next.length → s' < t.next.length → q s s' → cell (iter t k) s = cell (iter t k) s'
  | 0, s, s', hs, hs', h => by simp [iter, cell, hs, hs']
  | k + 1, s, s', hs, hs', h => by
    show cell (stepR t (iter t k)) s = cell (stepR t (iter t k)) s'
    rw [stepR_same hs hs', line_same hg hs hs']
    refine ⟨coarsest hg q hq k s s' hs hs' h, fun i hi => ?_⟩
    obtain ⟨h1, h2⟩ := hq s s' hs hs' h i hi
    have a1 := hg.there s hs (cell (row t.next s) i) (by
      have hi' : i < (row t.next s).length := by rw [(hg.rows s hs).1]; exact hi
      have : (row t.next s)[i] ∈ row t.next s := List.getElem_mem hi'
      simpa [cell, hi'] using this)
    have a2 := hg.there s' hs' (cell (row t.next s') i) (by
      have hi' : i < (row t.next s').length := by rw [(hg.rows s' hs').1]; exact hi
      have : (row t.next s')[i] ∈ row t.next s' := List.getElem_mem hi'
      simpa [cell, hi'] using this)
    exact ⟨h1, coarsest hg q hq k _ _ (by omega) (by omega) h2⟩

theorem last_same {t : Table} (hg : Good t) {K : Nat} (hK : IsLast t K) {s s' : Nat} (hs : s < t.next.length) (hs' : s' < t.next.length) (h : cell (iter t K) s = cell (iter t K) s') :
    ∀ i, i < (row t.next 0).length → cell (row t.tells s) i = cell (row t.tells s') i ∧ cell (iter t K) (cell (row t.next s) i).toNat = cell (iter t K) (cell (row t.next s') i).toNat := by
  have h' : cell (stepR t (iter t K)) s = cell (stepR t (iter t K)) s' := by
    have : stepR t (iter t K) = iter t K := hK.1
    rw [this]; exact h
  rw [stepR_same hs hs', line_same hg hs hs'] at h'
  exact h'.2

structure RepInv (l : List Int) (i : Nat) (r : List Nat) : Prop where
  pos : ∀ (k s : Nat), r[k]? = some s → s < i ∧ cell l s = (k : Int)
  lt : ∀ j, j < i → cell l j < r.length
theorem repInv {l : List Int} (hl : Canon l) : ∀ i, i ≤ l.length → RepInv l i (repsTo l i)
  | 0, _ => ⟨by simp [repsTo], by simp⟩
  | i + 1, hi => by
    have h := repInv hl i (by omega)
    obtain ⟨k, hk⟩ := hl.nat i (by omega)
    have hck : cell l i = k := by simp [cell, hk]
    simp only [repsTo]
    split
    · rename_i hlt
      exact ⟨fun k s hs => ⟨Nat.lt_succ_of_lt (h.pos k s hs).1, (h.pos k s hs).2⟩, fun j hj => by
        by_cases hji : j < i
        · exact h.lt j hji
        · have hji' : j = i := by omega
          subst hji'; exact hlt⟩
    · rename_i hlt
      have hke : cell l i = (repsTo l i).length := by
        rcases Nat.lt_trichotomy k (repsTo l i).length with h1 | h1 | h1
        · omega
        · omega
        · obtain ⟨j, hj, hjv⟩ := hl.new i (by omega) (repsTo l i).length k hk h1
          have := h.lt j hj
          simp [cell, hjv] at this
      refine ⟨fun k s hs => ?_, fun j hj => ?_⟩
      · by_cases hkl : k < (repsTo l i).length
        · rw [List.getElem?_append_left hkl] at hs
          exact ⟨Nat.lt_succ_of_lt (h.pos k s hs).1, (h.pos k s hs).2⟩
        · have hlt := lt_of_get hs
          simp at hlt
          have : k = (repsTo l i).length := by omega
          subst this
          simp at hs
          subst hs
          exact ⟨Nat.lt_succ_self _, hke⟩
      · simp only [List.length_append, List.length_cons, List.length_nil]
        by_cases hji : j < i
        · have := h.lt j hji; omega
        · have hji' : j = i := by omega
          subst hji'; omega

theorem range_canon (m : Nat) : Canon ((List.range m).map fun (i : Nat) => (i : Int)) := by
  have hg : ∀ i, i < m → ((List.range m).map fun (i : Nat) => (i : Int))[i]? = some (i : Int) := fun i hi => by simp [hi]
  refine ⟨fun i hi => ⟨i, hg i (by simpa using hi)⟩, fun i hi v k hk hv => ?_⟩
  have hi : i < m := by simpa using hi
  rw [hg i hi] at hk
  injection hk with hk
  exact ⟨v, by omega, hg v (by omega)⟩

/-- THE LAW: the table of blocks is a table; its blocks are its states; and there are no more -/
theorem least_law {t : Table} (hg : Good t) {K : Nat} (hK : IsLast t K) : Good (leastT t (iter t K)) ∧ (leastT t (iter t K)).next.length ≤ t.next.length ∧
    ∀ K', IsLast (leastT t (iter t K)) K' → iter (leastT t (iter t K)) K' = (List.range (leastT t (iter t K)).next.length).map fun (i : Nat) => (i : Int) := by
  have hcan := iter_canon (t := t) K
  have hlen := iter_len t K
  have hinv := repInv hcan t.next.length (by omega)
  generalize hr : repsTo (iter t K) t.next.length = r at hinv
  generalize hl : iter t K = l at *
  have hx : leastT t l = ⟨r.map fun s => (row t.next s).map fun y => cell l y.toNat, r.map (row t.tells)⟩ := by simp [leastT, leastTo, hr]
  have hrl : r.length ≤ t.next.length := by rw [← hr]; exact repsTo_len _ _
  have hn := hg.pos
  have hr0 : 1 ≤ r.length := by
    have h0 := hinv.lt 0 (by omega)
    obtain ⟨k, hk⟩ := hcan.nat 0 (by omega)
    have : cell l 0 = k := by simp [cell, hk]
    omega
  have hrow : ∀ k s, r[k]? = some s → row (leastT t l).next k = (row t.next s).map (fun y => cell l y.toNat) ∧ row (leastT t l).tells k = row t.tells s := by
    intro k s hs
    rw [hx]
    simp [row, hs]
  have hxl : (leastT t l).next.length = r.length := by rw [hx]; simp
  have hat : ∀ k, k < r.length → ∃ s, r[k]? = some s ∧ s < t.next.length ∧ cell l s = k := fun k hk => by
    have := hinv.pos k _ (List.getElem?_eq_getElem hk)
    exact ⟨_, List.getElem?_eq_getElem hk, this.1, this.2⟩
  obtain ⟨s0, h00, h01, _⟩ := hat 0 (by omega)
  have hw0 : (row (leastT t l).next 0).length = (row t.next 0).length := by rw [(hrow 0 s0 h00).1]; simp [(hg.rows s0 h01).1]
  have hgx : Good (leastT t l) := by
    refine ⟨by omega, by have := hg.few; omega, by rw [hw0]; exact hg.wide, by rw [hx]; simp, fun k hk => ?_, fun k hk x hxm => ?_⟩
    · obtain ⟨s, h1, h2, _⟩ := hat k (by omega)
      rw [hw0, (hrow k s h1).1, (hrow k s h1).2, List.length_map]
      exact hg.rows s h2
    · obtain ⟨s, h1, h2, _⟩ := hat k (by omega)
      rw [(hrow k s h1).1] at hxm
      simp only [List.mem_map] at hxm
      obtain ⟨y, hy, rfl⟩ := hxm
      have hyr := hg.there s h2 y hy
      have h3 := hinv.lt y.toNat (by omega)
      obtain ⟨k', hk'⟩ := hcan.nat y.toNat (by omega)
      have : cell l y.toNat = k' := by simp [cell, hk']
      omega
  refine ⟨hgx, by omega, fun K' hK' => ?_⟩
  have hlen' := iter_len (leastT t l) K'
  refine canon_eq (iter_canon _) (range_canon _) (by simp [hlen']) fun a b ha hb => ⟨fun he => ?_, fun he => ?_⟩
  case refine_2 =>
    rw [hlen'] at ha hb
    simp [ha, hb] at he
    have he : a = b := by omega
    rw [he]
  rw [hlen'] at ha hb
  rw [cell_eq_iff (by omega) (by omega)] at he
  obtain ⟨sa, h1, h2, h3⟩ := hat a (by omega)
  obtain ⟨sb, h4, h5, h6⟩ := hat b (by omega)
  -- what is alike in the table of blocks is alike in the table
  have hcellnat : ∀ s, s < t.next.length → ∃ k : Nat, cell l s = k ∧ k < r.length ∧ ∃ s', r[k]? = some s' ∧ s' < t.next.length ∧ cell l s' = cell l s := by
    intro s hs
    obtain ⟨k, hk⟩ := hcan.nat s (by omega)
    have hck : cell l s = k := by simp [cell, hk]
    have hlt := hinv.lt s hs
    obtain ⟨s', e1, e2, e3⟩ := hat k (by omega)
    exact ⟨k, hck, by omega, s', e1, e2, by omega⟩
  have key := coarsest hg (fun s s' => cell (iter (leastT t l) K') (cell l s).toNat = cell (iter (leastT t l) K') (cell l s').toNat) (by
    intro s s' hs hs' hq i hi
    obtain ⟨k, e1, e2, u, e3, e4, e5⟩ := hcellnat s hs
    obtain ⟨k', f1, f2, u', f3, f4, f5⟩ := hcellnat s' hs'
    have hq : cell (iter (leastT t l) K') k = cell (iter (leastT t l) K') k' := by rw [e1, f1] at hq; exact hq
    have h7 := last_same hgx hK' (by omega) (by omega) hq i (by rw [hw0]; exact hi)
    rw [(hrow k u e3).1, (hrow k u e3).2, (hrow k' u' f3).1, (hrow k' u' f3).2] at h7
    have hm : ∀ z, z < t.next.length → cell ((row t.next z).map fun y => cell l y.toNat) i = cell l (cell (row t.next z) i).toNat := by
      intro z hz
      have hi' : i < (row t.next z).length := by rw [(hg.rows z hz).1]; exact hi
      simp [cell, hi']
    rw [hm u e4, hm u' f4] at h7
    have hKl : ∀ z z', z < t.next.length → z' < t.next.length → cell l z = cell l z' → cell (row t.tells z) i = cell (row t.tells z') i ∧ cell l (cell (row t.next z) i).toNat = cell l (cell (row t.next z') i).toNat := by
      intro z z' hz hz' he
      have := last_same hg hK hz hz' (by rw [hl]; exact he) i hi
      rwa [hl] at this
    have g1 := hKl u s e4 hs e5
    have g2 := hKl u' s' f4 hs' f5
    exact ⟨by rw [← g1.1, ← g2.1]; exact h7.1, by rw [← g1.2, ← g2.2]; exact h7.2⟩) K sa sb h2 h5 (by rw [h3, h6]; exact he)
  rw [hl, h3, h6] at key
  have : a = b := by omega
  rw [this]
end Go.Sc
namespace Go.Sc
open Go
set_option linter.unusedSimpArgs false
set_option linter.unnecessarySimpa false

/-- states of one block tell the same of whatever comes -/
theorem tell_alike {t : Table} (hg : Good t) {K : Nat} (hK : IsLast t K) : ∀ (l : List Int) (s s' : Int), (∀ i ∈ l, 0 ≤ i ∧ i < (row t.next 0).length) → 0 ≤ s ∧ s < t.next.length → 0 ≤ s' ∧ s' < t.next.length → cell (iter t K) s.toNat = cell (iter t K) s'.toNat → tellFrom t s l = tellFrom t s' l
  | [], _, _, _, _, _, _ => rfl
  | i :: l, s, s', hl, hs, hs', he => by
    have hi := hl i List.mem_cons_self
    have h := last_same hg hK (s := s.toNat) (s' := s'.toNat) (by omega) (by omega) he i.toNat (by omega)
    simp only [tellFrom]
    rw [h.1, tell_alike hg hK l _ _ (fun j hj => hl j (List.mem_cons_of_mem _ hj)) (hg.next_in (by omega) (by omega)) (hg.next_in (by omega) (by omega)) h.2]

/-- rounds part more and more -/
theorem iter_apart {t : Table} {s s' : Nat} (hs : s < t.next.length) (hs' : s' < t.next.length) : ∀ {j k : Nat}, j ≤ k → cell (iter t k) s = cell (iter t k) s' → cell (iter t j) s = cell (iter t j) s' := by
  intro j k hjk
  induction k with
  | zero => intro h; have : j = 0 := by omega
            subst this; exact h
  | succ k ih =>
    intro h
    by_cases hj : j = k + 1
    · subst hj; exact h
    · refine ih (by omega) ?_
      have := (stepR_same (now := iter t k) hs hs').1 h
      simp only [line, lineTo] at this
      injection this

/-- THE INPUTS THAT PART: what two states that are parted in round 'k', and no earlier, tell of them -/
theorem part_tells {t : Table} (hg : Good t) : ∀ (k : Nat) (a b : Nat) (out : List Int), a < t.next.length → b < t.next.length → cell (iter t k) a ≠ cell (iter t k) b → (∀ j, j < k → cell (iter t j) a = cell (iter t j) b) →
    ∃ part : List Int, part.length = k ∧ partFrom t k a b out = out ++ part ∧ (∀ i ∈ part, 0 ≤ i ∧ i < (row t.next 0).length) ∧
      (0 < k → cell (tellFrom t a part) (k - 1) ≠ cell (tellFrom t b part) (k - 1) ∧ (tellFrom t a part).take (k - 1) = (tellFrom t b part).take (k - 1))
  | 0, a, b, out, ha, hb, hne, _ => by simp [iter, cell, ha, hb] at hne
  | k + 1, a, b, out, ha, hb, hne, hpre => by
    have hk := hpre k (Nat.lt_succ_self k)
    have hra := hg.rows a ha
    have hrb := hg.rows b hb
    -- an input that parts
    have hline : ¬ line t (iter t k) a = line t (iter t k) b := fun h => hne ((stepR_same ha hb).2 h)
    rw [line_same hg ha hb] at hline
    have hex : ∃ i, i < (row t.next 0).length ∧ ¬ (cell (row t.tells a) i = cell (row t.tells b) i ∧ cell (iter t k) (cell (row t.next a) i).toNat = cell (iter t k) (cell (row t.next b) i).toNat) := by
      apply Classical.byContradiction
      intro hno
      exact hline ⟨hk, fun i hi => Classical.byContradiction fun h => hno ⟨i, hi, h⟩⟩
    -- if k > 0, what is told is the same
    have htold : 0 < k → ∀ i, i < (row t.next 0).length → cell (row t.tells a) i = cell (row t.tells b) i := by
      intro hk0 i hi
      obtain ⟨k', rfl⟩ : ∃ k', k = k' + 1 := ⟨k - 1, by omega⟩
      have := (stepR_same (now := iter t k') ha hb).1 hk
      exact (((line_same hg ha hb).1 this).2 i hi).1
    have hparts : ∀ i, i < (row t.next 0).length → (parts t (k + 1) a b i = true ↔ ¬ (cell (row t.tells a) i = cell (row t.tells b) i ∧ cell (iter t k) (cell (row t.next a) i).toNat = cell (iter t k) (cell (row t.next b) i).toNat)) := by
      intro i hi
      have n1 := hg.next_in ha hi
      have n2 := hg.next_in hb hi
      by_cases hk0 : k = 0
      · subst hk0
        have h0 : ∀ s, s < t.next.length → cell (iter t 0) s = 0 := fun s hs => by simp [iter, cell, hs]
        simp [parts, h0 _ (show (cell (row t.next a) i).toNat < t.next.length by omega), h0 _ (show (cell (row t.next b) i).toNat < t.next.length by omega)]
      · have := htold (by omega) i hi
        simp [parts, hk0, this]
        omega
    have hfind : ∃ i, i < (row t.next 0).length ∧ (List.range (row t.next a).length).find? (parts t (k + 1) a b) = some i ∧ parts t (k + 1) a b i = true := by
      cases hf : (List.range (row t.next a).length).find? (parts t (k + 1) a b) with
      | none =>
        rw [List.find?_eq_none] at hf
        obtain ⟨i, hi, h⟩ := hex
        exact absurd ((hparts i hi).2 h) (hf i (List.mem_range.2 (by omega)))
      | some i =>
        have h1 := List.find?_some hf
        have h2 := List.mem_range.1 (List.mem_of_find?_eq_some hf)
        exact ⟨i, by omega, rfl, h1⟩
    obtain ⟨i, hi, hf, hp⟩ := hfind
    have hp' := (hparts i hi).1 hp
    have n1 := hg.next_in ha hi
    have n2 := hg.next_in hb hi
    simp only [partFrom, hf]
    by_cases hk0 : k = 0
    · subst hk0
      refine ⟨[(i : Int)], rfl, by simp [partFrom], by simp; omega, fun _ => ⟨?_, by simp⟩⟩
      have h0 : ∀ s, s < t.next.length → cell (iter t 0) s = 0 := fun s hs => by simp [iter, cell, hs]
      rw [h0 _ (by omega), h0 _ (by omega)] at hp'
      simp only [and_true] at hp'
      simpa [tellFrom, cell] using hp'
    · have ht := htold (by omega) i hi
      have hx : cell (iter t k) (cell (row t.next a) i).toNat ≠ cell (iter t k) (cell (row t.next b) i).toNat := fun h => hp' ⟨ht, h⟩
      have hpre' : ∀ j, j < k → cell (iter t j) (cell (row t.next a) i).toNat = cell (iter t j) (cell (row t.next b) i).toNat := by
        intro j hj
        have h := hpre (j + 1) (by omega)
        have := (stepR_same (now := iter t j) ha hb).1 h
        exact (((line_same hg ha hb).1 this).2 i hi).2
      obtain ⟨part, q1, q2, q3, q4⟩ := part_tells hg k _ _ (out ++ [(i : Int)]) (by omega) (by omega) hx hpre'
      obtain ⟨q5, q6⟩ := q4 (by omega)
      refine ⟨(i : Int) :: part, by simp [q1], by rw [q2]; simp, ?_, fun _ => ?_⟩
      · intro j hj
        rcases List.mem_cons.1 hj with rfl | hj
        · omega
        · exact q3 j hj
      · obtain ⟨k', rfl⟩ : ∃ k', k = k' + 1 := ⟨k - 1, by omega⟩
        have e1 : ((cell (row t.next a) i).toNat : Int) = cell (row t.next a) i := by omega
        have e2 : ((cell (row t.next b) i).toNat : Int) = cell (row t.next b) i := by omega
        rw [e1, e2] at q5 q6
        simp only [Nat.add_sub_cancel, tellFrom, Int.toNat_natCast] at q5 q6 ⊢
        refine ⟨?_, ?_⟩
        · simpa [cell] using q5
        · simp only [List.take_succ_cons]
          rw [ht, q6]

/-- the table of blocks tells what its states do -/
theorem least_tells {t : Table} (hg : Good t) {K : Nat} (hK : IsLast t K) : ∀ (l : List Int) (s : Int), (∀ i ∈ l, 0 ≤ i ∧ i < (row t.next 0).length) → 0 ≤ s ∧ s < t.next.length →
    tellFrom (leastT t (iter t K)) (cell (iter t K) s.toNat) l = tellFrom t s l
  | [], _, _, _ => rfl
  | i :: l, s, hl, hs => by
    have hi := hl i List.mem_cons_self
    have hcan := iter_canon (t := t) K
    have hlen := iter_len t K
    have hinv := repInv hcan t.next.length (by omega)
    obtain ⟨k, hk⟩ := hcan.nat s.toNat (by omega)
    have hck : cell (iter t K) s.toNat = k := by simp [cell, hk]
    have hlt := hinv.lt s.toNat (by omega)
    have hkr : k < (repsTo (iter t K) t.next.length).length := by omega
    have hrs := hinv.pos k _ (List.getElem?_eq_getElem hkr)
    generalize hr : (repsTo (iter t K) t.next.length)[k] = rep at hrs
    have hget : (repsTo (iter t K) t.next.length)[k]? = some rep := by rw [List.getElem?_eq_getElem hkr, hr]
    have h := last_same hg hK (s := rep) (s' := s.toNat) (by omega) (by omega) (by omega) i.toNat (by omega)
    have e1 : row (leastT t (iter t K)).tells (cell (iter t K) s.toNat).toNat = row t.tells rep := by
      rw [hck]; simp [leastT, leastTo, row, hget]
    have e2 : cell (row (leastT t (iter t K)).next (cell (iter t K) s.toNat).toNat) i.toNat = cell (iter t K) (cell (row t.next rep) i.toNat).toNat := by
      have hi' : i.toNat < (row t.next rep).length := by rw [(hg.rows rep hrs.1).1]; omega
      have : row (leastT t (iter t K)).next (cell (iter t K) s.toNat).toNat = (row t.next rep).map fun y => cell (iter t K) y.toNat := by
        rw [hck]; simp [leastT, leastTo, row, hget]
      rw [this]
      simp [cell, hi']
    simp only [tellFrom]
    rw [e1, e2, h.1, h.2, least_tells hg hK l _ (fun j hj => hl j (List.mem_cons_of_mem _ hj)) (hg.next_in (by omega) (by omega))]
/-- as many inputs -/
theorem least_wide {t : Table} (hg : Good t) {K : Nat} (hK : IsLast t K) : (row (leastT t (iter t K)).next 0).length = (row t.next 0).length := by
  have hgx := (least_law hg hK).1
  have hcan := iter_canon (t := t) K
  have hlen := iter_len t K
  have hinv := repInv hcan t.next.length (by omega)
  have h1 : 0 < (repsTo (iter t K) t.next.length).length := by
    have := hgx.pos
    simp [leastT, leastTo] at this
    omega
  have hrs := hinv.pos 0 _ (List.getElem?_eq_getElem h1)
  have : row (leastT t (iter t K)).next 0 = (row t.next (repsTo (iter t K) t.next.length)[0]).map fun y => cell (iter t K) y.toNat := by
    simp [leastT, leastTo, row, List.getElem?_eq_getElem h1]
  rw [this, List.length_map, (hg.rows _ hrs.1).1]
end Go.Sc
namespace Go.Sc
open Go
set_option linter.unusedSimpArgs false
set_option linter.unusedVariables false
set_option linter.unnecessarySimpa false

def errA : Err → AV
  | none => nilE
  | some (k, none) => .ifc 1 (Z k)
  | some (k, some s) => .ifc 2 (.ptrF [Z k, Z s] 0)
theorem errA_closed (e : Err) : (errA e).closed := by
  rcases e with _ | ⟨k, _ | s⟩ <;> simp [errA, AV.closed, AV.closedL]
/-- an error as the reference tells it -/
def failA : Err → AV
  | none => .agg [Z 0, Z (-1)]
  | some (k, none) => .agg [Z k, Z (-1)]
  | some (k, some s) => .agg [Z k, Z s]
theorem failA_closed (e : Err) : (failA e).closed := by
  rcases e with _ | ⟨k, _ | s⟩ <;> simp [failA, AV.closed, AV.closedL]
theorem errA_some {e : Err} (h : e ≠ none) : ∃ k a, errA e = .ifc k a := by
  rcases e with _ | ⟨k, _ | s⟩
  · exact absurd rfl h
  · exact ⟨_, _, rfl⟩
  · exact ⟨_, _, rfl⟩
def Tb (t : Table) : AV := .agg [LLI t.next, LLI t.tells]
theorem Tb_closed (t : Table) : (Tb t).closed := by simp [Tb, AV.closed, AV.closedL, LLI_closed]
/-- no slice is beyond what a machine holds -/
def Table.sized (t : Table) : Prop := t.next.length < 140737488355328 ∧ t.tells.length < 140737488355328 ∧ ∀ l ∈ t.next ++ t.tells, l.length < 140737488355328
theorem getD_row (l : List (List Int)) (i : Nat) : l.getD i [] = row l i := by simp [row, List.getD]
theorem getD_cell (l : List Int) (i : Nat) : l.getD i 0 = cell l i := by simp [cell, List.getD]

theorem lenA_LI (l : List Int) : lenA (LI l) = some (Z l.length) := rfl
theorem lenA_LLI (l : List (List Int)) : lenA (LLI l) = some (Z l.length) := rfl
theorem iaddr_LI {l : List Int} {k : IntKind} {i : Nat} (h : i < l.length) : iaddr 1 (LI l) (.val (.int k i)) = some (.ptrF (l.map fun z => Z z) i) := iaddr_Nn h
theorem iaddr_LLI {l : List (List Int)} {k : IntKind} {i : Nat} (h : i < l.length) : iaddr 1 (LLI l) (.val (.int k i)) = some (.ptrF (l.map LI) i) := iaddr_Nn h
theorem iaddr_LLI0 {l : List (List Int)} {k : IntKind} (h : 0 < l.length) : iaddr 1 (LLI l) (.val (.int k 0)) = some (.ptrF (l.map LI) 0) := iaddr_Nn h
theorem row_get {l : List (List Int)} {i : Nat} (h : i < l.length) : (l.map LI)[i]? = some (LI (row l i)) := by rw [mapL_get h, getD_row]
theorem cell_at {l : List Int} {i : Nat} (h : i < l.length) : (l.map fun z => Z z)[i]? = some (Z (cell l i)) := by rw [mapZ_get h, getD_cell]

structure BlockBodies (E : Env) (P : Program) : Prop where
  eq : Body2 E P 65 F.slices_Equal_Lint_int
  ixi : Body2 E P 66 F.slices_IndexFunc_Lint_int
  ixr : Body2 E P 61 F.slices_IndexFunc_LLint_Lint
  con : Body2 E P 59 F.slices_ContainsFunc_Lint_int
  check : Body1 E P 55 F.block_Check
  check1 : Body2 E P 63 F.block_Check_c1
  number : Body1 E P 64 F.block_number
  number1 : Body2 E P 71 F.block_number_c1
  rounds : Body1 E P 56 F.block_rounds

section
variable {E : Env} {P : Program}
theorem Check_c1_spec (B : BlockBodies E P) (x n : Int) : FX E P 63 [Z x, .ptrF [Z n] 0] (Bo (decide (x < 0) || decide (x ≥ n))) := by
  refine FX.of' (by simp [AV.closedL, AV.closed]) (by simp [AV.closed]) fun m R hR => B.check1 _ _ _ _ ?_
  unfold F.block_Check_c1
  simp only [nd0, Y1n, Y1o, Y1p, Y1q, Y1w, Y1x, Y1y, Y1z, Y20, Y21, Y28, Y2a, AV.cells?, Nat.reduceAdd, Nat.reduceMul]
  by_cases h : x < 0
  · simp only [nd0, Y1n, Y1o, Y1p, Y1q, Y1w, Y1x, Y1y, Y1z, Y20, Y21, Y28, Y2a, AV.cells?, Nat.reduceAdd, Nat.reduceMul, decide_eq_true h]
    exact hR _ _ (by simp [h])
  · simp only [nd0, Y1n, Y1o, Y1p, Y1q, Y1w, Y1x, Y1y, Y1z, Y20, Y21, Y28, Y2a, AV.cells?, Nat.reduceAdd, Nat.reduceMul, decide_eq_false h]
    exact hR _ _ (by simp [h])

theorem Check_specB (B : BlockBodies E P) (t : Table) (hl : t.sized) : FX E P 55 [Tb t] (errA (check t)) := by
  obtain ⟨hl1, hl2, hl3⟩ := hl
  refine FX.of (by simp [AV.closedL, Tb_closed]) (errA_closed _) fun n R hR => B.check _ _ _ ?_
  have ret : ∀ r H, r = errA (check t) → R r H := fun r H h => hR _ _ (h ▸ .same _)
  unfold F.block_Check Tb
  refine wNew.F' (l := [LLI t.next, LLI t.tells]) rfl ?_
  simp only [nd0, Y1n, Y1o, Y1p, Y1q, Y1w, Y1x, Y1y, Y1z, Y20, Y21, Y28, Y2a, AV.cells?, Nat.reduceAdd, Nat.reduceMul, lenA_LLI]
  refine wNew.L rfl ?_
  simp only [nd0, Y1n, Y1o, Y1p, Y1q, Y1w, Y1x, Y1y, Y1z, Y20, Y21, Y28, Y2a, AV.cells?, Nat.reduceAdd, Nat.reduceMul]
  rw [store1_L rfl]
  simp only [nd0, Y1n, Y1o, Y1p, Y1q, Y1w, Y1x, Y1y, Y1z, Y20, Y21, Y28, Y2a, AV.cells?, Nat.reduceAdd, Nat.reduceMul, Nat.reduceLT]
  by_cases c1 : (t.next.length : Int) < 1
  · simp only [nd0, Y1n, Y1o, Y1p, Y1q, Y1w, Y1x, Y1y, Y1z, Y20, Y21, Y28, Y2a, AV.cells?, Nat.reduceAdd, Nat.reduceMul, decide_eq_true c1]
    exact ret _ _ (by simp only [check]; rw [if_pos (by omega)]; rfl)
  simp only [nd0, Y1n, Y1o, Y1p, Y1q, Y1w, Y1x, Y1y, Y1z, Y20, Y21, Y28, Y2a, AV.cells?, Nat.reduceAdd, Nat.reduceMul, decide_eq_false c1]
  by_cases c2 : (500 : Int) < t.next.length
  · simp only [nd0, Y1n, Y1o, Y1p, Y1q, Y1w, Y1x, Y1y, Y1z, Y20, Y21, Y28, Y2a, AV.cells?, Nat.reduceAdd, Nat.reduceMul, decide_eq_true c2]
    exact ret _ _ (by simp only [check]; rw [if_pos (by omega)]; rfl)
  simp only [nd0, Y1n, Y1o, Y1p, Y1q, Y1w, Y1x, Y1y, Y1z, Y20, Y21, Y28, Y2a, AV.cells?, Nat.reduceAdd, Nat.reduceMul, decide_eq_false c2]
  have hpos : 0 < t.next.length := by omega
  simp only [nd0, Y1n, Y1o, Y1p, Y1q, Y1w, Y1x, Y1y, Y1z, Y20, Y21, Y28, Y2a, AV.cells?, Nat.reduceAdd, Nat.reduceMul, iaddr_LLI0 hpos, row_get hpos, lenA_LI]
  by_cases c3 : (64 : Int) < (row t.next 0).length
  · simp only [nd0, Y1n, Y1o, Y1p, Y1q, Y1w, Y1x, Y1y, Y1z, Y20, Y21, Y28, Y2a, AV.cells?, Nat.reduceAdd, Nat.reduceMul, decide_eq_true c3]
    exact ret _ _ (by simp only [check]; rw [if_pos (by simp only [row] at c3; omega)]; rfl)
  simp only [nd0, Y1n, Y1o, Y1p, Y1q, Y1w, Y1x, Y1y, Y1z, Y20, Y21, Y28, Y2a, AV.cells?, Nat.reduceAdd, Nat.reduceMul, decide_eq_false c3]
  by_cases c4 : (t.tells.length : Int) = t.next.length
  case neg =>
    simp only [nd0, Y1n, Y1o, Y1p, Y1q, Y1w, Y1x, Y1y, Y1z, Y20, Y21, Y28, Y2a, AV.cells?, Nat.reduceAdd, Nat.reduceMul, decide_eq_false c4]
    exact ret _ _ (by simp only [check]; rw [if_neg (by simp only [row] at c3; omega), if_pos (by omega)]; rfl)
  simp only [nd0, Y1n, Y1o, Y1p, Y1q, Y1w, Y1x, Y1y, Y1z, Y20, Y21, Y28, Y2a, AV.cells?, Nat.reduceAdd, Nat.reduceMul, decide_eq_true c4]
  have hchk : check t = (List.range t.next.length).findSome? (checkAt t) := by simp only [check]; rw [if_neg (by simp only [row] at c3; omega), if_neg (by omega)]
  refine wLoop.one (fun m x H => ∃ (i : Nat) (c : Nat), i + m = t.next.length ∧ x = Z i ∧ H = ⟨[.cells n 1 [Z t.next.length]], c⟩ ∧ ∀ j, j < i → checkAt t j = none) t.next.length (gh1.mk ⟨0, _, by simp, rfl, rfl, by simp⟩) ?_
  rintro m x H ⟨i, c, him, rfl, rfl, hpre⟩
  by_cases hi : i < t.next.length
  case neg =>
    have : i = t.next.length := by omega
    subst this
    simp only [nd0, Y1n, Y1o, Y1p, Y1q, Y1w, Y1x, Y1y, Y1z, Y20, Y21, Y28, Y2a, AV.cells?, Nat.reduceAdd, Nat.reduceMul, Int.lt_irrefl]
    refine ret _ _ ?_
    rw [hchk, findSome_none_of]
    · rfl
    · intro j hj
      exact hpre j (List.mem_range.1 hj)
  simp only [nd0, Y1n, Y1o, Y1p, Y1q, Y1w, Y1x, Y1y, Y1z, Y20, Y21, Y28, Y2a, AV.cells?, Nat.reduceAdd, Nat.reduceMul, decide_eq_true (show (i : Int) < (t.next.length : Int) by omega)]
  rw [iaddr_LLI hi]
  simp only [nd0, Y1n, Y1o, Y1p, Y1q, Y1w, Y1x, Y1y, Y1z, Y20, Y21, Y28, Y2a, AV.cells?, Nat.reduceAdd, Nat.reduceMul, row_get hi, lenA_LI, iaddr_LLI0 hpos, row_get hpos]
  have atE : ∀ (k : Nat) H, checkAt t i = some (k, some i) → R (.ifc 2 (.ptrF [Z k, Z i] 0)) H := fun k H h => ret _ _ (by rw [hchk, findSome_range hi hpre h]; rfl)
  by_cases c5 : ((row t.next i).length : Int) = (row t.next 0).length
  case neg =>
    simp only [nd0, Y1n, Y1o, Y1p, Y1q, Y1w, Y1x, Y1y, Y1z, Y20, Y21, Y28, Y2a, AV.cells?, Nat.reduceAdd, Nat.reduceMul, decide_eq_false c5]
    refine ⟨⟨[Z 3, Z i], rfl, ?_⟩⟩
    simp only [nd0, Y1n, Y1o, Y1p, Y1q, Y1w, Y1x, Y1y, Y1z, Y20, Y21, Y28, Y2a, AV.cells?, Nat.reduceAdd, Nat.reduceMul]
    exact wNew.F' (l := [Z 3, Z i]) rfl (atE 3 _ (by simp only [checkAt]; rw [if_pos (by simp only [row] at c5; omega)]))
  simp only [nd0, Y1n, Y1o, Y1p, Y1q, Y1w, Y1x, Y1y, Y1z, Y20, Y21, Y28, Y2a, AV.cells?, Nat.reduceAdd, Nat.reduceMul, decide_eq_true c5]
  have hi2 : i < t.tells.length := by omega
  rw [iaddr_LLI hi2]
  simp only [nd0, Y1n, Y1o, Y1p, Y1q, Y1w, Y1x, Y1y, Y1z, Y20, Y21, Y28, Y2a, AV.cells?, Nat.reduceAdd, Nat.reduceMul, row_get hi2, lenA_LI, iaddr_LLI0 hpos, row_get hpos]
  by_cases c6 : ((row t.tells i).length : Int) = (row t.next 0).length
  case neg =>
    simp only [nd0, Y1n, Y1o, Y1p, Y1q, Y1w, Y1x, Y1y, Y1z, Y20, Y21, Y28, Y2a, AV.cells?, Nat.reduceAdd, Nat.reduceMul, decide_eq_false c6]
    refine ⟨⟨[Z 3, Z i], rfl, ?_⟩⟩
    simp only [nd0, Y1n, Y1o, Y1p, Y1q, Y1w, Y1x, Y1y, Y1z, Y20, Y21, Y28, Y2a, AV.cells?, Nat.reduceAdd, Nat.reduceMul]
    exact wNew.F' (l := [Z 3, Z i]) rfl (atE 3 _ (by simp only [checkAt]; rw [if_pos (by simp only [row] at c6; omega)]))
  simp only [nd0, Y1n, Y1o, Y1p, Y1q, Y1w, Y1x, Y1y, Y1z, Y20, Y21, Y28, Y2a, AV.cells?, Nat.reduceAdd, Nat.reduceMul, decide_eq_true c6]
  refine wCall.bo (ContainsFunc_spec B.con B.ixi (k := 63) (cs := [.ptrF [Z t.next.length] 0]) (p := fun x => decide (x < 0) || decide (x ≥ t.next.length)) (row t.next i) (by omega) (by simp [AV.closedL, AV.closed]) fun x _ => Check_c1_spec B x t.next.length) (by simp [AV.flat])
    (.cons (.same _) (.cons (.fn .nil (.cons (Fk.ptrF 1 rfl rfl (.cons (.same _) .nil)) .nil)) .nil)) fun n1 => ?_
  refine wIf.bool (fun h7 => ?_) fun h7 => ?_
  · refine ⟨⟨[Z 2, Z i], rfl, ?_⟩⟩
    simp only [nd0, Y1n, Y1o, Y1p, Y1q, Y1w, Y1x, Y1y, Y1z, Y20, Y21, Y28, Y2a, AV.cells?, Nat.reduceAdd, Nat.reduceMul]
    refine wNew.F' (l := [Z 2, Z i]) rfl (atE 2 _ ?_)
    simp only [row] at c5 c6 h7
    simp only [checkAt]
    rw [if_neg (by omega), if_pos h7]
  · rw [binA_succ (by omega)]
    simp only [nd0, Y1n, Y1o, Y1p, Y1q, Y1w, Y1x, Y1y, Y1z, Y20, Y21, Y28, Y2a, AV.cells?, Nat.reduceAdd, Nat.reduceMul]
    refine back1.mk (m - 1) (by omega) ⟨i + 1, _, by omega, rfl, rfl, fun j hj => ?_⟩
    by_cases hji : j < i
    · exact hpre j hji
    · have : j = i := by omega
      subst this
      simp only [row] at c5 c6 h7
      simp only [checkAt]
      rw [if_neg (by omega), if_neg (by rw [h7]; simp)]

theorem number_c1_spec (B : BlockBodies E P) (y x : List Int) (hl : y.length < 4611686018427387904) : FX E P 71 [LI y, .ptrF [LI x] 0] (Bo (decide (y = x))) := by
  refine FX.of' (by simp [AV.closedL, AV.closed, LI_closed]) (by simp [AV.closed]) fun m R hR => B.number1 _ _ _ _ ?_
  unfold F.block_number_c1
  simp only [nd0, Y1n, Y1o, Y1p, Y1q, Y1w, Y1x, Y1y, Y1z, Y20, Y21, Y28, Y2a, AV.cells?, Nat.reduceAdd, Nat.reduceMul]
  refine wCall.fx (Equal_spec B.eq y x hl) fun n => ?_
  exact hR _ _ rfl
theorem numAll_snoc (pre : List (List Int)) (x : List Int) : numAll (pre ++ [x]) = numStep (numAll pre) x := by simp [numAll, List.foldl_append]
theorem number_spec (B : BlockBodies E P) (t : List (List Int)) (hl : t.length < 1099511627776) (hll : ∀ l ∈ t, l.length < 4611686018427387904) : FX E P 64 [LLI t] (LI (number t)) := by
  refine FX.of (by simp [AV.closedL, LLI_closed]) (LI_closed _) fun n R hR => B.number _ _ _ ?_
  unfold F.block_number
  simp only [nd0, Y1n, Y1o, Y1p, Y1q, Y1w, Y1x, Y1y, Y1z, Y20, Y21, Y28, Y2a, AV.cells?, Nat.reduceAdd, Nat.reduceMul, lenA_LLI]
  refine wLoop.three (fun m t3 t4 i H => ∃ pre rest z3 z4 c, t = pre ++ rest ∧ i = Z pre.length ∧ m = rest.length ∧ H = ⟨[z3, z4, .dead], c⟩ ∧ Gr 1 z3 0 t3 ((numAll pre).1.map LI) (numAll pre).1.length ∧ Gr 1 z4 1 t4 ((numAll pre).2.map fun z => Z z) (numAll pre).2.length) t.length
    (gh3.of (ghost_room [.dead, .dead, .dead] (by simp)) ⟨[], t, .dead, .dead, n, rfl, rfl, rfl, rfl, .nil, .nil⟩) ?_
  rintro m t3 t4 i H ⟨pre, rest, z3, z4, c, rfl, rfl, rfl, rfl, h3, h4⟩
  have hlen := numAll_len pre
  cases rest with
  | nil =>
    simp only [nd0, Y1n, Y1o, Y1p, Y1q, Y1w, Y1x, Y1y, Y1z, Y20, Y21, Y28, Y2a, AV.cells?, Nat.reduceAdd, Nat.reduceMul, List.append_nil, Int.lt_irrefl]
    refine hR _ _ (.sub ?_)
    rw [List.append_nil]
    exact h4.sub
  | cons x rest =>
    have hpl : pre.length < 1099511627776 := by simp at hl; omega
    simp only [nd0, Y1n, Y1o, Y1p, Y1q, Y1w, Y1x, Y1y, Y1z, Y20, Y21, Y28, Y2a, AV.cells?, Nat.reduceAdd, Nat.reduceMul, decide_eq_true (show (pre.length : Int) < ((pre ++ x :: rest).length : Int) by simp; omega)]
    rw [iaddr_LLI lt_mid]
    simp only [nd0, Y1n, Y1o, Y1p, Y1q, Y1w, Y1x, Y1y, Y1z, Y20, Y21, Y28, Y2a, AV.cells?, Nat.reduceAdd, Nat.reduceMul, at_mid]
    refine wNew.S 2 rfl rfl ?_
    simp only [nd0, Y1n, Y1o, Y1p, Y1q, Y1w, Y1x, Y1y, Y1z, Y20, Y21, Y28, Y2a, AV.cells?, Nat.reduceAdd, Nat.reduceMul]
    rw [store1_L (LI_scalar _)]
    simp only [nd0, Y1n, Y1o, Y1p, Y1q, Y1w, Y1x, Y1y, Y1z, Y20, Y21, Y28, Y2a, AV.cells?, Nat.reduceAdd, Nat.reduceMul, Nat.reduceLT]
    refine wCall.bo (IndexFunc_any (f := LI) (.inr rfl) B.ixr (k := 71) (cs := [.ptrF [LI x] 0]) (p := fun y => decide (y = x)) LI_closed (numAll pre).1 (by omega) (by simp [AV.closedL, AV.closed, LI_closed]) fun y hy => number_c1_spec B y x (hll y (List.mem_append_left _ (numAll_mem _ y hy)))) (by simp [AV.flat])
      (.cons (.sub h3.sub) (.cons (.fn .nil (.cons (Fk.ptrF 1 rfl rfl (.cons (.same _) .nil)) .nil)) .nil)) fun n1 => ?_
    simp only [nd0, Y1n, Y1o, Y1p, Y1q, Y1w, Y1x, Y1y, Y1z, Y20, Y21, Y28, Y2a, AV.cells?, Nat.reduceAdd, Nat.reduceMul]
    refine wJoin.two (fun t3' t7 H' => ∃ (z3' : Blk) (k : Int) (n' : Nat), t7 = Z k ∧ H' = ⟨[z3', z4, .cells c 1 [LI x]], n'⟩ ∧ Gr 1 z3' 0 t3' ((numAll (pre ++ [x])).1.map LI) (numAll (pre ++ [x])).1.length ∧ (numAll (pre ++ [x])).2 = (numAll pre).2 ++ [k]) ?_ ?_
    · cases ho : (numAll pre).1.findIdx? (fun y => decide (y = x)) with
      | some j =>
        simp only [nd0, Y1n, Y1o, Y1p, Y1q, Y1w, Y1x, Y1y, Y1z, Y20, Y21, Y28, Y2a, AV.cells?, Nat.reduceAdd, Nat.reduceMul, decide_eq_false (show ¬ (idxO (some j) < 0) by simp [idxO])]
        exact gh2.mk ⟨z3, (j : Int), n1, rfl, rfl, by rw [numAll_snoc, numStep, ho]; exact h3, by rw [numAll_snoc, numStep, ho]⟩
      | none =>
        simp only [nd0, Y1n, Y1o, Y1p, Y1q, Y1w, Y1x, Y1y, Y1z, Y20, Y21, Y28, Y2a, AV.cells?, Nat.reduceAdd, Nat.reduceMul, decide_eq_true (show idxO none < 0 by simp [idxO]), h3.len]
        refine wNewS.F' (l := [LI x]) rfl rfl ?_
        refine wApp.one (bytes := 24) h3 rfl (by simp) (.refl _) (LI_scalar _) (by simp [mostBytes]; omega) fun z' x' c' hg' => ?_
        simp only [nd0, Y1n, Y1o, Y1p, Y1q, Y1w, Y1x, Y1y, Y1z, Y20, Y21, Y28, Y2a, AV.cells?, Nat.reduceAdd, Nat.reduceMul]
        exact gh2.mk ⟨z', ((numAll pre).1.length : Int), c', rfl, rfl, by rw [numAll_snoc, numStep, ho]; simpa using hg', by rw [numAll_snoc, numStep, ho]⟩
    · rintro t3' t7 H' ⟨z3', k, n', rfl, rfl, h3', hk⟩
      refine wNewS.F' (l := [Z k]) rfl rfl ?_
      refine wApp.one (bytes := 8) h4 rfl (by simp) (.refl _) rfl (by simp [mostBytes]; omega) fun z' x' c' hg' => ?_
      simp only [nd0, Y1n, Y1o, Y1p, Y1q, Y1w, Y1x, Y1y, Y1z, Y20, Y21, Y28, Y2a, AV.cells?, Nat.reduceAdd, Nat.reduceMul]
      rw [binA_succ (by omega)]
      simp only [nd0, Y1n, Y1o, Y1p, Y1q, Y1w, Y1x, Y1y, Y1z, Y20, Y21, Y28, Y2a, AV.cells?, Nat.reduceAdd, Nat.reduceMul]
      have hgh : Ghost [t3', x', Z ((pre.length + 1 : Nat) : Int)] ⟨[z3', z', .cells c 1 [LI x]], c'⟩ [t3', x', Z ((pre.length + 1 : Nat) : Int)] ⟨[z3', z', .dead], c'⟩ :=
        ghost_kill (H := ⟨[z3', z', .cells c 1 [LI x]], c'⟩) (H' := ⟨[z3', z', .dead], c'⟩) (S := fun i => i == 2) rfl (.keep rfl (KB.same _) (.keep rfl (KB.same _) (.dead rfl .nil))) (.cons (.same _) (.cons (.same _) (.cons (.same _) .nil)))
      refine back3.of rest.length (by simp) hgh ⟨pre ++ [x], rest, z3', z', c', by simp, by simp, rfl, rfl, h3', ?_⟩
      rw [hk]
      simpa using hg'

theorem zeros_LI (n : Nat) : AV.slN (List.replicate n [Z 0]).flatten n = LI (List.replicate n 0) := by
  have : (List.replicate n [Z 0]).flatten = (List.replicate n (0 : Int)).map fun z => Z z := by
    induction n with
    | zero => rfl
    | succ n ih => simp [List.replicate_succ] at ih ⊢
  simp [LI, Lm, this]
theorem rounds_spec (B : BlockBodies E P) (t : Table) (hg : Good t) {K : Nat} (hK : IsLast t K) (hKl : K < 1000000) : FX E P 56 [Tb t] (LLI ((List.range (K + 1)).map (iter t))) := by
  have g1 := hg.pos; have g2 := hg.few; have g3 := hg.wide; have g4 := hg.tells
  refine FX.of (by simp [AV.closedL, Tb_closed]) (LLI_closed _) fun n R hR => B.rounds _ _ _ ?_
  unfold F.block_rounds Tb
  refine wNew.F' (l := [LLI t.next, LLI t.tells]) rfl ?_
  simp only [nd0, Y1n, Y1o, Y1p, Y1q, Y1w, Y1x, Y1y, Y1z, Y20, Y21, Y28, Y2a, AV.cells?, Nat.reduceAdd, Nat.reduceMul, lenA_LLI]
  refine wMake.F (makeA_n (by simp [mostBytes]; omega)) ?_
  rw [zeros_LI]
  refine wNewS.T (l := [LI (List.replicate t.next.length 0)]) rfl (.refl _) rfl ?_
  simp only [nd0, Y1n, Y1o, Y1p, Y1q, Y1w, Y1x, Y1y, Y1z, Y20, Y21, Y28, Y2a, AV.cells?, Nat.reduceAdd, Nat.reduceMul]
  refine wLoop.one (fun m t4 H => ∃ (k : Nat) (z : Blk) (c : Nat), k + m = K ∧ H = ⟨[z, .dead, .dead], c⟩ ∧ Gr 1 z 0 t4 (((List.range (k + 1)).map (iter t)).map LI) (k + 1)) K
    (gh1.of (ghost_room [.dead, .dead] (by simp)) ⟨0, _, _, by omega, rfl, .mk⟩) ?_
  rintro m t4 H ⟨k, z, c, hkm, rfl, h4⟩
  simp only [nd0, Y1n, Y1o, Y1p, Y1q, Y1w, Y1x, Y1y, Y1z, Y20, Y21, Y28, Y2a, AV.cells?, Nat.reduceAdd, Nat.reduceMul, h4.len]
  rw [binA_sub (by omega)]
  simp only [nd0, Y1n, Y1o, Y1p, Y1q, Y1w, Y1x, Y1y, Y1z, Y20, Y21, Y28, Y2a, AV.cells?, Nat.reduceAdd, Nat.reduceMul, show (((k + 1 : Nat) : Int) - 1) = (k : Int) by omega]
  rw [h4.at (by omega)]
  simp only [nd0, Y1n, Y1o, Y1p, Y1q, Y1w, Y1x, Y1y, Y1z, Y20, Y21, Y28, Y2a, AV.cells?, Nat.reduceAdd, Nat.reduceMul, show ((((List.range (k + 1)).map (iter t)).map LI)[k]?) = some (LI (iter t k)) by simp]
  have hil := iter_len t k
  refine wLoop.two (fun m t6 i H => ∃ (s : Nat) (z6 : Blk) (c : Nat), s + m = t.next.length ∧ i = Z s ∧ H = ⟨[z, z6, .dead], c⟩ ∧ Gr 1 z6 1 t6 (((List.range s).map (line t (iter t k))).map LI) s) t.next.length
    (gh2.mk ⟨0, .dead, c, by omega, rfl, rfl, .nil⟩) ?_
  rintro m2 t6 i H ⟨s, z6, c2, hsm, rfl, rfl, h6⟩
  by_cases hs : s < t.next.length
  case neg =>
    have : s = t.next.length := by omega
    subst this
    simp only [nd0, Y1n, Y1o, Y1p, Y1q, Y1w, Y1x, Y1y, Y1z, Y20, Y21, Y28, Y2a, AV.cells?, Nat.reduceAdd, Nat.reduceMul, Int.lt_irrefl]
    refine wCall.fxs (args' := [LLI ((List.range t.next.length).map (line t (iter t k)))]) (number_spec B _ (by simp; omega) fun l hl => ?_) (.one ?_) fun n1 => ?_
    · obtain ⟨s, hs, rfl⟩ := List.mem_map.1 hl
      have := (hg.rows s (List.mem_range.1 hs)).1
      unfold line
      rw [lineTo_len]
      omega
    · have := h6.sub
      simpa [LLI, Lm] using this
    have hnum : number ((List.range t.next.length).map (line t (iter t k))) = iter t (k + 1) := rfl
    rw [hnum]
    refine wCall.fx (Equal_spec B.eq _ _ (by rw [iter_len]; omega)) fun n2 => ?_
    refine wIf.dec (fun he => ?_) fun he => ?_
    · have hkK : k = K := by
        rcases Nat.lt_or_ge k K with h | h
        · exact absurd he (hK.2 k h)
        · omega
      subst hkK
      refine hR _ _ (.sub ?_)
      have := h4.sub
      simpa [LLI, Lm] using this
    · have hlt : k < K := by
        rcases Nat.lt_or_ge k K with h | h
        · exact h
        · have : k = K := by omega
          subst this
          exact absurd hK.1 he
      refine wNewS.F' (l := [LI (iter t (k + 1))]) rfl rfl ?_
      refine wApp.one (bytes := 24) h4 rfl (by simp) (.refl _) (LI_scalar _) (by simp [mostBytes]; omega) fun z' x' c' hg' => ?_
      simp only [nd0, Y1n, Y1o, Y1p, Y1q, Y1w, Y1x, Y1y, Y1z, Y20, Y21, Y28, Y2a, AV.cells?, Nat.reduceAdd, Nat.reduceMul]
      have hgh : Ghost [x'] ⟨[z', z6, .dead], c'⟩ [x'] ⟨[z', .dead, .dead], c'⟩ :=
        ghost_kill (H := ⟨[z', z6, .dead], c'⟩) (H' := ⟨[z', .dead, .dead], c'⟩) (S := fun i => i == 1) rfl (.keep rfl (KB.same _) (.dead rfl (.keep rfl (KB.same _) .nil))) (.cons (.same _) .nil)
      refine back1.of (m - 1) (by omega) hgh ⟨k + 1, z', c', by omega, rfl, ?_⟩
      rw [List.range_succ (n := k + 1)]
      simpa using hg'
  have hrow := hg.rows s hs
  simp only [nd0, Y1n, Y1o, Y1p, Y1q, Y1w, Y1x, Y1y, Y1z, Y20, Y21, Y28, Y2a, AV.cells?, Nat.reduceAdd, Nat.reduceMul, decide_eq_true (show (s : Int) < (t.next.length : Int) by omega)]
  rw [iaddr_LI (show s < (iter t k).length by omega)]
  simp only [nd0, Y1n, Y1o, Y1p, Y1q, Y1w, Y1x, Y1y, Y1z, Y20, Y21, Y28, Y2a, AV.cells?, Nat.reduceAdd, Nat.reduceMul, cell_at (show s < (iter t k).length by omega)]
  refine wNewS.TS (l := [Z (cell (iter t k) s)]) 2 rfl (.refl _) rfl rfl ?_
  simp only [nd0, Y1n, Y1o, Y1p, Y1q, Y1w, Y1x, Y1y, Y1z, Y20, Y21, Y28, Y2a, AV.cells?, Nat.reduceAdd, Nat.reduceMul]
  rw [iaddr_LLI hs]
  simp only [nd0, Y1n, Y1o, Y1p, Y1q, Y1w, Y1x, Y1y, Y1z, Y20, Y21, Y28, Y2a, AV.cells?, Nat.reduceAdd, Nat.reduceMul, row_get hs, lenA_LI]
  refine wLoop.two (fun m t8 i H => ∃ (j : Nat) (z8 : Blk) (c : Nat), j + m = (row t.next s).length ∧ i = Z j ∧ H = ⟨[z, z6, z8], c⟩ ∧ Gr 1 z8 2 t8 ((lineTo t (iter t k) s j).map fun z => Z z) (1 + 2 * j)) (row t.next s).length
    (gh2.mk ⟨0, _, _, by omega, rfl, rfl, by simp [lineTo]; exact .mk⟩) ?_
  rintro m3 t8 i H ⟨j, z8, c3, hjm, rfl, rfl, h8⟩
  by_cases hj : j < (row t.next s).length
  case neg =>
    have : j = (row t.next s).length := by omega
    subst this
    simp only [nd0, Y1n, Y1o, Y1p, Y1q, Y1w, Y1x, Y1y, Y1z, Y20, Y21, Y28, Y2a, AV.cells?, Nat.reduceAdd, Nat.reduceMul, Int.lt_irrefl]
    have hsub : Sub t8 (LI (line t (iter t k) s)) := by
      have := h8.sub
      unfold LI Lm line
      rw [lineTo_len]
      exact this
    refine wNewS.F (l := [t8]) (l' := [LI (line t (iter t k) s)]) (by simp [fillA_one h8.scalar, fillA_nil]) (.one hsub) rfl ?_
    refine wApp.one (bytes := 24) h6 rfl (by simp) (.refl _) (LI_scalar _) (by simp [mostBytes]; omega) fun z' x' c' hg' => ?_
    simp only [nd0, Y1n, Y1o, Y1p, Y1q, Y1w, Y1x, Y1y, Y1z, Y20, Y21, Y28, Y2a, AV.cells?, Nat.reduceAdd, Nat.reduceMul]
    rw [binA_succ (by omega)]
    simp only [nd0, Y1n, Y1o, Y1p, Y1q, Y1w, Y1x, Y1y, Y1z, Y20, Y21, Y28, Y2a, AV.cells?, Nat.reduceAdd, Nat.reduceMul]
    have hgh : Ghost [x', Z ((s + 1 : Nat) : Int)] ⟨[z, z', z8], c'⟩ [x', Z ((s + 1 : Nat) : Int)] ⟨[z, z', .dead], c'⟩ :=
      ghost_kill (H := ⟨[z, z', z8], c'⟩) (H' := ⟨[z, z', .dead], c'⟩) (S := fun i => i == 2) rfl (.keep rfl (KB.same _) (.keep rfl (KB.same _) (.dead rfl .nil))) (.cons (.same _) (.cons (.same _) .nil))
    refine back2.of (m2 - 1) (by omega) hgh ⟨s + 1, z', c', by omega, rfl, rfl, ?_⟩
    rw [List.range_succ]
    simpa using hg'
  have hth := hg.there s hs (cell (row t.next s) j) (by
    have : (row t.next s)[j] ∈ row t.next s := List.getElem_mem hj
    simpa [cell, hj] using this)
  have hx : ((cell (row t.next s) j).toNat : Int) = cell (row t.next s) j := by omega
  simp only [nd0, Y1n, Y1o, Y1p, Y1q, Y1w, Y1x, Y1y, Y1z, Y20, Y21, Y28, Y2a, AV.cells?, Nat.reduceAdd, Nat.reduceMul, decide_eq_true (show (j : Int) < ((row t.next s).length : Int) by omega)]
  rw [iaddr_LI hj]
  simp only [nd0, Y1n, Y1o, Y1p, Y1q, Y1w, Y1x, Y1y, Y1z, Y20, Y21, Y28, Y2a, AV.cells?, Nat.reduceAdd, Nat.reduceMul, cell_at hj]
  rw [iaddr_LLI (show s < t.tells.length by omega)]
  simp only [nd0, Y1n, Y1o, Y1p, Y1q, Y1w, Y1x, Y1y, Y1z, Y20, Y21, Y28, Y2a, AV.cells?, Nat.reduceAdd, Nat.reduceMul, row_get (show s < t.tells.length by omega)]
  rw [iaddr_LI (show j < (row t.tells s).length by omega)]
  simp only [nd0, Y1n, Y1o, Y1p, Y1q, Y1w, Y1x, Y1y, Y1z, Y20, Y21, Y28, Y2a, AV.cells?, Nat.reduceAdd, Nat.reduceMul, cell_at (show j < (row t.tells s).length by omega)]
  rw [← hx, iaddr_LI (show (cell (row t.next s) j).toNat < (iter t k).length by omega)]
  simp only [nd0, Y1n, Y1o, Y1p, Y1q, Y1w, Y1x, Y1y, Y1z, Y20, Y21, Y28, Y2a, AV.cells?, Nat.reduceAdd, Nat.reduceMul, cell_at (show (cell (row t.next s) j).toNat < (iter t k).length by omega)]
  refine wNewS.F' (l := [Z (cell (row t.tells s) j), Z (cell (iter t k) (cell (row t.next s) j).toNat)]) rfl rfl ?_
  refine wApp.gr (bytes := 8) (m := 2) (new := [Z (cell (row t.tells s) j), Z (cell (iter t k) (cell (row t.next s) j).toNat)]) h8 rfl (by simp [lineTo_len]) rfl (.refl _) rfl (by simp [mostBytes]; omega) fun z' x' c' hg' => ?_
  simp only [nd0, Y1n, Y1o, Y1p, Y1q, Y1w, Y1x, Y1y, Y1z, Y20, Y21, Y28, Y2a, AV.cells?, Nat.reduceAdd, Nat.reduceMul]
  rw [binA_succ (by omega)]
  simp only [nd0, Y1n, Y1o, Y1p, Y1q, Y1w, Y1x, Y1y, Y1z, Y20, Y21, Y28, Y2a, AV.cells?, Nat.reduceAdd, Nat.reduceMul]
  refine back2.mk (m3 - 1) (by omega) ⟨j + 1, z', c', by omega, rfl, rfl, ?_⟩
  rw [lineTo_succ]
  have e : 1 + 2 * (j + 1) = 1 + 2 * j + 2 := by omega
  rw [e]
  simpa using hg'
end
end Go.Sc
namespace Go.Sc
open Go
set_option linter.unusedSimpArgs false
set_option linter.unusedVariables false
set_option linter.unnecessarySimpa false

open Classical in
noncomputable def finK (t : Table) : Nat := if h : Good t then Classical.choose (ends t h) else 0
theorem finK_spec {t : Table} (h : Good t) : finK t < 1000000 ∧ IsLast t (finK t) := by
  unfold finK
  rw [dif_pos h]
  exact Classical.choose_spec (ends t h)
/-- the table of blocks' numbers -/
noncomputable def Bl (t : Table) : List Int := iter t (finK t)
noncomputable def BlocksA (t : Table) : AV := if check t = none then .tup [LI (Bl t), nilE] else .tup [nilS, errA (check t)]
structure MooreBodies (E : Env) (P : Program) : Prop where
  b : BlockBodies E P
  blocks : Body1 E P 46 F.block_Blocks
  clone : Body1 E P 57 F.slices_Clone_Lint_int
  few : Body2 E P 45 F.keep_few
  pick : Body2 E P 48 F.keep_pick
  sameInts : Body2 E P 51 F.keep_sameInts
  tell : Body3 E P 50 F.block_Tell
  tell1 : Body2 E P 58 F.block_Tell_c1

section
variable {E : Env} {P : Program}
theorem Blocks_spec (B : BlockBodies E P) (hB : Body1 E P 46 F.block_Blocks) (t : Table) (hs : t.sized) : FX E P 46 [Tb t] (BlocksA t) := by
  refine FX.of' (by simp [AV.closedL, Tb_closed]) (by unfold BlocksA; split <;> simp [AV.closed, AV.closedL, LI_closed, errA_closed]) fun n R hR => hB _ _ _ ?_
  unfold F.block_Blocks
  simp only [Tb]
  refine wNew.F' (l := [LLI t.next, LLI t.tells]) rfl ?_
  simp only [nd0, Y1n, Y1o, Y1p, Y1q, Y1w, Y1x, Y1y, Y1z, Y20, Y21, Y28, Y2a, AV.cells?, Nat.reduceAdd, Nat.reduceMul]
  refine wCall.fx (Check_specB B t hs) fun n => ?_
  by_cases hc : check t = none
  · rw [hc]
    simp only [errA]
    simp only [nd0, Y1n, Y1o, Y1p, Y1q, Y1w, Y1x, Y1y, Y1z, Y20, Y21, Y28, Y2a, AV.cells?, Nat.reduceAdd, Nat.reduceMul]
    have hg := good_iff.1 hc
    obtain ⟨h1, h2⟩ := finK_spec hg
    refine wCall.fx (rounds_spec B t hg h2 h1) fun n => ?_
    simp only [nd0, Y1n, Y1o, Y1p, Y1q, Y1w, Y1x, Y1y, Y1z, Y20, Y21, Y28, Y2a, AV.cells?, Nat.reduceAdd, Nat.reduceMul, lenA_LLI, List.length_map, List.length_range]
    rw [binA_sub (by omega)]
    simp only [nd0, Y1n, Y1o, Y1p, Y1q, Y1w, Y1x, Y1y, Y1z, Y20, Y21, Y28, Y2a, AV.cells?, Nat.reduceAdd, Nat.reduceMul, show (((finK t + 1 : Nat) : Int) - 1) = (finK t : Int) by omega]
    rw [iaddr_LLI (by simp)]
    simp only [nd0, Y1n, Y1o, Y1p, Y1q, Y1w, Y1x, Y1y, Y1z, Y20, Y21, Y28, Y2a, AV.cells?, Nat.reduceAdd, Nat.reduceMul, show (((List.range (finK t + 1)).map (iter t)).map LI)[finK t]? = some (LI (Bl t)) by simp [Bl]]
    exact hR _ _ (by simp [BlocksA, hc])
  · obtain ⟨k, a, he⟩ := errA_some hc
    rw [he]
    simp only [nd0, Y1n, Y1o, Y1p, Y1q, Y1w, Y1x, Y1y, Y1z, Y20, Y21, Y28, Y2a, AV.cells?, Nat.reduceAdd, Nat.reduceMul]
    exact hR _ _ (by simp [BlocksA, hc, he])
theorem few_spec (B : MooreBodies E P) (t : Table) (m : Int) : FX E P 45 [Tb t, Z m] (Bo (fewB t m)) := by
  refine FX.of' (by simp [AV.closedL, Tb_closed, AV.closed]) (by simp [AV.closed]) fun n R hR => B.few _ _ _ _ ?_
  unfold F.keep_few Tb
  refine wNew.F' (l := [LLI t.next, LLI t.tells]) rfl ?_
  simp only [nd0, Y1n, Y1o, Y1p, Y1q, Y1w, Y1x, Y1y, Y1z, Y20, Y21, Y28, Y2a, AV.cells?, Nat.reduceAdd, Nat.reduceMul, lenA_LLI]
  by_cases h1 : (t.next.length : Int) ≤ m
  case neg =>
    simp only [nd0, Y1n, Y1o, Y1p, Y1q, Y1w, Y1x, Y1y, Y1z, Y20, Y21, Y28, Y2a, AV.cells?, Nat.reduceAdd, Nat.reduceMul, decide_eq_false h1]
    exact hR _ _ (by simp only [fewB, decide_eq_false h1]; simp)
  simp only [nd0, Y1n, Y1o, Y1p, Y1q, Y1w, Y1x, Y1y, Y1z, Y20, Y21, Y28, Y2a, AV.cells?, Nat.reduceAdd, Nat.reduceMul, decide_eq_true h1, lenA_LLI]
  by_cases h2 : (t.tells.length : Int) ≤ 500
  case neg =>
    simp only [nd0, Y1n, Y1o, Y1p, Y1q, Y1w, Y1x, Y1y, Y1z, Y20, Y21, Y28, Y2a, AV.cells?, Nat.reduceAdd, Nat.reduceMul, decide_eq_false h2]
    exact hR _ _ (by simp only [fewB, decide_eq_true h1, decide_eq_false (show ¬ t.tells.length ≤ 500 by omega)]; simp)
  simp only [nd0, Y1n, Y1o, Y1p, Y1q, Y1w, Y1x, Y1y, Y1z, Y20, Y21, Y28, Y2a, AV.cells?, Nat.reduceAdd, Nat.reduceMul, decide_eq_true h2, lenA_LLI]
  by_cases h3 : (t.next.length : Int) = 0
  · simp only [nd0, Y1n, Y1o, Y1p, Y1q, Y1w, Y1x, Y1y, Y1z, Y20, Y21, Y28, Y2a, AV.cells?, Nat.reduceAdd, Nat.reduceMul, decide_eq_true h3]
    exact hR _ _ (by simp only [fewB, decide_eq_true h1, decide_eq_true (show t.tells.length ≤ 500 by omega), decide_eq_true (show t.next.length = 0 by omega)]; simp)
  simp only [nd0, Y1n, Y1o, Y1p, Y1q, Y1w, Y1x, Y1y, Y1z, Y20, Y21, Y28, Y2a, AV.cells?, Nat.reduceAdd, Nat.reduceMul, decide_eq_false h3]
  have hpos : 0 < t.next.length := by omega
  simp only [nd0, Y1n, Y1o, Y1p, Y1q, Y1w, Y1x, Y1y, Y1z, Y20, Y21, Y28, Y2a, AV.cells?, Nat.reduceAdd, Nat.reduceMul, iaddr_LLI0 hpos, row_get hpos, lenA_LI]
  exact hR _ _ (by simp only [fewB, decide_eq_true h1, decide_eq_true (show t.tells.length ≤ 500 by omega), decide_eq_false (show ¬ t.next.length = 0 by omega), Bool.true_and, Bool.false_or]; exact congrArg (fun b => Bo b) (decide_eq_decide.2 (by omega)))
theorem pick_spec (B : MooreBodies E P) (a : Int) (n : Nat) (h0 : 0 < n) (h1 : n < 4611686018427387904) : FX E P 48 [Z a, Z n] (Z (atN a n)) := by
  refine FX.of' (by simp [AV.closedL, AV.closed]) (by simp [AV.closed]) fun m R hR => B.pick _ _ _ _ ?_
  unfold F.keep_pick
  simp only [nd0, Y1n, Y1o, Y1p, Y1q, Y1w, Y1x, Y1y, Y1z, Y20, Y21, Y28, Y2a, AV.cells?, Nat.reduceAdd, Nat.reduceMul, wrap_u64]
  have e : ((n : Int) % 18446744073709551616) = n := Int.emod_eq_of_lt (by omega) (by omega)
  have hlt := atN_lt (a := a) h0
  have h2 := Int.emod_nonneg a (show (18446744073709551616 : Int) ≠ 0 by decide)
  have hrem : binA .rem (.val (.int .u64 (a % 18446744073709551616))) (.val (.int .u64 ((n : Int) % 18446744073709551616))) = some (.val (.int .u64 (atN a n))) := by
    rw [e]
    simp only [binA, intBin, if_true, show ¬ ((n : Int) = 0) by omega, if_false, Option.map_some]
    rw [Int.tmod_eq_emod_of_nonneg h2]
    unfold atN
    rw [Int.toNat_of_nonneg (Int.emod_nonneg _ (by omega))]
  rw [hrem]
  simp only [nd0, Y1n, Y1o, Y1p, Y1q, Y1w, Y1x, Y1y, Y1z, Y20, Y21, Y28, Y2a, AV.cells?, Nat.reduceAdd, Nat.reduceMul]
  rw [wrap_i64 (by omega)]
  exact hR _ _ rfl
theorem sameInts_spec (B : MooreBodies E P) (l l' : List Int) (hl : l.length < 4611686018427387904) : FX E P 51 [LI l, LI l'] (Bo (decide (l = l'))) := by
  refine FX.of' (by simp [AV.closedL, LI_closed]) (by simp [AV.closed]) fun n R hR => B.sameInts _ _ _ _ ?_
  unfold F.keep_sameInts
  simp only [nd0, Y1n, Y1o, Y1p, Y1q, Y1w, Y1x, Y1y, Y1z, Y20, Y21, Y28, Y2a, AV.cells?, Nat.reduceAdd, Nat.reduceMul, lenA_LI]
  by_cases hn : l.length = l'.length
  case neg =>
    simp only [nd0, Y1n, Y1o, Y1p, Y1q, Y1w, Y1x, Y1y, Y1z, Y20, Y21, Y28, Y2a, AV.cells?, Nat.reduceAdd, Nat.reduceMul, decide_eq_false (show ¬ ((l.length : Int) = l'.length) by omega)]
    exact hR _ _ (by rw [decide_eq_false (fun e => hn (by rw [e]))])
  simp only [nd0, Y1n, Y1o, Y1p, Y1q, Y1w, Y1x, Y1y, Y1z, Y20, Y21, Y28, Y2a, AV.cells?, Nat.reduceAdd, Nat.reduceMul, decide_eq_true (show ((l.length : Int) = l'.length) by omega)]
  refine wLoop.one (fun m i H => ∃ j : Nat, i = Z j ∧ j ≤ l.length ∧ m = l.length - j ∧ ∀ k, k < j → l[k]? = l'[k]?) l.length (gh1.mk ⟨0, rfl, by omega, rfl, by simp⟩) ?_
  rintro m i H ⟨j, rfl, hj, rfl, hp⟩
  by_cases hlt : j < l.length
  case neg =>
    have : j = l.length := by omega
    subst this
    simp only [nd0, Y1n, Y1o, Y1p, Y1q, Y1w, Y1x, Y1y, Y1z, Y20, Y21, Y28, Y2a, AV.cells?, Nat.reduceAdd, Nat.reduceMul, Int.lt_irrefl]
    refine hR _ _ ?_
    rw [decide_eq_true]
    refine List.ext_getElem? fun k => ?_
    by_cases hk : k < l.length
    · exact hp k hk
    · rw [List.getElem?_eq_none (by omega), List.getElem?_eq_none (by omega)]
  simp only [nd0, Y1n, Y1o, Y1p, Y1q, Y1w, Y1x, Y1y, Y1z, Y20, Y21, Y28, Y2a, AV.cells?, Nat.reduceAdd, Nat.reduceMul, decide_eq_true (show (j : Int) < (l.length : Int) by omega)]
  rw [iaddr_LI hlt, iaddr_LI (show j < l'.length by omega)]
  simp only [nd0, Y1n, Y1o, Y1p, Y1q, Y1w, Y1x, Y1y, Y1z, Y20, Y21, Y28, Y2a, AV.cells?, Nat.reduceAdd, Nat.reduceMul, cell_at hlt, cell_at (show j < l'.length by omega)]
  have e1 : l[j]? = some (cell l j) := by simp [cell, List.getElem?_eq_getElem hlt]
  have e2 : l'[j]? = some (cell l' j) := by simp [cell, List.getElem?_eq_getElem (show j < l'.length by omega)]
  by_cases he : cell l j = cell l' j
  · simp only [nd0, Y1n, Y1o, Y1p, Y1q, Y1w, Y1x, Y1y, Y1z, Y20, Y21, Y28, Y2a, AV.cells?, Nat.reduceAdd, Nat.reduceMul, decide_eq_true he]
    rw [binA_succ (by omega)]
    simp only [nd0, Y1n, Y1o, Y1p, Y1q, Y1w, Y1x, Y1y, Y1z, Y20, Y21, Y28, Y2a, AV.cells?, Nat.reduceAdd, Nat.reduceMul]
    refine back1.mk (l.length - (j + 1)) (by omega) ⟨j + 1, rfl, by omega, rfl, fun k hk => ?_⟩
    by_cases hkj : k = j
    · subst hkj; rw [e1, e2, he]
    · exact hp k (by omega)
  · simp only [nd0, Y1n, Y1o, Y1p, Y1q, Y1w, Y1x, Y1y, Y1z, Y20, Y21, Y28, Y2a, AV.cells?, Nat.reduceAdd, Nat.reduceMul, decide_eq_false he]
    refine hR _ _ ?_
    rw [decide_eq_false]
    rintro rfl
    exact he rfl

open Classical in
noncomputable def TellA (t : Table) (s : Int) (l : List Int) : AV :=
  if check t = none then (if TellOk t s l then .tup [LI (tellFrom t s l), nilE] else .tup [LI [], .ifc 1 (Z 2)]) else .tup [LI [], errA (check t)]
theorem TellA_ok {t : Table} {s : Int} {l : List Int} (hc : check t = none) (h : TellOk t s l) : TellA t s l = .tup [LI (tellFrom t s l), nilE] := by
  simp only [TellA, hc, if_true]
  rw [if_pos h]
theorem TellA_closed (t : Table) (s : Int) (l : List Int) : (TellA t s l).closed := by
  unfold TellA
  split
  · split <;> simp [AV.closed, AV.closedL, LI_closed]
  · simp [AV.closed, AV.closedL, LI_closed, errA_closed]
theorem Tell_c1_spec (h1 : Body2 E P 58 F.block_Tell_c1) (t : Table) (hn : 0 < t.next.length) (x : Int) : FX E P 58 [Z x, .ptrF [LLI t.next, LLI t.tells] 0] (Bo (decide (x < 0) || decide (((row t.next 0).length : Int) ≤ x))) := by
  refine FX.of' (by simp [AV.closedL, AV.closed, LLI_closed]) (by simp [AV.closed]) fun m R hR => h1 _ _ _ _ ?_
  unfold F.block_Tell_c1
  simp only [nd0, Y1n, Y1o, Y1p, Y1q, Y1w, Y1x, Y1y, Y1z, Y20, Y21, Y28, Y2a, AV.cells?, Nat.reduceAdd, Nat.reduceMul]
  by_cases h : x < 0
  · simp only [nd0, Y1n, Y1o, Y1p, Y1q, Y1w, Y1x, Y1y, Y1z, Y20, Y21, Y28, Y2a, AV.cells?, Nat.reduceAdd, Nat.reduceMul, decide_eq_true h]
    exact hR _ _ (by simp [h])
  · simp only [nd0, Y1n, Y1o, Y1p, Y1q, Y1w, Y1x, Y1y, Y1z, Y20, Y21, Y28, Y2a, AV.cells?, Nat.reduceAdd, Nat.reduceMul, decide_eq_false h, iaddr_LLI0 hn, row_get hn, lenA_LI]
    exact hR _ _ (by simp [h])
theorem iaddr_LIz {l : List Int} {k : IntKind} {i : Int} (h0 : 0 ≤ i) (h : i < l.length) : iaddr 1 (LI l) (.val (.int k i)) = some (.ptrF (l.map fun z => Z z) i.toNat) := by
  have := iaddr_LI (l := l) (k := k) (i := i.toNat) (by omega)
  rwa [Int.toNat_of_nonneg h0] at this
theorem iaddr_LLIz {l : List (List Int)} {k : IntKind} {i : Int} (h0 : 0 ≤ i) (h : i < l.length) : iaddr 1 (LLI l) (.val (.int k i)) = some (.ptrF (l.map LI) i.toNat) := by
  have := iaddr_LLI (l := l) (k := k) (i := i.toNat) (by omega)
  rwa [Int.toNat_of_nonneg h0] at this
theorem Tell_spec (B : BlockBodies E P) (h0 : Body3 E P 50 F.block_Tell) (h1 : Body2 E P 58 F.block_Tell_c1) (t : Table) (hs : t.sized) (s : Int) (l : List Int) (hl : l.length < 1099511627776) : FX E P 50 [Tb t, Z s, LI l] (TellA t s l) := by
  refine FX.of (by simp [AV.closedL, Tb_closed, LI_closed, AV.closed]) (TellA_closed t s l) fun n R hR => h0 _ _ _ _ _ ?_
  have hnil : ∀ e H, TellA t s l = .tup [LI [], e] → R (.tup [nilS, e]) H := fun e H h => hR _ _ (.sub (h ▸ .tup (.cons .nil (.one (.refl _)))))
  unfold F.block_Tell
  simp only [Tb]
  refine wNew.F' (l := [LLI t.next, LLI t.tells]) rfl ?_
  simp only [nd0, Y1n, Y1o, Y1p, Y1q, Y1w, Y1x, Y1y, Y1z, Y20, Y21, Y28, Y2a, AV.cells?, Nat.reduceAdd, Nat.reduceMul]
  refine wCall.fx (Check_specB B t hs) fun n => ?_
  by_cases hc : check t = none
  case neg =>
    obtain ⟨k, a, he⟩ := errA_some hc
    rw [he]
    simp only [nd0, Y1n, Y1o, Y1p, Y1q, Y1w, Y1x, Y1y, Y1z, Y20, Y21, Y28, Y2a, AV.cells?, Nat.reduceAdd, Nat.reduceMul]
    exact hnil _ _ (by simp [TellA, hc, he])
  rw [hc]
  simp only [errA]
  simp only [nd0, Y1n, Y1o, Y1p, Y1q, Y1w, Y1x, Y1y, Y1z, Y20, Y21, Y28, Y2a, AV.cells?, Nat.reduceAdd, Nat.reduceMul, lenA_LLI]
  have hg := good_iff.1 hc
  have g1 := hg.pos; have g2 := hg.few; have g3 := hg.wide; have g4 := hg.tells
  have hout : ∀ H, ¬ TellOk t s l → R (.tup [nilS, .ifc 1 (Z 2)]) H := fun H h => hnil _ _ (by simp only [TellA, hc, if_true]; rw [if_neg h])
  by_cases c1 : s < 0
  · simp only [nd0, Y1n, Y1o, Y1p, Y1q, Y1w, Y1x, Y1y, Y1z, Y20, Y21, Y28, Y2a, AV.cells?, Nat.reduceAdd, Nat.reduceMul, decide_eq_true c1]
    exact hout _ fun h => by have := h.1; omega
  simp only [nd0, Y1n, Y1o, Y1p, Y1q, Y1w, Y1x, Y1y, Y1z, Y20, Y21, Y28, Y2a, AV.cells?, Nat.reduceAdd, Nat.reduceMul, decide_eq_false c1, lenA_LLI]
  by_cases c2 : (t.next.length : Int) ≤ s
  · simp only [nd0, Y1n, Y1o, Y1p, Y1q, Y1w, Y1x, Y1y, Y1z, Y20, Y21, Y28, Y2a, AV.cells?, Nat.reduceAdd, Nat.reduceMul, decide_eq_true c2]
    exact hout _ fun h => by have := h.2.1; omega
  simp only [nd0, Y1n, Y1o, Y1p, Y1q, Y1w, Y1x, Y1y, Y1z, Y20, Y21, Y28, Y2a, AV.cells?, Nat.reduceAdd, Nat.reduceMul, decide_eq_false c2]
  refine wCall.fx (ContainsFunc_spec B.con B.ixi (k := 58) (cs := [.ptrF [LLI t.next, LLI t.tells] 0]) (p := fun x => decide (x < 0) || decide (((row t.next 0).length : Int) ≤ x)) l (by omega) (by simp [AV.closedL, AV.closed, LLI_closed]) fun x _ => Tell_c1_spec h1 t (by omega) x) fun n => ?_
  cases hany : l.any (fun x => decide (x < 0) || decide (((row t.next 0).length : Int) ≤ x)) with
  | true =>
    simp only [nd0, Y1n, Y1o, Y1p, Y1q, Y1w, Y1x, Y1y, Y1z, Y20, Y21, Y28, Y2a, AV.cells?, Nat.reduceAdd, Nat.reduceMul]
    refine hout _ fun h => ?_
    simp only [List.any_eq_true, Bool.or_eq_true, decide_eq_true_eq] at hany
    obtain ⟨y, hy, hy'⟩ := hany
    have := h.2.2 y hy
    omega
  | false =>
    have hok : TellOk t s l := by
      refine ⟨by omega, by omega, fun i hi => ?_⟩
      simp only [List.any_eq_false, Bool.or_eq_true, decide_eq_true_eq, not_or] at hany
      have := hany i hi
      omega
    simp only [nd0, Y1n, Y1o, Y1p, Y1q, Y1w, Y1x, Y1y, Y1z, Y20, Y21, Y28, Y2a, AV.cells?, Nat.reduceAdd, Nat.reduceMul, lenA_LI]
    refine wLoop.three (fun m t1 t9 i H => ∃ (pre rest : List Int) (z : Blk) (c : Nat), l = pre ++ rest ∧ i = Z pre.length ∧ m = rest.length ∧ t1 = Z (goTo t s pre) ∧ (0 ≤ goTo t s pre ∧ goTo t s pre < t.next.length) ∧ H = ⟨[z], c⟩ ∧ Gr 1 z 0 t9 ((tellFrom t s pre).map fun z => Z z) pre.length) l.length
      (gh3.of (ghost_room [.dead] (by simp)) ⟨[], l, .dead, n, rfl, rfl, rfl, rfl, by simp [goTo]; omega, rfl, .nil⟩) ?_
    rintro m t1 t9 i H ⟨pre, rest, z, c, hle, rfl, rfl, rfl, hin, rfl, h9⟩
    cases rest with
    | nil =>
      rw [List.append_nil] at hle
      subst hle
      simp only [nd0, Y1n, Y1o, Y1p, Y1q, Y1w, Y1x, Y1y, Y1z, Y20, Y21, Y28, Y2a, AV.cells?, Nat.reduceAdd, Nat.reduceMul, Int.lt_irrefl]
      refine hR _ _ (.sub ?_)
      rw [show TellA t s l = .tup [LI (tellFrom t s l), nilE] by simp only [TellA, hc, if_true]; rw [if_pos hok]]
      refine .tup (.cons ?_ (.one (.refl _)))
      have := h9.sub
      unfold LI Lm
      rw [tellFrom_len]
      exact this
    | cons x rest =>
      subst hle
      have hx := hok.2.2 x (by simp)
      have hpl : pre.length < 1099511627776 := by simp at hl; omega
      have hr1 := hg.rows (goTo t s pre).toNat (by omega)
      simp only [nd0, Y1n, Y1o, Y1p, Y1q, Y1w, Y1x, Y1y, Y1z, Y20, Y21, Y28, Y2a, AV.cells?, Nat.reduceAdd, Nat.reduceMul, decide_eq_true (show (pre.length : Int) < ((pre ++ x :: rest).length : Int) by simp; omega)]
      rw [iaddr_LI lt_mid]
      simp only [nd0, Y1n, Y1o, Y1p, Y1q, Y1w, Y1x, Y1y, Y1z, Y20, Y21, Y28, Y2a, AV.cells?, Nat.reduceAdd, Nat.reduceMul, at_mid]
      rw [iaddr_LLIz hin.1 (by omega)]
      simp only [nd0, Y1n, Y1o, Y1p, Y1q, Y1w, Y1x, Y1y, Y1z, Y20, Y21, Y28, Y2a, AV.cells?, Nat.reduceAdd, Nat.reduceMul, row_get (show (goTo t s pre).toNat < t.tells.length by omega)]
      rw [iaddr_LIz hx.1 (by omega)]
      simp only [nd0, Y1n, Y1o, Y1p, Y1q, Y1w, Y1x, Y1y, Y1z, Y20, Y21, Y28, Y2a, AV.cells?, Nat.reduceAdd, Nat.reduceMul, cell_at (show x.toNat < (row t.tells (goTo t s pre).toNat).length by omega)]
      refine wNewS.F' (l := [Z (cell (row t.tells (goTo t s pre).toNat) x.toNat)]) rfl rfl ?_
      refine wApp.one (bytes := 8) h9 rfl (by simp [tellFrom_len]) (.refl _) rfl (by simp [mostBytes]; omega) fun z' x' c' hg' => ?_
      simp only [nd0, Y1n, Y1o, Y1p, Y1q, Y1w, Y1x, Y1y, Y1z, Y20, Y21, Y28, Y2a, AV.cells?, Nat.reduceAdd, Nat.reduceMul]
      rw [iaddr_LLIz hin.1 (by omega)]
      simp only [nd0, Y1n, Y1o, Y1p, Y1q, Y1w, Y1x, Y1y, Y1z, Y20, Y21, Y28, Y2a, AV.cells?, Nat.reduceAdd, Nat.reduceMul, row_get (show (goTo t s pre).toNat < t.next.length by omega)]
      rw [iaddr_LIz hx.1 (by omega)]
      simp only [nd0, Y1n, Y1o, Y1p, Y1q, Y1w, Y1x, Y1y, Y1z, Y20, Y21, Y28, Y2a, AV.cells?, Nat.reduceAdd, Nat.reduceMul, cell_at (show x.toNat < (row t.next (goTo t s pre).toNat).length by omega)]
      rw [binA_succ (by omega)]
      simp only [nd0, Y1n, Y1o, Y1p, Y1q, Y1w, Y1x, Y1y, Y1z, Y20, Y21, Y28, Y2a, AV.cells?, Nat.reduceAdd, Nat.reduceMul]
      have hgo : goTo t s (pre ++ [x]) = cell (row t.next (goTo t s pre).toNat) x.toNat := goTo_snoc t s pre x
      refine back3.mk rest.length (by simp) ⟨pre ++ [x], rest, z', c', by simp, by simp, rfl, by rw [hgo], by rw [hgo]; exact hg.next_in (by omega) (by omega), rfl, ?_⟩
      rw [tellFrom_snoc]
      simpa [goTo] using hg'
end
end Go.Sc
namespace Go.Sc
open Go
set_option linter.unusedSimpArgs false
set_option linter.unusedVariables false
set_option linter.unnecessarySimpa false

noncomputable def LeastA (t : Table) : AV := if check t = none then .tup [Tb (leastT t (Bl t)), nilE] else .tup [.agg [LLI [], LLI []], errA (check t)]
section
variable {E : Env} {P : Program}
theorem Least_spec (B : BlockBodies E P) (hb : Body1 E P 46 F.block_Blocks) (hcl : Body1 E P 57 F.slices_Clone_Lint_int) (hB : Body1 E P 49 F.block_Least) (t : Table) (hs : t.sized) : FX E P 49 [Tb t] (LeastA t) := by
  refine FX.of (by simp [AV.closedL, Tb_closed]) (by unfold LeastA; split <;> simp [AV.closed, AV.closedL, Tb_closed, LLI_closed, errA_closed]) fun n R hR => hB _ _ _ ?_
  unfold F.block_Least
  simp only [Tb]
  refine wNew.F' (l := [LLI t.next, LLI t.tells]) rfl ?_
  simp only [nd0, Y1n, Y1o, Y1p, Y1q, Y1w, Y1x, Y1y, Y1z, Y20, Y21, Y28, Y2a, AV.cells?, Nat.reduceAdd, Nat.reduceMul]
  refine wNew.L rfl ?_
  simp only [nd0, Y1n, Y1o, Y1p, Y1q, Y1w, Y1x, Y1y, Y1z, Y20, Y21, Y28, Y2a, AV.cells?, Nat.reduceAdd, Nat.reduceMul]
  refine wCall.fx (Blocks_spec B hb t hs) fun n1 => ?_
  by_cases hc : check t = none
  case neg =>
    obtain ⟨k, a, he⟩ := errA_some hc
    rw [show BlocksA t = .tup [nilS, .ifc k a] by simp [BlocksA, hc, he]]
    simp only [nd0, Y1n, Y1o, Y1p, Y1q, Y1w, Y1x, Y1y, Y1z, Y20, Y21, Y28, Y2a, AV.cells?, Nat.reduceAdd, Nat.reduceMul]
    refine ⟨⟨[nilS, nilS], rfl, ?_⟩⟩
    rw [storeN_L (n := 2) (xs := [nilS, nilS]) rfl rfl]
    simp only [nd0, Y1n, Y1o, Y1p, Y1q, Y1w, Y1x, Y1y, Y1z, Y20, Y21, Y28, Y2a, AV.cells?, Nat.reduceAdd, Nat.reduceMul, put_two, retPack_two]
    refine hR _ _ (.sub ?_)
    rw [show LeastA t = .tup [.agg [LLI [], LLI []], .ifc k a] by simp [LeastA, hc, he]]
    exact .tup (.cons (.agg (.cons .nil (.one .nil))) (.one (.refl _)))
  rw [show BlocksA t = .tup [LI (Bl t), nilE] by simp [BlocksA, hc]]
  simp only [nd0, Y1n, Y1o, Y1p, Y1q, Y1w, Y1x, Y1y, Y1z, Y20, Y21, Y28, Y2a, AV.cells?, Nat.reduceAdd, Nat.reduceMul]
  have hg := good_iff.1 hc
  have g1 := hg.pos; have g2 := hg.few; have g3 := hg.wide; have g4 := hg.tells
  have hbl : (Bl t).length = t.next.length := iter_len t _
  generalize hl : Bl t = l at *
  refine wNew.L rfl ?_
  simp only [nd0, Y1n, Y1o, Y1p, Y1q, Y1w, Y1x, Y1y, Y1z, Y20, Y21, Y28, Y2a, AV.cells?, Nat.reduceAdd, Nat.reduceMul, lenA_LI]
  refine wLoop.one (fun m i H => ∃ (s : Nat) (z2 z3 : Blk) (x y : AV) (c : Nat), s + m = t.next.length ∧ i = Z s ∧ H = ⟨[.cells n 2 [nilS, nilS], .cells n1 2 [x, y], z2, z3, .dead], c⟩ ∧ Gr 1 z2 2 x ((leastTo t l s).next.map LI) (repsTo l s).length ∧ Gr 1 z3 3 y ((leastTo t l s).tells.map LI) (repsTo l s).length) t.next.length
    (gh1.of (ghost_room [.dead, .dead, .dead] (by simp)) ⟨0, .dead, .dead, nilS, nilS, _, by omega, rfl, rfl, .nil, .nil⟩) ?_
  rintro m i H ⟨s, z2, z3, x, y, c, hsm, rfl, rfl, hx, hy⟩
  have hrl := repsTo_len l s
  by_cases hsl : s < t.next.length
  case neg =>
    have : s = t.next.length := by omega
    subst this
    simp only [nd0, Y1n, Y1o, Y1p, Y1q, Y1w, Y1x, Y1y, Y1z, Y20, Y21, Y28, Y2a, AV.cells?, Nat.reduceAdd, Nat.reduceMul, hbl, Int.lt_irrefl]
    rw [storeN_L (n := 2) (xs := [x, y]) rfl (by simp [hx.scalar, hy.scalar])]
    simp only [nd0, Y1n, Y1o, Y1p, Y1q, Y1w, Y1x, Y1y, Y1z, Y20, Y21, Y28, Y2a, AV.cells?, Nat.reduceAdd, Nat.reduceMul, put_two, retPack_two]
    refine hR _ _ (.sub ?_)
    rw [show LeastA t = .tup [Tb (leastT t l), nilE] by simp [LeastA, hc, hl]]
    refine .tup (.cons (.agg (.cons ?_ (.one ?_))) (.one (.refl _)))
    · have := hx.sub
      simpa [LLI, Lm, leastT, leastTo] using this
    · have := hy.sub
      simpa [LLI, Lm, leastT, leastTo] using this
  simp only [nd0, Y1n, Y1o, Y1p, Y1q, Y1w, Y1x, Y1y, Y1z, Y20, Y21, Y28, Y2a, AV.cells?, Nat.reduceAdd, Nat.reduceMul, hbl, decide_eq_true (show (s : Int) < (t.next.length : Int) by omega)]
  refine wJoin.zero (fun H => ∃ (z2 z3 : Blk) (x y : AV) (c : Nat), H = ⟨[.cells n 2 [nilS, nilS], .cells n1 2 [x, y], z2, z3, .dead], c⟩ ∧ Gr 1 z2 2 x ((leastTo t l (s + 1)).next.map LI) (repsTo l (s + 1)).length ∧ Gr 1 z3 3 y ((leastTo t l (s + 1)).tells.map LI) (repsTo l (s + 1)).length) ?_ ?_
  case refine_2 =>
    rintro H ⟨z2, z3, x, y, c, rfl, hx, hy⟩
    rw [binA_succ (by omega)]
    simp only [nd0, Y1n, Y1o, Y1p, Y1q, Y1w, Y1x, Y1y, Y1z, Y20, Y21, Y28, Y2a, AV.cells?, Nat.reduceAdd, Nat.reduceMul]
    exact back1.mk (m - 1) (by omega) ⟨s + 1, z2, z3, x, y, c, by omega, rfl, rfl, hx, hy⟩
  rw [iaddr_LI (show s < l.length by omega)]
  simp only [nd0, Y1n, Y1o, Y1p, Y1q, Y1w, Y1x, Y1y, Y1z, Y20, Y21, Y28, Y2a, AV.cells?, Nat.reduceAdd, Nat.reduceMul, cell_at (show s < l.length by omega), hx.len]
  refine wIf.dec (fun hk => ?_) fun hk => ?_
  · have : repsTo l (s + 1) = repsTo l s := by simp only [repsTo]; rw [if_pos hk]
    exact gh0.mk ⟨z2, z3, x, y, c, rfl, by unfold leastTo at *; rw [this]; exact hx, by unfold leastTo at *; rw [this]; exact hy⟩
  have hrep : repsTo l (s + 1) = repsTo l s ++ [s] := by simp only [repsTo]; rw [if_neg hk]
  have hrow := hg.rows s hsl
  rw [iaddr_LLI hsl]
  simp only [nd0, Y1n, Y1o, Y1p, Y1q, Y1w, Y1x, Y1y, Y1z, Y20, Y21, Y28, Y2a, AV.cells?, Nat.reduceAdd, Nat.reduceMul, row_get hsl, lenA_LI]
  refine wLoop.two (fun m t9 i H => ∃ (pre rest : List Int) (z4 : Blk) (c : Nat), row t.next s = pre ++ rest ∧ i = Z pre.length ∧ m = rest.length ∧ H = ⟨[.cells n 2 [nilS, nilS], .cells n1 2 [x, y], z2, z3, z4], c⟩ ∧ Gr 1 z4 4 t9 ((pre.map fun y => cell l y.toNat).map fun z => Z z) pre.length) (row t.next s).length
    (gh2.mk ⟨[], row t.next s, .dead, c, rfl, rfl, rfl, rfl, .nil⟩) ?_
  rintro m2 t9 i H ⟨pre, rest, z4, c2, hre, rfl, rfl, rfl, h9⟩
  rw [hre] at hrow
  rw [hre]
  cases rest with
  | cons z rest =>
    have hpl : pre.length < 100 := by simp at hrow; omega
    simp only [nd0, Y1n, Y1o, Y1p, Y1q, Y1w, Y1x, Y1y, Y1z, Y20, Y21, Y28, Y2a, AV.cells?, Nat.reduceAdd, Nat.reduceMul, decide_eq_true (show (pre.length : Int) < ((pre ++ z :: rest).length : Int) by simp; omega)]
    rw [iaddr_LI lt_mid]
    simp only [nd0, Y1n, Y1o, Y1p, Y1q, Y1w, Y1x, Y1y, Y1z, Y20, Y21, Y28, Y2a, AV.cells?, Nat.reduceAdd, Nat.reduceMul, at_mid]
    have hth := hg.there s hsl z (by rw [hre]; simp)
    rw [iaddr_LIz hth.1 (by omega)]
    simp only [nd0, Y1n, Y1o, Y1p, Y1q, Y1w, Y1x, Y1y, Y1z, Y20, Y21, Y28, Y2a, AV.cells?, Nat.reduceAdd, Nat.reduceMul, cell_at (show z.toNat < l.length by omega)]
    refine wNewS.F' (l := [Z (cell l z.toNat)]) rfl rfl ?_
    refine wApp.one (bytes := 8) h9 rfl (by simp) (.refl _) rfl (by simp [mostBytes]; omega) fun z' x' c' hg' => ?_
    simp only [nd0, Y1n, Y1o, Y1p, Y1q, Y1w, Y1x, Y1y, Y1z, Y20, Y21, Y28, Y2a, AV.cells?, Nat.reduceAdd, Nat.reduceMul]
    rw [binA_succ (by omega)]
    simp only [nd0, Y1n, Y1o, Y1p, Y1q, Y1w, Y1x, Y1y, Y1z, Y20, Y21, Y28, Y2a, AV.cells?, Nat.reduceAdd, Nat.reduceMul]
    exact back2.mk rest.length (by simp) ⟨pre ++ [z], rest, z', c', by simp, by simp, rfl, rfl, by simpa using hg'⟩
  | nil =>
    simp only [List.append_nil] at hre hrow ⊢
    simp only [nd0, Y1n, Y1o, Y1p, Y1q, Y1w, Y1x, Y1y, Y1z, Y20, Y21, Y28, Y2a, AV.cells?, Nat.reduceAdd, Nat.reduceMul, Int.lt_irrefl]
    have hst : s < t.tells.length := by omega
    rw [iaddr_LLI hst]
    simp only [nd0, Y1n, Y1o, Y1p, Y1q, Y1w, Y1x, Y1y, Y1z, Y20, Y21, Y28, Y2a, AV.cells?, Nat.reduceAdd, Nat.reduceMul, row_get hst]
    have hsub : Sub t9 (LI (pre.map fun y => cell l y.toNat)) := by
      have := h9.sub
      simpa [LI, Lm] using this
    refine wNewS.F (l := [t9]) (l' := [LI (pre.map fun y => cell l y.toNat)]) (by simp [fillA_one h9.scalar, fillA_nil]) (.one hsub) rfl ?_
    simp only [nd0, Y1n, Y1o, Y1p, Y1q, Y1w, Y1x, Y1y, Y1z, Y20, Y21, Y28, Y2a, AV.cells?, Nat.reduceAdd, Nat.reduceMul, row_get hst, and_self, true_and]
    refine wApp.one (bytes := 24) hx rfl (by simp [leastTo]) (.refl _) (LI_scalar _) (by simp [mostBytes]; omega) fun z2' x' c' hx' => ?_
    simp only [nd0, Y1n, Y1o, Y1p, Y1q, Y1w, Y1x, Y1y, Y1z, Y20, Y21, Y28, Y2a, AV.cells?, Nat.reduceAdd, Nat.reduceMul, row_get hst, and_self, true_and]
    refine wCall.fx (Clone_spec hcl (row t.tells s) (by omega)) fun n3 => ?_
    simp only [nd0, Y1n, Y1o, Y1p, Y1q, Y1w, Y1x, Y1y, Y1z, Y20, Y21, Y28, Y2a, AV.cells?, Nat.reduceAdd, Nat.reduceMul, and_self, true_and]
    refine wNewS.F' (l := [LI (row t.tells s)]) rfl rfl ?_
    simp only [nd0, Y1n, Y1o, Y1p, Y1q, Y1w, Y1x, Y1y, Y1z, Y20, Y21, Y28, Y2a, AV.cells?, Nat.reduceAdd, Nat.reduceMul, and_self, true_and]
    refine wApp.one (bytes := 24) hy rfl (by simp [leastTo]) (.refl _) (LI_scalar _) (by simp [mostBytes]; omega) fun z3' y' c'' hy' => ?_
    simp only [nd0, Y1n, Y1o, Y1p, Y1q, Y1w, Y1x, Y1y, Y1z, Y20, Y21, Y28, Y2a, AV.cells?, Nat.reduceAdd, Nat.reduceMul]
    rw [store1_L hx'.scalar]
    simp only [nd0, Y1n, Y1o, Y1p, Y1q, Y1w, Y1x, Y1y, Y1z, Y20, Y21, Y28, Y2a, AV.cells?, Nat.reduceAdd, Nat.reduceMul, Nat.reduceLT]
    rw [store1_L hy'.scalar]
    simp only [nd0, Y1n, Y1o, Y1p, Y1q, Y1w, Y1x, Y1y, Y1z, Y20, Y21, Y28, Y2a, AV.cells?, Nat.reduceAdd, Nat.reduceMul, Nat.reduceLT]
    have hgh : Ghost [] ⟨[.cells n 2 [nilS, nilS], .cells n1 2 [x', y'], z2', z3', z4], c''⟩ [] ⟨[.cells n 2 [nilS, nilS], .cells n1 2 [x', y'], z2', z3', .dead], c''⟩ :=
      ghost_kill (H := ⟨[.cells n 2 [nilS, nilS], .cells n1 2 [x', y'], z2', z3', z4], c''⟩) (H' := ⟨[.cells n 2 [nilS, nilS], .cells n1 2 [x', y'], z2', z3', .dead], c''⟩) (S := fun i => i == 4) rfl (.keep rfl (KB.same _) (.keep rfl (KB.same _) (.keep rfl (KB.same _) (.keep rfl (KB.same _) (.dead rfl .nil))))) .nil
    refine gh0.of hgh ⟨z2', z3', x', y', c'', rfl, ?_, ?_⟩
    · unfold leastTo at *
      rw [hrep]
      simpa [hre] using hx'
    · unfold leastTo at *
      rw [hrep]
      simpa using hy'
end
end Go.Sc
