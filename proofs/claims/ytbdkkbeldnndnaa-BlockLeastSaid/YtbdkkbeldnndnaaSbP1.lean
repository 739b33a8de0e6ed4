/-
  CONTRACTS: lists of numbers are compared, searched, numbered.
-/
import Derived.Test.YtbdkkbeldnndnaaSbO
import Derived.Test.YtbdkkbeldnndnaaSbV1
namespace Go.Sb
open Go

/-- what a function's nodes say is so of its calls -/
abbrev Body1 (E : Env) (P : Program) (k : Nat) (F : Env → Program → AV → AH → Kt → Prop) : Prop := ∀ a H R, F E P a H R → ACalls E P k [a] H R
abbrev Body2 (E : Env) (P : Program) (k : Nat) (F : Env → Program → AV → AV → AH → Kt → Prop) : Prop := ∀ a b H R, F E P a b H R → ACalls E P k [a, b] H R
abbrev Body3 (E : Env) (P : Program) (k : Nat) (F : Env → Program → AV → AV → AV → AH → Kt → Prop) : Prop := ∀ a b d H R, F E P a b d H R → ACalls E P k [a, b, d] H R
abbrev Body0 (E : Env) (P : Program) (k : Nat) (F : Env → Program → AH → Kt → Prop) : Prop := ∀ H R, F E P H R → ACalls E P k [] H R

def ints (l : List Int) : List AV := l.map fun i => .val (.int .i64 i)
/-- a list of numbers -/
def Ints (x : AV) (l : List Int) : Prop := Sl x (ints l)
theorem ints_length (l : List Int) : (ints l).length = l.length := by simp [ints]
theorem ints_get {l : List Int} {i : Nat} (hi : i < l.length) : (ints l)[i]? = some (.val (.int .i64 l[i])) := by simp [ints, hi]
theorem Ints.len {x : AV} {l : List Int} (h : Ints x l) : lenA x = some (.val (.int .i64 l.length)) := by rw [Sl.len h, ints_length]
theorem Ints.at {x : AV} {l : List Int} (h : Ints x l) {k : IntKind} {i : Nat} (hi : i < l.length) : iaddr 1 x (.val (.int k i)) = some (.ptrF (ints l) i) := Sl.at h (by rwa [ints_length])
theorem Ints.closed {x : AV} {l : List Int} (h : Ints x l) : x.closed := Sl.closed h (by simp [ints, AV.closed])

def flag (b : Bool) : AV := .val (.bool b)
section
variable {E : Env} {P : Program}
theorem Equal_spec (hB : Body2 E P 15 F.slices_Equal_Lint_int) {x y : AV} {l l' : List Int} (hx : Ints x l) (hy : Ints y l') (hl : l.length < 1000000000) : FC E P 15 [x, y] (fun r => r = flag (decide (l = l'))) := by
  refine FC.of fun n => hB _ _ _ _ ?_
  unfold F.slices_Equal_Lint_int
  simp only [hx.len, hy.len, wGet_some, binA_neq, wIf_bool]
  refine ⟨fun h => ?_, fun h => ?_⟩
  · refine ⟨_, .same _, ?_⟩
    have : l ≠ l' := by rintro rfl; simp at h
    simp [flag, this]
  · have hlen : l.length = l'.length := by have := h; simp at this; omega
    refine wLoop.one (fun m t H => ∃ i : Nat, i + m = l.length ∧ t = .val (.int .i64 i) ∧ ∀ j, j < i → l[j]? = l'[j]?) l.length (gh1.mk ⟨0, by simp, rfl, by simp⟩) ?_
    rintro m t H ⟨i, him, rfl, hpre⟩
    simp only [wGet_some, binA_lss, wIf_bool]
    refine ⟨fun hlt => ?_, fun hge => ?_⟩
    · have hi : i < l.length := by simpa using hlt
      have hi' : i < l'.length := by omega
      simp only [hx.at hi, hy.at hi', wGet_some, load1_F, ints_get hi, ints_get hi', binA_neq, wIf_bool]
      refine ⟨fun hne => ⟨_, .same _, ?_⟩, fun he => ?_⟩
      · have : l ≠ l' := by rintro rfl; simp at hne
        simp [flag, this]
      · rw [binA_succ (by omega)]
        simp only [wGet_some]
        refine back1.mk (m' := m - 1) (by omega) ⟨i + 1, by omega, rfl, fun j hj => ?_⟩
        by_cases hji : j < i
        · exact hpre j hji
        · have : j = i := by omega
          subst this
          simpa [hi, hi'] using he
    · refine ⟨_, .same _, ?_⟩
      have : l = l' := by
        apply List.ext_getElem?
        intro j
        by_cases hj : j < i
        · exact hpre j hj
        · have : ¬ (i : Int) < l.length := by simpa using hge
          rw [List.getElem?_eq_none (by omega), List.getElem?_eq_none (by omega)]
      simp [flag, this]

theorem number_c1_spec (hB : Body2 E P 17 F.block_number_c1) (hEq : Body2 E P 15 F.slices_Equal_Lint_int) {x y : AV} {l l' : List Int} (hx : Ints x l) (hy : Ints y l') (hl : l.length < 1000000000) : FC E P 17 [x, .ptrF [y] 0] (fun r => r = flag (decide (l = l'))) := by
  refine FC.of fun n => hB _ _ _ _ ?_
  unfold F.block_number_c1
  simp only [load1_F, List.getElem?_cons_zero, wGet_some]
  refine wCall.lift (Equal_spec hEq hx hy hl) (by simp [AV.closedL, hx.closed, hy.closed]) (fun r h => by subst h; simp [flag, AV.closed]) fun r h => ⟨r, .same _, h⟩

def idxZ : Option Nat → Int
  | some i => i
  | none => -1
/-- the first one of 'n' -/
def IsFirst (n : Nat) (p : Nat → Bool) : Option Nat → Prop
  | some i => i < n ∧ p i = true ∧ ∀ j, j < i → p j = false
  | none => ∀ j, j < n → p j = false

theorem IndexFunc_any {G : Env → Program → AV → AV → AH → Kt → Prop} (hF : G = F.slices_IndexFunc_LLint_Lint ∨ G = F.slices_IndexFunc_Lint_int) {kk : Nat} (hB : Body2 E P kk G) {x : AV} {xs : List AV} (hx : Sl x xs) (hc : ∀ y ∈ xs, y.closed) (hl : xs.length < 1000000000) {k : Nat} {fs cs : List AV} (hfs : AV.closedL fs) (hcs : AV.closedL cs) {p : Nat → Bool}
    (hp : ∀ i y, xs[i]? = some y → FC E P k (fs ++ [y] ++ cs) (fun r => r = flag (p i))) : FC E P kk [x, .fn k fs cs] (fun r => ∃ o, IsFirst xs.length p o ∧ r = .val (.int .i64 (idxZ o))) := by
  refine FC.of fun n => hB _ _ _ _ ?_
  have main : wLoop 1 (fun I1 => I1 (.val (.int .i64 (0 : Nat))) ⟨[], n⟩) fun I1 t8 H =>
    wGet (binA .lss t8 (.val (.int .i64 xs.length))) H fun t9 H =>
    wIf t9 (
      wGet (iaddr 1 x t8) H fun t14 H =>
      wGet (load1 t14 H) H fun t15 H =>
      wCallV E P (.fn k fs cs) [t15] H fun t16 H =>
      wIf t16 (
        (fun r H' => ∃ r', Fz H' 0 [] r r' ∧ ∃ o, IsFirst xs.length p o ∧ r' = .val (.int .i64 (idxZ o))) t8 H) (
        wGet (binA .add t8 (.val (.int .i64 1))) H fun t18 H =>
        I1 t18 H)) (
      (fun r H' => ∃ r', Fz H' 0 [] r r' ∧ ∃ o, IsFirst xs.length p o ∧ r' = .val (.int .i64 (idxZ o))) (.val (.int .i64 (-1))) H) := by
    refine wLoop.one (fun m t H => ∃ i : Nat, i + m = xs.length ∧ t = .val (.int .i64 i) ∧ ∀ j, j < i → p j = false) xs.length (gh1.mk ⟨0, by simp, rfl, by simp⟩) ?_
    rintro m t H ⟨i, him, rfl, hpre⟩
    simp only [wGet_some, binA_lss, wIf_bool]
    refine ⟨fun hlt => ?_, fun hge => ?_⟩
    · have hi : i < xs.length := by simpa using hlt
      simp only [hx.at hi, wGet_some, load1_F, List.getElem?_eq_getElem hi]
      refine wCallV.lift (hp i _ (List.getElem?_eq_getElem hi)) ?_ (fun r h => by subst h; simp [flag, AV.closed]) fun r h => ?_
      · simp only [AV.closedL_iff] at hfs hcs ⊢
        intro z hz
        simp only [List.mem_append, List.mem_singleton] at hz
        rcases hz with (hz | rfl) | hz
        · exact hfs z hz
        · exact hc _ (List.getElem_mem hi)
        · exact hcs z hz
      · subst h
        simp only [flag, wIf_bool]
        refine ⟨fun h => ⟨_, .same _, some i, ⟨hi, h, hpre⟩, rfl⟩, fun h => ?_⟩
        rw [binA_succ (by omega)]
        simp only [wGet_some]
        refine back1.mk (m' := m - 1) (by omega) ⟨i + 1, by omega, rfl, fun j hj => ?_⟩
        by_cases hji : j < i
        · exact hpre j hji
        · have : j = i := by omega
          subst this; exact h
    · refine ⟨_, .same _, none, fun j hj => hpre j ?_, rfl⟩
      have : ¬ (i : Int) < xs.length := by simpa using hge
      omega
  rcases hF with rfl | rfl
  · unfold F.slices_IndexFunc_LLint_Lint
    rw [hx.len]
    simp only [wGet_some]
    exact main
  · unfold F.slices_IndexFunc_Lint_int
    rw [hx.len]
    simp only [wGet_some]
    exact main

theorem IsFirst.findIdx {α : Type} {l : List α} {p : α → Bool} {o : Option Nat} (h : IsFirst l.length (fun i => (l[i]?.map p).getD false) o) : l.findIdx? p = o := by
  cases o with
  | none =>
    rw [List.findIdx?_eq_none_iff]
    intro x hx
    obtain ⟨i, hi, rfl⟩ := List.getElem_of_mem hx
    have := h i hi
    simpa [hi] using this
  | some i =>
    obtain ⟨h1, h2, h3⟩ := h
    rw [List.findIdx?_eq_some_iff_getElem]
    refine ⟨h1, by simpa [h1] using h2, fun j hj => ?_⟩
    have := h3 j hj
    simpa [show j < l.length by omega] using this

/-- lists are numbered as they come: those that are seen, and the numbers -/
def numStep (s : List (List Int) × List Int) (l : List Int) : List (List Int) × List Int :=
  match s.1.findIdx? (fun x => decide (x = l)) with
  | some k => (s.1, s.2 ++ [(k : Int)])
  | none => (s.1 ++ [l], s.2 ++ [(s.1.length : Int)])
def numAll (t : List (List Int)) : List (List Int) × List Int := t.foldl numStep ([], [])
def number (t : List (List Int)) : List Int := (numAll t).2

/-- a list of lists -/
def AllInts (xs : List AV) (t : List (List Int)) : Prop := xs.length = t.length ∧ ∀ (i : Nat) y, xs[i]? = some y → ∃ l, t[i]? = some l ∧ Ints y l
def Rows (x : AV) (t : List (List Int)) : Prop := ∃ xs, Sl x xs ∧ AllInts xs t
theorem AllInts.nil : AllInts [] [] := ⟨rfl, by simp⟩
theorem AllInts.snoc {xs : List AV} {t : List (List Int)} (h : AllInts xs t) {y : AV} {l : List Int} (hy : Ints y l) : AllInts (xs ++ [y]) (t ++ [l]) := by
  refine ⟨by simp [h.1], fun i z hz => ?_⟩
  by_cases hi : i < xs.length
  · rw [List.getElem?_append_left hi] at hz
    rw [List.getElem?_append_left (by rw [← h.1]; exact hi)]
    exact h.2 i z hz
  · have hlt := lt_of_get hz
    simp at hlt
    have : i = xs.length := by omega
    subst this
    simp at hz
    subst hz
    exact ⟨l, by simp [h.1], hy⟩
theorem AllInts.closed {xs : List AV} {t : List (List Int)} (h : AllInts xs t) : ∀ y ∈ xs, y.closed := by
  intro y hy
  obtain ⟨i, hi, rfl⟩ := List.getElem_of_mem hy
  obtain ⟨l, _, hl⟩ := h.2 i _ (List.getElem?_eq_getElem hi)
  exact hl.closed
theorem AllInts.get {xs : List AV} {t : List (List Int)} (h : AllInts xs t) {i : Nat} (hi : i < t.length) : ∃ y, xs[i]? = some y ∧ Ints y t[i] := by
  have hi' : i < xs.length := by rw [h.1]; exact hi
  obtain ⟨l, h1, h2⟩ := h.2 i _ (List.getElem?_eq_getElem hi')
  rw [List.getElem?_eq_getElem hi] at h1; injection h1 with h1; subst h1
  exact ⟨_, List.getElem?_eq_getElem hi', h2⟩
theorem Rows.closed {x : AV} {t : List (List Int)} (h : Rows x t) : x.closed := by
  obtain ⟨xs, h1, h2⟩ := h
  exact h1.closed h2.closed

theorem numStep_len (s : List (List Int) × List Int) (l : List Int) : (numStep s l).1.length ≤ s.1.length + 1 ∧ (numStep s l).2.length = s.2.length + 1 := by
  unfold numStep; split <;> simp
theorem numAll_len (t : List (List Int)) : (numAll t).1.length ≤ t.length ∧ (numAll t).2.length = t.length := by
  suffices h : ∀ (t : List (List Int)) s, (t.foldl numStep s).1.length ≤ s.1.length + t.length ∧ (t.foldl numStep s).2.length = s.2.length + t.length by
    simpa [numAll] using h t ([], [])
  intro t
  induction t with
  | nil => simp
  | cons l t ih =>
    intro s
    have h1 := ih (numStep s l)
    have h2 := numStep_len s l
    simp only [List.foldl_cons, List.length_cons]
    omega
theorem numAll_mem (t : List (List Int)) : ∀ l ∈ (numAll t).1, l ∈ t := by
  suffices h : ∀ (t : List (List Int)) s (q : List (List Int)), (∀ l ∈ s.1, l ∈ q) → ∀ l ∈ (t.foldl numStep s).1, l ∈ q ∨ l ∈ t by
    intro l hl
    rcases h t ([], []) [] (by simp) l hl with h | h
    · simp at h
    · exact h
  intro t
  induction t with
  | nil => intro s q hs l hl; exact .inl (hs l hl)
  | cons z t ih =>
    intro s q hs l hl
    rcases ih (numStep s z) (z :: q) (by
      intro l hl
      unfold numStep at hl
      split at hl
      · exact List.mem_cons_of_mem _ (hs l hl)
      · simp only [List.mem_append, List.mem_singleton] at hl
        rcases hl with hl | rfl
        · exact List.mem_cons_of_mem _ (hs l hl)
        · exact List.mem_cons_self) l hl with h | h
    · rcases List.mem_cons.1 h with rfl | h
      · exact .inr List.mem_cons_self
      · exact .inl h
    · exact .inr (List.mem_cons_of_mem _ h)
theorem numAll_take_succ {t : List (List Int)} {i : Nat} (hi : i < t.length) : numAll (t.take (i + 1)) = numStep (numAll (t.take i)) t[i] := by
  simp only [numAll]
  rw [List.take_succ_eq_append_getElem hi, List.foldl_append]
  rfl

theorem number_spec (hB : Body1 E P 14 F.block_number) (hI : Body2 E P 11 F.slices_IndexFunc_LLint_Lint) (hN : Body2 E P 17 F.block_number_c1) (hEq : Body2 E P 15 F.slices_Equal_Lint_int)
    {x : AV} {t : List (List Int)} (hx : Rows x t) (hl : t.length < 1000000) (hll : ∀ l ∈ t, l.length < 1000000000) : FC E P 14 [x] (fun r => Ints r (number t)) := by
  obtain ⟨xs, hx, ha⟩ := hx
  refine FC.of fun n => hB _ _ _ ?_
  unfold F.block_number
  rw [hx.len]
  simp only [wGet_some]
  refine wLoop.three (fun m t3 t4 t10 H => ∃ i : Nat, i + m = t.length ∧ t10 = .val (.int .i64 i) ∧ ∃ sx, AllInts sx (numAll (t.take i)).1 ∧ Own H 0 t3 sx ∧ Own H 0 t4 (ints (numAll (t.take i)).2) ∧ Apart t3 t4) t.length
    (gh3.mk ⟨0, by simp, rfl, [], by simpa [numAll] using AllInts.nil, .inl ⟨rfl, rfl⟩, .inl ⟨rfl, by simp [numAll, ints]⟩, .nil⟩) ?_
  rintro m t3 t4 t10 H ⟨i, him, rfl, sx, hsx, h3, h4, hap⟩
  have hlen := numAll_len (t.take i)
  simp only [List.length_take] at hlen
  simp only [wGet_some, binA_lss, wIf_bool, ha.1]
  refine ⟨fun hlt => ?_, fun hge => ?_⟩
  · have hi : i < t.length := by simpa using hlt
    obtain ⟨y, hy, hyl⟩ := ha.get hi
    rw [hx.at (lt_of_get hy)]
    simp only [wGet_some, load1_F, hy, wNew_some]
    have hE1 : Ext H (H.push 1 [y]) := .push _ _ _
    have hst : store1 (.ptrL H.bs.length 0 H.ctr) y (H.push 1 [.val (.slice none 0 0)]) = some (H.push 1 [y]) := by
      have hsc : y.scalar = true := by
        rcases hyl with ⟨rfl, _⟩ | rfl <;> rfl
      simp [store1, hsc, AH.cells, AH.push, AH.set]
    rw [hst]
    simp only [wPut_some]
    -- the call of IndexFunc
    obtain ⟨x', hz1, hz2⟩ := (h3.ext hE1).frozen (m0 := 0) (mv := []) (Nat.le_refl _) (by simp) (FzL.same sx)
    have hpt : Fz (H.push 1 [y]) 0 [] (.ptrL H.bs.length 0 H.ctr) (.ptrF [y] 0) := Fz.ptrF 1 (push_get H 1 [y]) (Nat.zero_le _) (by simp) (by simpa using FzL.same [y])
    refine wCall.borrow (IndexFunc_any (.inl rfl) hI (k := 17) (fs := []) (cs := [.ptrF [y] 0]) (p := fun j => ((numAll (t.take i)).1[j]?.map (fun z => decide (z = t[i]))).getD false) hz2 hsx.closed ?_ (by simp [AV.closedL]) ?_ ?_) (.cons hz1 (.cons (.fn .nil (.cons hpt .nil)) .nil)) ?_ fun r hr => ?_
    · rw [hsx.1]; omega
    · simp [AV.closedL, AV.closed, hyl.closed]
    · intro j z hz
      obtain ⟨l, e1, e2⟩ := hsx.2 j z hz
      have hb : l.length < 1000000000 := hll l (List.mem_of_mem_take (numAll_mem _ l (List.mem_of_getElem? e1)))
      refine (number_c1_spec hN hEq e2 hyl hb).mono fun r hr => ?_
      simp [hr, e1]
    · rintro r ⟨o, _, rfl⟩; simp [AV.flat]
    · obtain ⟨o, ho, rfl⟩ := hr
      rw [hsx.1] at ho
      have hfi := ho.findIdx
      have hnext := numAll_take_succ hi
      have hl1 : (numAll (t.take i)).2.length = i := by rw [hlen.2]; omega
      refine wJoin.two (fun t3' t7 H' => ∃ sx' k, t7 = .val (.int .i64 k) ∧ AllInts sx' (numAll (t.take (i + 1))).1 ∧ (numAll (t.take (i + 1))).2 = (numAll (t.take i)).2 ++ [k] ∧ Own H' 0 t3' sx' ∧ Own H' 0 t4 (ints (numAll (t.take i)).2) ∧ Apart t3' t4) ?_ ?_
      · simp only [wGet_some, binA_lss, wIf_bool]
        cases o with
        | some j =>
          simp only [idxZ]
          refine ⟨fun h => by have := of_decide_eq_true h; omega, fun _ => gh2.mk ⟨sx, (j : Int), rfl, ?_, ?_, h3.ext hE1, h4.ext hE1, hap⟩⟩
          · rw [hnext, numStep, hfi]; exact hsx
          · rw [hnext, numStep, hfi]
        | none =>
          refine ⟨fun _ => ?_, fun h => by simp [idxZ] at h⟩
          simp only [h3.len, wGet_some, load1_L (push_get H 1 [y]), List.getElem?_cons_zero]
          have hfl : fillA (List.replicate 1 [AV.val (.slice none 0 0)]).flatten [(0, 1, y)] = some [y] := by
            rcases hyl with ⟨rfl, _⟩ | rfl <;> rfl
          rw [hfl]
          simp only [wNewS_some]
          refine ⟨rfl, ?_⟩
          have hE2 : Ext H ((H.push 1 [y]).push 1 [y]) := hE1.trans (.push _ _ _)
          have hysc : y.scalar = true := by rcases hyl with ⟨rfl, _⟩ | rfl <;> rfl
          obtain ⟨x2, H2, q1, q2, q3, q4, q5⟩ := (h3.ext hE2).grow (Nat.zero_le _) (bytes := 24) (y := .slL (H.push 1 [y]).bs.length 0 1 (H.push 1 [y]).ctr) (new := [y]) (n := 1)
            (by simp only [cellsOfA, AH.cells_eq (push_get (H.push 1 [y]) 1 [y])]; rfl) rfl (by simpa using hysc) (by simp only [mostBytes, hsx.1]; omega) (by simp only [mostBytes, hsx.1]; omega)
          rw [q1]
          simp only [wDo_some]
          obtain ⟨r1, r2⟩ := q5 _ _ (h4.ext hE2) hap
          refine gh2.mk ⟨sx ++ [y], ((numAll (t.take i)).1.length : Int), by rw [hsx.1], ?_, ?_, q2, r1, r2⟩
          · rw [hnext, numStep, hfi]; exact hsx.snoc hyl
          · rw [hnext, numStep, hfi]
      · rintro t3' t7 H' ⟨sx', k, rfl, h1, h2, h3', h4', hap'⟩
        have hfl : fillA (List.replicate 1 [AV.val (.int .i64 0)]).flatten [(0, 1, AV.val (.int .i64 k))] = some [AV.val (.int .i64 k)] := rfl
        rw [hfl]
        simp only [wNewS_some]
        refine ⟨rfl, ?_⟩
        have hE : Ext H' (H'.push 1 [AV.val (.int .i64 k)]) := .push _ _ _
        obtain ⟨x2, H2, q1, q2, q3, q4, q5⟩ := (h4'.ext hE).grow (Nat.zero_le _) (bytes := 8) (y := .slL H'.bs.length 0 1 H'.ctr) (new := [AV.val (.int .i64 k)]) (n := 1)
          (by simp only [cellsOfA, AH.cells_eq (push_get H' 1 [AV.val (.int .i64 k)])]; rfl) rfl rfl (by simp only [mostBytes, ints_length, hl1]; omega) (by simp only [mostBytes, ints_length, hl1]; omega)
        rw [q1]
        simp only [wDo_some]
        obtain ⟨r1, r2⟩ := q5 _ _ (h3'.ext hE) hap'.symm
        rw [binA_succ (by omega)]
        simp only [wGet_some]
        refine back3.mk (m' := m - 1) (by omega) ⟨i + 1, by omega, rfl, sx', h1, r1, ?_, r2.symm⟩
        rw [h2]; simpa [ints] using q2
  · have hge' : ¬ (i : Int) < t.length := by simpa using hge
    have hit : t.take i = t := List.take_of_length_le (by omega)
    rw [hit] at h4
    obtain ⟨x', hz1, hz2⟩ := h4.frozen (m0 := 0) (mv := []) (Nat.le_refl _) (by simp) (FzL.same _)
    exact ⟨x', hz1, hz2⟩
end
end Go.Sb
