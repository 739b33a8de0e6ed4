/- WHAT AN EXPRESSION's TEXT TELLS IS THAT EXPRESSION AGAIN: plain. CONTRACTS: package expr: how great an expression is; the keep's fact of it. THE LAW ExprBack, out of the contracts. (of the seat YtlacodgoaggakaaDoor) -/
import Derived.Test.YtlacodgoaggakaaDoorCore10
namespace Go.Sc
open Go
set_option linter.unusedSimpArgs false
set_option linter.unusedVariables false

/-! ### how deep -/
mutual
def Ex.dep : Ex → Nat
  | .not x => x.dep + 1
  | .and l => Ex.depL l + 1
  | .or l => Ex.depO l + 1
  | _ => 1
def Ex.depL : List Ex → Nat
  | [] => 0
  | x :: l => max x.dep (Ex.depL l)
def Ex.depO : List Ex → Nat
  | [] => 0
  | x :: l => max (if x.isAnd then x.dep - 1 else x.dep) (Ex.depO l)
end
def Ex.dA (x : Ex) : Nat := if x.isAnd then x.dep - 1 else x.dep
def Ex.dO (x : Ex) : Nat := if x.isOr then x.dep - 1 else x.dA
theorem Ex.depL_le {d : Nat} : ∀ {l : List Ex}, Ex.depL l ≤ d ↔ ∀ x ∈ l, x.dep ≤ d
  | [] => by simp [Ex.depL]
  | x :: l => by simp [Ex.depL, Ex.depL_le (l := l), Nat.max_le]
theorem Ex.depO_le {d : Nat} : ∀ {l : List Ex}, Ex.depO l ≤ d ↔ ∀ x ∈ l, x.dA ≤ d
  | [] => by simp [Ex.depO]
  | x :: l => by simp only [Ex.depO, Nat.max_le, Ex.depO_le (l := l), List.mem_cons, forall_eq_or_imp, Ex.dA]
theorem Ex.dA_le (x : Ex) : x.dA ≤ x.dep := by unfold Ex.dA; split <;> omega
theorem Ex.dO_le (x : Ex) : x.dO ≤ x.dA := by
  unfold Ex.dO
  split
  · rename_i h
    have : x.isAnd = false := by cases x <;> simp_all [Ex.isOr, Ex.isAnd]
    simp [Ex.dA, this]
  · exact Nat.le_refl _
theorem Ex.dep_dO (x : Ex) : x.dep ≤ x.dO + 1 := by
  unfold Ex.dO Ex.dA
  split
  · omega
  · split <;> omega
theorem Ex.dA_dO (x : Ex) : x.dA ≤ x.dO + 1 := Nat.le_trans x.dA_le x.dep_dO
def DepR (s : Str) (m : Ex → Nat) (d : Nat) (f : Nat → Rs Ex) : Prop := ∀ i x j, f i = .ok x j → m x ≤ d
theorem rowR_mem {s : Str} {c : UInt8} {f : Nat → Rs Ex} {Q : Ex → Prop} (hf : ∀ i x j, f i = .ok x j → Q x) : ∀ (n i : Nat) (l : List Ex) {l' : List Ex} {j : Nat}, (∀ x ∈ l, Q x) → rowR s c f n i l = .ok l' j → ∀ x ∈ l', Q x
  | 0, i, l, l', j, _, h => by simp [rowR] at h
  | n + 1, i, l, l', j, hl, h => by
    unfold rowR at h
    split at h
    · cases h
    · rename_i x k hx
      have hl2 : ∀ y ∈ l ++ [x], Q y := fun y hy => by
        rcases List.mem_append.1 hy with hy | hy
        · exact hl y hy
        · simp at hy; subst hy; exact hf _ _ _ hx
      split at h
      · exact rowR_mem hf n _ _ hl2 h
      · injection h with h1 h2
        subst h1
        exact hl2
theorem allR_mem {s : Str} {c : UInt8} {mk : List Ex → Ex} {f : Nat → Rs Ex} {Q R : Ex → Prop} (hf : ∀ i x j, f i = .ok x j → Q x) (h1 : ∀ x, Q x → R x) (h2 : ∀ l, (∀ x ∈ l, Q x) → R (mk l)) : ∀ i x j, allR s c mk f i = .ok x j → R x := by
  intro i x j h
  unfold allR at h
  split at h
  · rename_i l k hl
    injection h with h3 h4
    subst h3
    have := rowR_mem hf _ _ _ (by simp) hl
    match l, this with
    | [], this => exact h2 _ this
    | [x], this => exact h1 _ (this x (by simp))
    | x :: y :: r, this => exact h2 _ this
  · cases h
theorem andR_dep {s : Str} {d : Nat} {f : Nat → Rs Ex} (hf : ∀ i x j, f i = .ok x j → x.dep ≤ d) : ∀ i x j, andR s f i = .ok x j → x.dA ≤ d :=
  allR_mem hf (fun x h => Nat.le_trans x.dA_le h) (fun l h => by simpa [Ex.dA, Ex.isAnd, Ex.dep] using Ex.depL_le.2 h)
theorem orR_dep {s : Str} {d : Nat} {f : Nat → Rs Ex} (hf : ∀ i x j, f i = .ok x j → x.dep ≤ d) : ∀ i x j, orR s f i = .ok x j → x.dO ≤ d :=
  allR_mem (andR_dep hf) (fun x h => Nat.le_trans x.dO_le h) (fun l h => by simpa [Ex.dO, Ex.isOr, Ex.dep] using Ex.depO_le.2 h)
theorem oneR_dep (s : Str) : ∀ d i x j, oneR s d i = .ok x j → x.dep ≤ d
  | 0, i, x, j, h => by simp [oneR] at h
  | d + 1, i, x, j, h => by
    have ih := oneR_dep s d
    unfold oneR at h
    split at h
    · obtain ⟨y, hy, rfl⟩ := map_ok h
      have := ih _ _ _ hy
      simp only [Ex.dep]; omega
    split at h
    · cases ho : orR s (oneR s d) (skipTo s i + 1) with
      | no e p => rw [ho] at h; cases h
      | ok y k =>
        rw [ho] at h
        have := orR_dep ih _ _ _ ho
        have := y.dep_dO
        simp only [closeR] at h
        split at h
        · injection h with h1 h2
          subst h1
          omega
        · cases h
    split at h
    · injection h with h1 h2; subst h1; simp [Ex.dep]
    split at h
    · injection h with h1 h2; subst h1; simp [Ex.dep]
    split at h
    · obtain ⟨y, hy, rfl⟩ := map_ok h; simp [Ex.dep]
    split at h
    · obtain ⟨y, hy, rfl⟩ := map_ok h; simp [Ex.dep]
    · obtain ⟨y, hy, rfl⟩ := map_ok h; simp [Ex.dep]
theorem parseR_dep {s : Str} {x : Ex} {j : Nat} (h : parseR s = .ok x j) : x.dO ≤ 20 := by
  unfold parseR at h
  split at h
  · cases h
  · rename_i y k hy
    have := orR_dep (oneR_dep s 20) _ _ _ hy
    split at h
    · cases h
    · injection h with h1 _
      subst h1
      exact this

/-! ### what stands behind -/
def T9 (r : Str) : Prop := r = [] ∨ ∃ c r', r = c :: r' ∧ (c = 32 ∨ c = 41)
def fnb (r : Str) : Option UInt8 := (r.dropWhile (· == 32)).head?
def TA (r : Str) : Prop := T9 r ∧ fnb r ≠ some 38
def TO (r : Str) : Prop := T9 r ∧ fnb r ≠ some 38 ∧ fnb r ≠ some 124
theorem at_app {pre r : Str} {k : Nat} : (pre ++ r)[pre.length + k]? = r[k]? := by rw [List.getElem?_append_right (by omega)]; congr 1; omega
theorem at_app0 {pre r : Str} : (pre ++ r)[pre.length]? = r[0]? := at_app (k := 0)
theorem take_drop {p : UInt8 → Bool} : ∀ r : Str, r[(r.takeWhile p).length]? = (r.dropWhile p).head?
  | [] => rfl
  | c :: r => by
    rw [List.takeWhile_cons, List.dropWhile_cons]
    split
    · simpa using take_drop r
    · simp
theorem skip_app (pre r : Str) : (pre ++ r)[skipTo (pre ++ r) pre.length]? = fnb r := by
  unfold skipTo
  rw [List.drop_left, at_app, take_drop]; rfl
theorem skip_stay {pre r : Str} (h : r[0]? ≠ some 32) : skipTo (pre ++ r) pre.length = pre.length := skipTo_stop (by rw [at_app0]; exact h)

/-! ### names -/
theorem nch_stop {c : UInt8} (h : nch c = true) : c ∉ stop9 := by
  have : ∀ i : Fin 256, nch (UInt8.ofNat i.val) = true → UInt8.ofNat i.val ∉ stop9 := by decide +kernel
  have h2 := this ⟨c.toNat, c.toNat_lt⟩
  simpa using h2 (by simpa using h)
theorem low_not {c : UInt8} (h : low c = true) : c ≠ 32 ∧ c ≠ 33 ∧ c ≠ 40 ∧ c ≠ 48 ∧ c ≠ 49 ∧ c ≠ 94 ∧ c ≠ 126 ∧ nch c = true := by
  refine ⟨?_, ?_, ?_, ?_, ?_, ?_, ?_, by simp [nch, h]⟩ <;> (rintro rfl; revert h; decide)
theorem name_chars {w : Str} (h : nameOk w = true) : ∃ c r, w = c :: r ∧ low c = true ∧ ∀ x ∈ w, nch x = true := by
  cases w with
  | nil => simp [nameOk] at h
  | cons c r =>
    simp only [nameOk, Bool.and_eq_true] at h
    refine ⟨c, r, rfl, h.1.1.1, fun x hx => ?_⟩
    rcases List.mem_cons.1 hx with rfl | hx
    · simp [nch, h.1.1.1]
    · exact List.all_eq_true.1 h.1.1.2 x hx
theorem T9_stop {r : Str} (h : T9 r) : ∀ c, r[0]? = some c → c ∈ stop9 := by
  rintro c hc
  rcases h with rfl | ⟨d, r', rfl, h⟩
  · simp at hc
  · simp at hc; subst hc
    rcases h with rfl | rfl <;> simp [stop9]
theorem wEnd_app {w : Str} (hw : nameOk w = true) (pre r : Str) (hr : T9 r) : ∀ (n k : Nat), k + n = w.length → wEnd (pre ++ w ++ r) pre.length (pre.length + k) = pre.length + w.length
  | 0, k, hk => by
    have hk' : k = w.length := by omega
    subst hk'
    refine wEnd_stop ?_
    unfold wc
    have e : (pre ++ w ++ r)[pre.length + w.length]? = r[0]? := by rw [List.append_assoc, at_app]; exact at_app0
    rw [e]
    cases h0 : r[0]? with
    | none => rfl
    | some c => simp [T9_stop hr c h0]
  | n + 1, k, hk => by
    have hkl : k < w.length := by omega
    have e : (pre ++ w ++ r)[pre.length + k]? = some w[k] := by
      rw [List.append_assoc, at_app, List.getElem?_append_left hkl, List.getElem?_eq_getElem hkl]
    obtain ⟨c0, r0, hc0, hlow, hall⟩ := name_chars hw
    have hwc : wc (pre ++ w ++ r) pre.length (pre.length + k) = true := by
      unfold wc
      rw [e]
      have h9 := nch_stop (hall w[k] (List.getElem_mem hkl))
      simp only [decide_eq_false h9, Bool.not_false, Bool.true_and]
      by_cases h0 : k = 0
      · subst h0
        have : w[0] = c0 := by subst hc0; rfl
        have hl := low_not hlow
        simp [this, hl.2.2.2.1, hl.2.2.2.2.1]
      · simp; left; omega
    rw [wEnd_step hwc]
    exact wEnd_app hw pre r hr n (k + 1) (by omega)
theorem wordR_app {w : Str} (hw : nameOk w = true) (pre r : Str) (hr : T9 r) : wordR (pre ++ w ++ r) pre.length = .ok w (pre.length + w.length) := by
  obtain ⟨c0, r0, hc0, hlow, hall⟩ := name_chars hw
  have hl := low_not hlow
  have hs : skipTo (pre ++ w ++ r) pre.length = pre.length := by
    rw [List.append_assoc]; refine skip_stay ?_
    subst hc0; simpa using hl.1
  have he : wEnd (pre ++ w ++ r) pre.length pre.length = pre.length + w.length := wEnd_app hw pre r hr w.length 0 (by omega)
  have hwd : wordAt (pre ++ w ++ r) pre.length = w := by
    unfold wordAt
    rw [he, List.append_assoc, List.take_append, List.take_of_length_le (by omega)]
    simp
  unfold wordR
  rw [hs, hwd, he, if_neg (by rw [hc0]; simp), if_neg (by rw [hw]; simp)]

/-! ### blanks ahead count for nothing -/
def Blk0 (F : Str → Nat → Rs Ex) : Prop := ∀ s i, s[i]? = some 32 → F s i = F s (i + 1)
theorem oneR_blk (d : Nat) : Blk0 (fun s => oneR s d) := by
  intro s i h
  cases d with
  | zero => simp only [oneR]; rw [skipTo_step h]
  | succ d => simp only [oneR]; rw [skipTo_step h]
theorem wordR_skip (s : Str) (i : Nat) : wordR s (skipTo s i) = wordR s i := by unfold wordR; rw [skipTo_idem]
theorem rowR_blk {c : UInt8} {F : Str → Nat → Rs Ex} (hF : Blk0 F) : ∀ (s : Str) (n i : Nat) (l : List Ex), s[i]? = some 32 → rowR s c (F s) (n + 1) i l = rowR s c (F s) (n + 1) (i + 1) l := by
  intro s n i l h
  simp only [rowR]
  rw [hF s i h]
theorem allR_blk {c : UInt8} {mk : List Ex → Ex} {F : Str → Nat → Rs Ex} (hF : Blk0 F) : Blk0 (fun s => allR s c mk (F s)) := by
  intro s i h
  simp only [allR]
  rw [rowR_blk hF s _ i _ h]
/-- F reads the text t as x, where what is behind is as T says -/
def Reads (F : Str → Nat → Rs Ex) (T : Str → Prop) (t : Str) (x : Ex) : Prop := ∀ pre r, T r → ∃ j, F (pre ++ t ++ r) pre.length = .ok x j ∧ skipTo (pre ++ t ++ r) j = skipTo (pre ++ t ++ r) (pre.length + t.length)
theorem joinS_cons (sep t : Str) (ts : List Str) (h : ts ≠ []) : joinS sep (t :: ts) = t ++ sep ++ joinS sep ts := by
  cases ts with
  | nil => exact absurd rfl h
  | cons a b => rfl
/-- a row of parts is read -/
theorem row_reads {F : Str → Nat → Rs Ex} {T Tp : Str → Prop} {c : UInt8} {u : Ex → Str} (hF : Blk0 F) (hc : c ≠ 32) (hTp : ∀ r, T r → Tp r) (hTs : ∀ r, Tp (32 :: c :: 32 :: r)) (hT : ∀ r, T r → fnb r ≠ some c) :
    ∀ (l : List Ex), l ≠ [] → (∀ x ∈ l, Reads F Tp (u x) x) → ∀ (n : Nat) (acc : List Ex) (pre r : Str), l.length ≤ n → T r →
      rowR (pre ++ joinS [32, c, 32] (l.map u) ++ r) c (F (pre ++ joinS [32, c, 32] (l.map u) ++ r)) n pre.length acc = .ok (acc ++ l) (skipTo (pre ++ joinS [32, c, 32] (l.map u) ++ r) (pre.length + (joinS [32, c, 32] (l.map u)).length))
  | [], h, _, _, _, _, _, _, _ => absurd rfl h
  | [x], _, hx, 0, _, _, _, hn, _ => by simp at hn
  | [x], _, hx, n + 1, acc, pre, r, hn, hr => by
    simp only [List.map_cons, List.map_nil, joinS, rowR]
    obtain ⟨j, hj1, hj2⟩ := hx x (by simp) pre r (hTp r hr)
    rw [hj1]
    simp only
    rw [hj2]
    have : (pre ++ u x ++ r)[skipTo (pre ++ u x ++ r) (pre.length + (u x).length)]? = fnb r := by
      have := skip_app (pre ++ u x) r
      rwa [List.length_append] at this
    rw [this, if_neg (hT r hr)]
  | x :: y :: l, _, hx, 0, _, _, _, hn, _ => by simp at hn
  | x :: y :: l, _, hx, n + 1, acc, pre, r, hn, hr => by
    have hj : joinS [32, c, 32] ((x :: y :: l).map u) = u x ++ [32, c, 32] ++ joinS [32, c, 32] ((y :: l).map u) := rfl
    rw [hj]
    generalize hJ : joinS [32, c, 32] ((y :: l).map u) = J
    have e1 : pre ++ (u x ++ [32, c, 32] ++ J) ++ r = pre ++ u x ++ (32 :: c :: 32 :: (J ++ r)) := by simp
    have e2 : pre ++ (u x ++ [32, c, 32] ++ J) ++ r = (pre ++ u x ++ [32, c, 32]) ++ J ++ r := by simp
    obtain ⟨jj, h0, h00⟩ := hx x (by simp) pre (32 :: c :: 32 :: (J ++ r)) (hTs _)
    rw [← e1] at h0 h00
    simp only [rowR]
    rw [h0]
    simp only
    rw [h00]
    have hsk : skipTo (pre ++ (u x ++ [32, c, 32] ++ J) ++ r) (pre.length + (u x).length) = pre.length + (u x).length + 1 := by
      rw [e1, ← List.length_append]
      rw [skipTo_step (by rw [at_app0]; rfl)]
      refine skipTo_stop ?_
      rw [at_app]; simpa using hc
    have hch : (pre ++ (u x ++ [32, c, 32] ++ J) ++ r)[pre.length + (u x).length + 1]? = some c := by
      rw [e1, ← List.length_append, at_app]; rfl
    rw [hsk, hch, if_pos rfl]
    have hb : (pre ++ (u x ++ [32, c, 32] ++ J) ++ r)[pre.length + (u x).length + 1 + 1]? = some 32 := by
      rw [e1, ← List.length_append, Nat.add_assoc, at_app]; rfl
    obtain ⟨n, rfl⟩ : ∃ k, n = k + 1 := ⟨n - 1, by simp at hn; omega⟩
    rw [rowR_blk hF _ _ _ _ hb]
    have ih := row_reads hF hc hTp hTs hT (y :: l) (by simp) (fun z hz => hx z (by simp at hz ⊢; exact .inr hz)) (n + 1) (acc ++ [x]) (pre ++ u x ++ [32, c, 32]) r (by simpa using hn) hr
    rw [hJ, ← e2] at ih
    have hl1 : (pre ++ u x ++ [32, c, 32]).length = pre.length + (u x).length + 1 + 1 + 1 := by simp; omega
    rw [hl1] at ih
    rw [ih]
    have hl2 : pre.length + (u x ++ [32, c, 32] ++ J).length = pre.length + (u x).length + 1 + 1 + 1 + J.length := by simp; omega
    rw [hl2]
    simp
theorem joinS_count (sep : Str) (hs : sep.length = 3) : ∀ l : List Str, l.length ≤ (joinS sep l).length + 1
  | [] => by simp
  | [x] => by simp
  | x :: y :: l => by
    have := joinS_count sep hs (y :: l)
    simp only [joinS, List.length_append, List.length_cons, hs] at this ⊢
    omega
theorem all_reads {F : Str → Nat → Rs Ex} {T Tp : Str → Prop} {c : UInt8} {mk : List Ex → Ex} {u : Ex → Str} (hF : Blk0 F) (hc : c ≠ 32) (hTp : ∀ r, T r → Tp r) (hTs : ∀ r, Tp (32 :: c :: 32 :: r)) (hT : ∀ r, T r → fnb r ≠ some c)
    (l : List Ex) (hl : l ≠ []) (hx : ∀ x ∈ l, Reads F Tp (u x) x) : Reads (fun s => allR s c mk (F s)) T (joinS [32, c, 32] (l.map u)) (foldR mk l) := by
  intro pre r hr
  have hn : l.length ≤ (pre ++ joinS [32, c, 32] (l.map u) ++ r).length + 1 := by
    have := joinS_count [32, c, 32] rfl (l.map u)
    simp only [List.length_append, List.length_map] at this ⊢
    omega
  have := row_reads hF hc hTp hTs hT l hl hx _ [] pre r hn hr
  refine ⟨_, ?_, skipTo_idem _ _⟩
  simp only [allR]
  rw [this]
  rfl
theorem TA_T9 : ∀ r, TA r → T9 r := fun _ h => h.1
theorem TO_TA : ∀ r, TO r → TA r := fun _ h => ⟨h.1, h.2.1⟩
theorem T9_sp (r : Str) : T9 (32 :: r) := .inr ⟨32, r, rfl, .inl rfl⟩
theorem TA_or (r : Str) : TA (32 :: 124 :: 32 :: r) := ⟨T9_sp _, by simp [fnb]⟩
theorem TO_close (r : Str) : TO (41 :: r) := ⟨.inr ⟨41, r, rfl, .inr rfl⟩, by simp [fnb], by simp [fnb]⟩
theorem andR_blk (d : Nat) : Blk0 (fun s => andR s (oneR s d)) := allR_blk (oneR_blk d)
theorem and_parts {d : Nat} {l : List Ex} (hl : 2 ≤ l.length) (hx : ∀ x ∈ l, Reads (fun s => oneR s d) T9 (x.wr 2) x) : Reads (fun s => andR s (oneR s d)) TA ((Ex.and l).wr 1) (.and l) := by
  have := all_reads (mk := .and) (oneR_blk d) (c := 38) (by decide) TA_T9 (fun r => T9_sp _) (fun r h => h.2) l (by intro e; rw [e] at hl; simp at hl) hx
  have e1 : (Ex.and l).wr 1 = joinS [32, 38, 32] (l.map (Ex.wr 2)) := by simp [Ex.wr, around, Ex.wrL_map]
  have e2 : foldR Ex.and l = .and l := by
    match l, hl with
    | x :: y :: r, _ => rfl
  rw [e2] at this
  rw [e1]
  exact this
theorem or_parts {d : Nat} {l : List Ex} (hl : 2 ≤ l.length) (hx : ∀ x ∈ l, Reads (fun s => andR s (oneR s d)) TA (x.wr 1) x) : Reads (fun s => orR s (oneR s d)) TO ((Ex.or l).wr 0) (.or l) := by
  have := all_reads (mk := .or) (andR_blk d) (c := 124) (by decide) TO_TA (fun r => TA_or _) (fun r h => h.2.2) l (by intro e; rw [e] at hl; simp at hl) hx
  have e1 : (Ex.or l).wr 0 = joinS [32, 124, 32] (l.map (Ex.wr 1)) := by simp [Ex.wr, around, Ex.wrL_map]
  have e2 : foldR Ex.or l = .or l := by
    match l, hl with
    | x :: y :: r, _ => rfl
  rw [e2] at this
  rw [e1]
  exact this
theorem and_one {d : Nat} {x : Ex} (h : Reads (fun s => oneR s d) T9 (x.wr 2) x) (hx : x.isAnd = false) : Reads (fun s => andR s (oneR s d)) TA (x.wr 1) x := by
  have := all_reads (mk := .and) (oneR_blk d) (c := 38) (by decide) TA_T9 (fun r => T9_sp _) (fun r h => h.2) (u := Ex.wr 2) [x] (by simp) (by simpa using h)
  have e1 : x.wr 1 = x.wr 2 := by rw [Ex.wr_one, Ex.wr_two, hx]; rfl
  rw [e1]
  exact this
theorem or_one {d : Nat} {x : Ex} (h : Reads (fun s => andR s (oneR s d)) TA (x.wr 1) x) (hx : x.isOr = false) : Reads (fun s => orR s (oneR s d)) TO (x.wr 0) x := by
  have := all_reads (mk := .or) (andR_blk d) (c := 124) (by decide) TO_TA (fun r => TA_or _) (fun r h => h.2.2) (u := Ex.wr 1) [x] (by simp) (by simpa using h)
  have e1 : x.wr 0 = x.wr 1 := by rw [Ex.wr_one, hx]; rfl
  rw [e1]
  exact this
theorem one_paren {d : Nat} {x : Ex} {t : Str} (h : Reads (fun s => orR s (oneR s d)) TO t x) : Reads (fun s => oneR s (d + 1)) T9 (40 :: t ++ [41]) x := by
  intro pre r hr
  have e1 : pre ++ (40 :: t ++ [41]) ++ r = (pre ++ [40]) ++ t ++ (41 :: r) := by simp
  have e0 : pre ++ (40 :: t ++ [41]) ++ r = pre ++ (40 :: (t ++ 41 :: r)) := by simp
  obtain ⟨j, h1, h2⟩ := h (pre ++ [40]) (41 :: r) (TO_close r)
  simp only at h1
  have hs : skipTo (pre ++ (40 :: t ++ [41]) ++ r) pre.length = pre.length := by rw [e0]; exact skip_stay (by simp)
  have h40 : (pre ++ (40 :: t ++ [41]) ++ r)[pre.length]? = some 40 := by rw [e0, at_app0]; rfl
  have e2 : (pre ++ [40] ++ t ++ (41 :: r)) = (pre ++ [40] ++ t) ++ (41 :: r) := rfl
  have h41 : (pre ++ [40] ++ t ++ (41 :: r))[(pre ++ [40]).length + t.length]? = some 41 := by
    rw [← List.length_append, at_app0]; rfl
  have hs2 : skipTo (pre ++ [40] ++ t ++ (41 :: r)) ((pre ++ [40]).length + t.length) = (pre ++ [40]).length + t.length := skipTo_stop (by rw [h41]; simp)
  rw [hs2] at h2
  refine ⟨(pre ++ [40]).length + t.length + 1, ?_, by simp; congr 1; omega⟩
  simp only [oneR]
  rw [hs, h40]
  simp only [show ((some (40 : UInt8) = some 33) = False) by simp, if_false, if_true]
  rw [e1]
  have hl : pre.length + 1 = (pre ++ [40]).length := by simp
  rw [hl, h1]
  simp only [closeR]
  rw [h2, h41, if_pos rfl]
theorem reads_all : ∀ (n : Nat) (x : Ex), x.wt < n → x.fine →
    (∀ d, x.dep ≤ d → Reads (fun s => oneR s d) T9 (x.wr 2) x) ∧ (∀ d, x.dA ≤ d → Reads (fun s => andR s (oneR s d)) TA (x.wr 1) x) ∧ (∀ d, x.dO ≤ d → Reads (fun s => orR s (oneR s d)) TO (x.wr 0) x) := by
  intro n
  induction n with
  | zero => intro x h; omega
  | succ n ih =>
    intro x hw hf
    have lift : x.isAnd = false → x.isOr = false → (∀ d, x.dep ≤ d → Reads (fun s => oneR s d) T9 (x.wr 2) x) → (∀ d, x.dep ≤ d → Reads (fun s => oneR s d) T9 (x.wr 2) x) ∧ (∀ d, x.dA ≤ d → Reads (fun s => andR s (oneR s d)) TA (x.wr 1) x) ∧ (∀ d, x.dO ≤ d → Reads (fun s => orR s (oneR s d)) TO (x.wr 0) x) := by
      intro h1 h2 h
      have hA : x.dA = x.dep := by simp [Ex.dA, h1]
      have hO : x.dO = x.dep := by simp [Ex.dO, h2, hA]
      rw [hA, hO]
      exact ⟨h, fun d hd => and_one (h d hd) h1, fun d hd => or_one (and_one (h d hd) h1) h2⟩
    cases x with
    | k b =>
      refine lift rfl rfl fun d hd pre r hr => ⟨_, ?_, rfl⟩
      obtain ⟨d, rfl⟩ : ∃ k, d = k + 1 := ⟨d - 1, by simp [Ex.dep] at hd; omega⟩
      have hs : skipTo (pre ++ (Ex.k b).wr 2 ++ r) pre.length = pre.length := by rw [List.append_assoc]; exact skip_stay (by cases b <;> simp [Ex.wr])
      have hc : (pre ++ (Ex.k b).wr 2 ++ r)[pre.length]? = some (if b then 49 else 48) := by rw [List.append_assoc, at_app0]; cases b <;> rfl
      simp only [oneR]
      rw [hs, hc]
      cases b <;> simp [Ex.wr]
    | bit w =>
      refine lift rfl rfl fun d hd pre r hr => ⟨_, ?_, rfl⟩
      obtain ⟨d, rfl⟩ : ∃ k, d = k + 1 := ⟨d - 1, by simp [Ex.dep] at hd; omega⟩
      obtain ⟨c0, r0, hc0, hlow, _⟩ := name_chars hf
      have hl := low_not hlow
      have hc : (pre ++ (Ex.bit w).wr 2 ++ r)[pre.length]? = some c0 := by rw [List.append_assoc, at_app0]; simp [Ex.wr, hc0]
      have hs : skipTo (pre ++ (Ex.bit w).wr 2 ++ r) pre.length = pre.length := skipTo_stop (by rw [hc]; simpa using hl.1)
      simp only [oneR]
      rw [hs, hc]
      simp only [Option.some.injEq, hl.2.1, hl.2.2.1, hl.2.2.2.1, hl.2.2.2.2.1, hl.2.2.2.2.2.1, hl.2.2.2.2.2.2.1, if_false]
      simp only [Ex.wr]
      rw [wordR_app hf pre r hr]
      rfl
    | rise w =>
      refine lift rfl rfl fun d hd pre r hr => ⟨_, ?_, rfl⟩
      obtain ⟨d, rfl⟩ : ∃ k, d = k + 1 := ⟨d - 1, by simp [Ex.dep] at hd; omega⟩
      have hc : (pre ++ (Ex.rise w).wr 2 ++ r)[pre.length]? = some 94 := by rw [List.append_assoc, at_app0]; rfl
      have hs : skipTo (pre ++ (Ex.rise w).wr 2 ++ r) pre.length = pre.length := skipTo_stop (by rw [hc]; simp)
      have e1 : pre ++ (Ex.rise w).wr 2 ++ r = (pre ++ [94]) ++ w ++ r := by simp [Ex.wr]
      simp only [oneR]
      rw [hs, hc]
      simp only [show (some (94 : UInt8) = some 33) = False by simp, show (some (94 : UInt8) = some 40) = False by simp, show (some (94 : UInt8) = some 48) = False by simp, show (some (94 : UInt8) = some 49) = False by simp, if_false, if_true]
      have hl : pre.length + 1 = (pre ++ [94]).length := by simp
      rw [e1, hl, wordR_app hf (pre ++ [94]) r hr]
      simp [Rs.map, Ex.wr]; omega
    | fall w =>
      refine lift rfl rfl fun d hd pre r hr => ⟨_, ?_, rfl⟩
      obtain ⟨d, rfl⟩ : ∃ k, d = k + 1 := ⟨d - 1, by simp [Ex.dep] at hd; omega⟩
      have hc : (pre ++ (Ex.fall w).wr 2 ++ r)[pre.length]? = some 126 := by rw [List.append_assoc, at_app0]; rfl
      have hs : skipTo (pre ++ (Ex.fall w).wr 2 ++ r) pre.length = pre.length := skipTo_stop (by rw [hc]; simp)
      have e1 : pre ++ (Ex.fall w).wr 2 ++ r = (pre ++ [126]) ++ w ++ r := by simp [Ex.wr]
      simp only [oneR]
      rw [hs, hc]
      simp only [show (some (126 : UInt8) = some 33) = False by simp, show (some (126 : UInt8) = some 40) = False by simp, show (some (126 : UInt8) = some 48) = False by simp, show (some (126 : UInt8) = some 49) = False by simp, show (some (126 : UInt8) = some 94) = False by simp, if_false, if_true]
      have hl : pre.length + 1 = (pre ++ [126]).length := by simp
      rw [e1, hl, wordR_app hf (pre ++ [126]) r hr]
      simp [Rs.map, Ex.wr]; omega
    | not y =>
      refine lift rfl rfl fun d hd pre r hr => ?_
      simp only [Ex.dep] at hd
      simp only [Ex.wt] at hw
      obtain ⟨d, rfl⟩ : ∃ k, d = k + 1 := ⟨d - 1, by omega⟩
      have hc : (pre ++ (Ex.not y).wr 2 ++ r)[pre.length]? = some 33 := by rw [List.append_assoc, at_app0]; rfl
      have hs : skipTo (pre ++ (Ex.not y).wr 2 ++ r) pre.length = pre.length := skipTo_stop (by rw [hc]; simp)
      have e1 : pre ++ (Ex.not y).wr 2 ++ r = (pre ++ [33]) ++ y.wr 2 ++ r := by simp [Ex.wr]
      obtain ⟨j, h1, h2⟩ := (ih y (by omega) hf).1 d (by omega) (pre ++ [33]) r hr
      simp only at h1
      refine ⟨j, ?_, ?_⟩
      · simp only [oneR]
        rw [hs, hc]
        simp only [if_true]
        have hl : pre.length + 1 = (pre ++ [33]).length := by simp
        rw [e1, hl, h1]
        rfl
      · rw [e1, h2]
        congr 1
        simp [Ex.wr]; omega
    | and l =>
      simp only [Ex.wt] at hw
      have hA : ∀ d, (Ex.and l).dA ≤ d → Reads (fun s => andR s (oneR s d)) TA ((Ex.and l).wr 1) (.and l) := fun d hd => and_parts hf.1 fun y hy => (ih y (by have := Ex.wt_mem hy; omega) (Ex.fine_mem hf.2 hy)).1 d (by
        have : Ex.depL l ≤ d := by simpa [Ex.dA, Ex.isAnd, Ex.dep] using hd
        exact Ex.depL_le.1 this y hy)
      have hO : ∀ d, (Ex.and l).dO ≤ d → Reads (fun s => orR s (oneR s d)) TO ((Ex.and l).wr 0) (.and l) := fun d hd => or_one (hA d (by simpa [Ex.dO, Ex.isOr] using hd)) rfl
      refine ⟨fun d hd => ?_, hA, hO⟩
      obtain ⟨d, rfl⟩ : ∃ k, d = k + 1 := ⟨d - 1, by simp only [Ex.dep] at hd; omega⟩
      have e : (Ex.and l).wr 2 = 40 :: (Ex.and l).wr 0 ++ [41] := by rw [Ex.wr_two]; rfl
      rw [e]
      exact one_paren (hO d (by simp [Ex.dO, Ex.isOr, Ex.dA, Ex.isAnd, Ex.dep] at hd ⊢; omega))
    | or l =>
      simp only [Ex.wt] at hw
      have hO : ∀ d, (Ex.or l).dO ≤ d → Reads (fun s => orR s (oneR s d)) TO ((Ex.or l).wr 0) (.or l) := fun d hd => or_parts hf.1 fun y hy => (ih y (by have := Ex.wt_mem hy; omega) (Ex.fine_mem hf.2 hy)).2.1 d (by
        have : Ex.depO l ≤ d := by simpa [Ex.dO, Ex.isOr, Ex.dep] using hd
        exact Ex.depO_le.1 this y hy)
      have h1 : ∀ d, (Ex.or l).dep ≤ d → Reads (fun s => oneR s d) T9 ((Ex.or l).wr 2) (.or l) := fun d hd => by
        obtain ⟨d, rfl⟩ : ∃ k, d = k + 1 := ⟨d - 1, by simp only [Ex.dep] at hd; omega⟩
        have e : (Ex.or l).wr 2 = 40 :: (Ex.or l).wr 0 ++ [41] := by rw [Ex.wr_two]; rfl
        rw [e]
        exact one_paren (hO d (by simp [Ex.dO, Ex.isOr, Ex.dep] at hd ⊢; omega))
      exact ⟨h1, fun d hd => and_one (h1 d (by simpa [Ex.dA, Ex.isAnd] using hd)) rfl, hO⟩
/-- what a text tells is the expression again -/
theorem orR_text {x : Ex} (hf : x.fine) {d : Nat} (hd : x.dO ≤ d) : ∃ j, orR (x.wr 0) (oneR (x.wr 0) d) 0 = .ok x j ∧ skipTo (x.wr 0) j = (x.wr 0).length := by
  obtain ⟨j, h1, h2⟩ := (reads_all (x.wt + 1) x (by omega) hf).2.2 d hd [] [] ⟨.inl rfl, by simp [fnb], by simp [fnb]⟩
  simp only [List.nil_append, List.append_nil, List.length_nil, Nat.zero_add] at h1 h2
  refine ⟨j, h1, h2.trans (skipTo_stop (by rw [List.getElem?_eq_none (by omega)]; simp))⟩
theorem parse_text {x : Ex} (hf : x.fine) (hd : x.dO ≤ 20) : parseR (x.wr 0) = .ok x (x.wr 0).length := by
  obtain ⟨j, h1, h2⟩ := orR_text hf hd
  unfold parseR
  rw [h1]
  simp only
  rw [h2, if_neg (by omega)]
theorem wr_inj {x y : Ex} (hx : x.fine) (hy : y.fine) (h : x.wr 0 = y.wr 0) : x = y := by
  obtain ⟨j, h1, _⟩ := orR_text hx (d := x.dO + y.dO) (by omega)
  obtain ⟨k, h2, _⟩ := orR_text hy (d := x.dO + y.dO) (by omega)
  rw [h, h2] at h1
  injection h1 with h1 _
  exact h1.symm
end Go.Sc
namespace Go.Sc
open Go
set_option linter.unusedSimpArgs false
set_option linter.unusedVariables false
set_option linter.unnecessarySimpa false

structure SizeBodies (E : Env) (P : Program) : Prop where
  size : Body1 E P 156 F.expr_Size
  size1 : Body2 E P 160 F.expr_Size_c1
  walk : Body2 E P 161 F.expr_walk
section
variable {E : Env} {P : Program}
theorem size1_spec (B : SizeBodies E P) (y : Ex) (n : Nat) (hn : n < 1000000000) : PC E P 160 1 [Z n] (fun b g => [y.enc, .ptrL b 0 g]) (fun r cs => r = .tup [] ∧ cs = [Z ((n + 1 : Nat) : Int)]) := by
  refine PC.of (fun f g => by simp only [AV.renL, AV.ren, AV.ren_closed _ (Ex.enc_closed y)]) ⟨trivial, trivial⟩ (by rintro r cs ⟨rfl, rfl⟩; exact ⟨trivial, trivial, trivial⟩) fun c g R hR => B.size1 _ _ _ _ ?_
  unfold F.expr_Size_c1
  simp only [Y0, Y1, Y2, Y3, Y4, Y5, Y6, Y7, Y8, Y9, Ya, Yb, Yc, Yd, Ye, Yf, Yg, Yh, Yi, Yj, Yk, Yl, Ym, Yn, Yo, Yp, Yq, Yr, Ys, Yt, Yu, Yv, Yw, Yx, Yy, Yz, Y10, Y11, Y12, Y13, Y14, Y15, Y16, Y17, Y18, Y19, Y1a, Y1b, Y1c, Y1d, Y1e, Y1f, Y1g, Y1h, Y1i, Y1j, Y1k, Y1l, AV.cells?, Y1n, Y1o, Y1p, Y1q, Y1r, Y1s, Y1t, Nat.reduceAdd, Nat.reduceMul, Y1w, Y1x, Y1y, Y1z, Y20, Y21, Y22, Y23, Y24, Y25, Y26, Y27, Y28, Y29, Y2a, Y2b]
  rw [binA_succ (by omega)]
  simp only [Y0, Y1, Y2, Y3, Y4, Y5, Y6, Y7, Y8, Y9, Ya, Yb, Yc, Yd, Ye, Yf, Yg, Yh, Yi, Yj, Yk, Yl, Ym, Yn, Yo, Yp, Yq, Yr, Ys, Yt, Yu, Yv, Yw, Yx, Yy, Yz, Y10, Y11, Y12, Y13, Y14, Y15, Y16, Y17, Y18, Y19, Y1a, Y1b, Y1c, Y1d, Y1e, Y1f, Y1g, Y1h, Y1i, Y1j, Y1k, Y1l, AV.cells?, Y1n, Y1o, Y1p, Y1q, Y1r, Y1s, Y1t, Nat.reduceAdd, Nat.reduceMul, Y1w, Y1x, Y1y, Y1z, Y20, Y21, Y22, Y23, Y24, Y25, Y26, Y27, Y28, Y29, Y2a, Y2b]
  rw [store1_L rfl]
  simp only [Y0, Y1, Y2, Y3, Y4, Y5, Y6, Y7, Y8, Y9, Ya, Yb, Yc, Yd, Ye, Yf, Yg, Yh, Yi, Yj, Yk, Yl, Ym, Yn, Yo, Yp, Yq, Yr, Ys, Yt, Yu, Yv, Yw, Yx, Yy, Yz, Y10, Y11, Y12, Y13, Y14, Y15, Y16, Y17, Y18, Y19, Y1a, Y1b, Y1c, Y1d, Y1e, Y1f, Y1g, Y1h, Y1i, Y1j, Y1k, Y1l, AV.cells?, Y1n, Y1o, Y1p, Y1q, Y1r, Y1s, Y1t, Nat.reduceAdd, Nat.reduceMul, Y1w, Y1x, Y1y, Y1z, Y20, Y21, Y22, Y23, Y24, Y25, Y26, Y27, Y28, Y29, Y2a, Y2b, Nat.reduceLT]
  exact hR _ _ [Z ((n + 1 : Nat) : Int)] [] c (.same _) ⟨rfl, rfl⟩
theorem walkL_spec (B : SizeBodies E P) (l : List Ex) (hl : ∀ x ∈ l, ∀ n : Nat, n + x.size < 1000000000 → PC E P 161 1 [Z n] (fun b g => [x.enc, .fn 160 [] [.ptrL b 0 g]]) (fun r cs => r = .tup [] ∧ cs = [Z ((n + x.size : Nat) : Int)])) (hlen : l.length < 1000000000) (n : Nat) (hn : n + Ex.sizeL l < 1000000000) {g c : Nat} {R : Kt} (rest : List Blk)
    (hR : ∀ c, R (.tup []) ⟨.cells g 1 [Z ((n + Ex.sizeL l : Nat) : Int)] :: rest, c⟩) :
    wLoop 1 (fun I1 => I1 (Z 0) ⟨.cells g 1 [Z n] :: rest, c⟩) fun I1 t27 H =>
      wGet (binA .lss t27 (Z l.length)) H fun t28 H =>
      wIf t28 (
        wGet (iaddr 1 (.slN (Ex.encL l) l.length) t27) H fun t29 H =>
        wGet (load1 t29 H) H fun t30 H =>
        wCall E P 161 [t30, .fn 160 [] [.ptrL 0 0 g]] H fun t33 H =>
        wGet (binA .add t27 (.val (.int .i64 1))) H fun t34 H =>
        I1 t34 H) (
        R (.tup []) H) := by
  refine wLoop.one (fun m i H => ∃ pre r c, l = pre ++ r ∧ i = Z pre.length ∧ m = r.length ∧ H = ⟨.cells g 1 [Z ((n + Ex.sizeL pre : Nat) : Int)] :: rest, c⟩) l.length (gh1.mk ⟨[], l, c, rfl, rfl, rfl, by simp [Ex.sizeL]⟩) ?_
  rintro m i H ⟨pre, r, c, rfl, rfl, rfl, rfl⟩
  have happ : ∀ a b : List Ex, Ex.sizeL (a ++ b) = Ex.sizeL a + Ex.sizeL b := fun a b => by
    induction a with
    | nil => simp [Ex.sizeL]
    | cons x a ih => simp only [List.cons_append, Ex.sizeL, ih]; omega
  cases r with
  | nil =>
    rw [List.append_nil] at hR ⊢
    simp only [Y0, Y1, Y2, Y3, Y4, Y5, Y6, Y7, Y8, Y9, Ya, Yb, Yc, Yd, Ye, Yf, Yg, Yh, Yi, Yj, Yk, Yl, Ym, Yn, Yo, Yp, Yq, Yr, Ys, Yt, Yu, Yv, Yw, Yx, Yy, Yz, Y10, Y11, Y12, Y13, Y14, Y15, Y16, Y17, Y18, Y19, Y1a, Y1b, Y1c, Y1d, Y1e, Y1f, Y1g, Y1h, Y1i, Y1j, Y1k, Y1l, AV.cells?, Y1n, Y1o, Y1p, Y1q, Y1r, Y1s, Y1t, Nat.reduceAdd, Nat.reduceMul, Y1w, Y1x, Y1y, Y1z, Y20, Y21, Y22, Y23, Y24, Y25, Y26, Y27, Y28, Y29, Y2a, Y2b, Int.lt_irrefl]
    exact hR c
  | cons x r =>
    rw [happ] at hn
    simp only [Ex.sizeL] at hn
    simp only [Y0, Y1, Y2, Y3, Y4, Y5, Y6, Y7, Y8, Y9, Ya, Yb, Yc, Yd, Ye, Yf, Yg, Yh, Yi, Yj, Yk, Yl, Ym, Yn, Yo, Yp, Yq, Yr, Ys, Yt, Yu, Yv, Yw, Yx, Yy, Yz, Y10, Y11, Y12, Y13, Y14, Y15, Y16, Y17, Y18, Y19, Y1a, Y1b, Y1c, Y1d, Y1e, Y1f, Y1g, Y1h, Y1i, Y1j, Y1k, Y1l, AV.cells?, Y1n, Y1o, Y1p, Y1q, Y1r, Y1s, Y1t, Nat.reduceAdd, Nat.reduceMul, Y1w, Y1x, Y1y, Y1z, Y20, Y21, Y22, Y23, Y24, Y25, Y26, Y27, Y28, Y29, Y2a, Y2b, decide_eq_true (show (pre.length : Int) < ((pre ++ x :: r).length : Int) by simp; omega)]
    rw [iaddr_Nn lt_mid]
    simp only [Y0, Y1, Y2, Y3, Y4, Y5, Y6, Y7, Y8, Y9, Ya, Yb, Yc, Yd, Ye, Yf, Yg, Yh, Yi, Yj, Yk, Yl, Ym, Yn, Yo, Yp, Yq, Yr, Ys, Yt, Yu, Yv, Yw, Yx, Yy, Yz, Y10, Y11, Y12, Y13, Y14, Y15, Y16, Y17, Y18, Y19, Y1a, Y1b, Y1c, Y1d, Y1e, Y1f, Y1g, Y1h, Y1i, Y1j, Y1k, Y1l, AV.cells?, Y1n, Y1o, Y1p, Y1q, Y1r, Y1s, Y1t, Nat.reduceAdd, Nat.reduceMul, Y1w, Y1x, Y1y, Y1z, Y20, Y21, Y22, Y23, Y24, Y25, Y26, Y27, Y28, Y29, Y2a, Y2b, show (Ex.encL (pre ++ x :: r))[pre.length]? = some x.enc by rw [Ex.encL_map]; simp]
    refine wCall.pc (b := 0) (hl x (by simp) (n + Ex.sizeL pre) (by omega)) rfl rfl ?_
    rintro rr cs n3 ⟨rfl, rfl⟩
    rw [binA_succ (by simp at hlen; omega)]
    simp only [Y0, Y1, Y2, Y3, Y4, Y5, Y6, Y7, Y8, Y9, Ya, Yb, Yc, Yd, Ye, Yf, Yg, Yh, Yi, Yj, Yk, Yl, Ym, Yn, Yo, Yp, Yq, Yr, Ys, Yt, Yu, Yv, Yw, Yx, Yy, Yz, Y10, Y11, Y12, Y13, Y14, Y15, Y16, Y17, Y18, Y19, Y1a, Y1b, Y1c, Y1d, Y1e, Y1f, Y1g, Y1h, Y1i, Y1j, Y1k, Y1l, AV.cells?, Y1n, Y1o, Y1p, Y1q, Y1r, Y1s, Y1t, Nat.reduceAdd, Nat.reduceMul, Y1w, Y1x, Y1y, Y1z, Y20, Y21, Y22, Y23, Y24, Y25, Y26, Y27, Y28, Y29, Y2a, Y2b]
    refine back1.mk r.length (by simp) ⟨pre ++ [x], r, n3, by simp, by simp, rfl, ?_⟩
    rw [happ]
    simp only [Ex.sizeL]
    congr 5; omega
theorem walk_spec (B : SizeBodies E P) : ∀ (k : Nat) (x : Ex), x.wt < k → x.wt ≤ 1000000 → x.fine → ∀ n : Nat, n + x.size < 1000000000 → PC E P 161 1 [Z n] (fun b g => [x.enc, .fn 160 [] [.ptrL b 0 g]]) (fun r cs => r = .tup [] ∧ cs = [Z ((n + x.size : Nat) : Int)]) := by
  intro k
  induction k with
  | zero => intro x h; omega
  | succ k ih =>
    intro x hx hw hf n hn
    refine PC.of (fun f g => by simp only [AV.renL, AV.ren, AV.ren_closed _ (Ex.enc_closed x)]) ⟨trivial, trivial⟩ (by rintro r cs ⟨rfl, rfl⟩; exact ⟨trivial, trivial, trivial⟩) fun c g R hR => B.walk _ _ _ _ ?_
    unfold F.expr_walk
    have h1 : 1 ≤ x.size := by cases x <;> simp [Ex.size]
    refine wCallV.pc (b := 0) (size1_spec B x n (by omega)) rfl rfl ?_
    rintro r cs c2 ⟨rfl, rfl⟩
    have fin : ∀ rest c, x.size = 1 → R (.tup []) ⟨.cells g 1 [Z ((n + 1 : Nat) : Int)] :: rest, c⟩ := fun rest c h => hR _ _ _ rest c (.same _) ⟨rfl, by rw [h]⟩
    cases x with
    | k b => simp only [Ex.enc]; simp only [Y0, Y1, Y2, Y3, Y4, Y5, Y6, Y7, Y8, Y9, Ya, Yb, Yc, Yd, Ye, Yf, Yg, Yh, Yi, Yj, Yk, Yl, Ym, Yn, Yo, Yp, Yq, Yr, Ys, Yt, Yu, Yv, Yw, Yx, Yy, Yz, Y10, Y11, Y12, Y13, Y14, Y15, Y16, Y17, Y18, Y19, Y1a, Y1b, Y1c, Y1d, Y1e, Y1f, Y1g, Y1h, Y1i, Y1j, Y1k, Y1l, AV.cells?, Y1n, Y1o, Y1p, Y1q, Y1r, Y1s, Y1t, Nat.reduceAdd, Nat.reduceMul, Y1w, Y1x, Y1y, Y1z, Y20, Y21, Y22, Y23, Y24, Y25, Y26, Y27, Y28, Y29, Y2a, Y2b, asA, show (11 : Nat) = 10 ↔ False by decide, show (11 : Nat) = 9 ↔ False by decide, show (11 : Nat) = 8 ↔ False by decide]; exact fin [] c2 rfl
    | bit b => simp only [Ex.enc]; simp only [Y0, Y1, Y2, Y3, Y4, Y5, Y6, Y7, Y8, Y9, Ya, Yb, Yc, Yd, Ye, Yf, Yg, Yh, Yi, Yj, Yk, Yl, Ym, Yn, Yo, Yp, Yq, Yr, Ys, Yt, Yu, Yv, Yw, Yx, Yy, Yz, Y10, Y11, Y12, Y13, Y14, Y15, Y16, Y17, Y18, Y19, Y1a, Y1b, Y1c, Y1d, Y1e, Y1f, Y1g, Y1h, Y1i, Y1j, Y1k, Y1l, AV.cells?, Y1n, Y1o, Y1p, Y1q, Y1r, Y1s, Y1t, Nat.reduceAdd, Nat.reduceMul, Y1w, Y1x, Y1y, Y1z, Y20, Y21, Y22, Y23, Y24, Y25, Y26, Y27, Y28, Y29, Y2a, Y2b, asA, show (14 : Nat) = 10 ↔ False by decide, show (14 : Nat) = 9 ↔ False by decide, show (14 : Nat) = 8 ↔ False by decide]; exact fin [] c2 rfl
    | rise b => simp only [Ex.enc]; simp only [Y0, Y1, Y2, Y3, Y4, Y5, Y6, Y7, Y8, Y9, Ya, Yb, Yc, Yd, Ye, Yf, Yg, Yh, Yi, Yj, Yk, Yl, Ym, Yn, Yo, Yp, Yq, Yr, Ys, Yt, Yu, Yv, Yw, Yx, Yy, Yz, Y10, Y11, Y12, Y13, Y14, Y15, Y16, Y17, Y18, Y19, Y1a, Y1b, Y1c, Y1d, Y1e, Y1f, Y1g, Y1h, Y1i, Y1j, Y1k, Y1l, AV.cells?, Y1n, Y1o, Y1p, Y1q, Y1r, Y1s, Y1t, Nat.reduceAdd, Nat.reduceMul, Y1w, Y1x, Y1y, Y1z, Y20, Y21, Y22, Y23, Y24, Y25, Y26, Y27, Y28, Y29, Y2a, Y2b, asA, show (12 : Nat) = 10 ↔ False by decide, show (12 : Nat) = 9 ↔ False by decide, show (12 : Nat) = 8 ↔ False by decide]; exact fin [] c2 rfl
    | fall b => simp only [Ex.enc]; simp only [Y0, Y1, Y2, Y3, Y4, Y5, Y6, Y7, Y8, Y9, Ya, Yb, Yc, Yd, Ye, Yf, Yg, Yh, Yi, Yj, Yk, Yl, Ym, Yn, Yo, Yp, Yq, Yr, Ys, Yt, Yu, Yv, Yw, Yx, Yy, Yz, Y10, Y11, Y12, Y13, Y14, Y15, Y16, Y17, Y18, Y19, Y1a, Y1b, Y1c, Y1d, Y1e, Y1f, Y1g, Y1h, Y1i, Y1j, Y1k, Y1l, AV.cells?, Y1n, Y1o, Y1p, Y1q, Y1r, Y1s, Y1t, Nat.reduceAdd, Nat.reduceMul, Y1w, Y1x, Y1y, Y1z, Y20, Y21, Y22, Y23, Y24, Y25, Y26, Y27, Y28, Y29, Y2a, Y2b, asA, show (13 : Nat) = 10 ↔ False by decide, show (13 : Nat) = 9 ↔ False by decide, show (13 : Nat) = 8 ↔ False by decide]; exact fin [] c2 rfl
    | not y =>
      simp only [Ex.enc]
      simp only [Ex.wt] at hw hx
      simp only [Ex.size] at hn hR
      simp only [Y0, Y1, Y2, Y3, Y4, Y5, Y6, Y7, Y8, Y9, Ya, Yb, Yc, Yd, Ye, Yf, Yg, Yh, Yi, Yj, Yk, Yl, Ym, Yn, Yo, Yp, Yq, Yr, Ys, Yt, Yu, Yv, Yw, Yx, Yy, Yz, Y10, Y11, Y12, Y13, Y14, Y15, Y16, Y17, Y18, Y19, Y1a, Y1b, Y1c, Y1d, Y1e, Y1f, Y1g, Y1h, Y1i, Y1j, Y1k, Y1l, AV.cells?, Y1n, Y1o, Y1p, Y1q, Y1r, Y1s, Y1t, Nat.reduceAdd, Nat.reduceMul, Y1w, Y1x, Y1y, Y1z, Y20, Y21, Y22, Y23, Y24, Y25, Y26, Y27, Y28, Y29, Y2a, Y2b, asA, show (10 : Nat) = 10 ↔ True by decide]
      refine wNew.L (l := [nilE]) rfl ?_
      simp only [Y0, Y1, Y2, Y3, Y4, Y5, Y6, Y7, Y8, Y9, Ya, Yb, Yc, Yd, Ye, Yf, Yg, Yh, Yi, Yj, Yk, Yl, Ym, Yn, Yo, Yp, Yq, Yr, Ys, Yt, Yu, Yv, Yw, Yx, Yy, Yz, Y10, Y11, Y12, Y13, Y14, Y15, Y16, Y17, Y18, Y19, Y1a, Y1b, Y1c, Y1d, Y1e, Y1f, Y1g, Y1h, Y1i, Y1j, Y1k, Y1l, AV.cells?, Y1n, Y1o, Y1p, Y1q, Y1r, Y1s, Y1t, Nat.reduceAdd, Nat.reduceMul, Y1w, Y1x, Y1y, Y1z, Y20, Y21, Y22, Y23, Y24, Y25, Y26, Y27, Y28, Y29, Y2a, Y2b]
      rw [storeN_L (n := 1) (xs := [y.enc]) rfl (by simp [Ex.enc_scalar])]
      simp only [Y0, Y1, Y2, Y3, Y4, Y5, Y6, Y7, Y8, Y9, Ya, Yb, Yc, Yd, Ye, Yf, Yg, Yh, Yi, Yj, Yk, Yl, Ym, Yn, Yo, Yp, Yq, Yr, Ys, Yt, Yu, Yv, Yw, Yx, Yy, Yz, Y10, Y11, Y12, Y13, Y14, Y15, Y16, Y17, Y18, Y19, Y1a, Y1b, Y1c, Y1d, Y1e, Y1f, Y1g, Y1h, Y1i, Y1j, Y1k, Y1l, AV.cells?, Y1n, Y1o, Y1p, Y1q, Y1r, Y1s, Y1t, Nat.reduceAdd, Nat.reduceMul, Y1w, Y1x, Y1y, Y1z, Y20, Y21, Y22, Y23, Y24, Y25, Y26, Y27, Y28, Y29, Y2a, Y2b, show putL [nilE] 0 [y.enc] = some [y.enc] from rfl]
      refine wCall.pc (b := 0) (ih y (by omega) (by omega) hf (n + 1) (by omega)) rfl rfl ?_
      rintro r cs c3 ⟨rfl, rfl⟩
      refine hR _ _ _ _ c3 (.same _) ⟨rfl, ?_⟩
      congr 3; omega
    | and l =>
      simp only [Ex.enc]
      simp only [Ex.wt] at hw hx
      simp only [Ex.size] at hn hR
      have hll := Ex.len_wtL hf.2
      simp only [Y0, Y1, Y2, Y3, Y4, Y5, Y6, Y7, Y8, Y9, Ya, Yb, Yc, Yd, Ye, Yf, Yg, Yh, Yi, Yj, Yk, Yl, Ym, Yn, Yo, Yp, Yq, Yr, Ys, Yt, Yu, Yv, Yw, Yx, Yy, Yz, Y10, Y11, Y12, Y13, Y14, Y15, Y16, Y17, Y18, Y19, Y1a, Y1b, Y1c, Y1d, Y1e, Y1f, Y1g, Y1h, Y1i, Y1j, Y1k, Y1l, AV.cells?, Y1n, Y1o, Y1p, Y1q, Y1r, Y1s, Y1t, Nat.reduceAdd, Nat.reduceMul, Y1w, Y1x, Y1y, Y1z, Y20, Y21, Y22, Y23, Y24, Y25, Y26, Y27, Y28, Y29, Y2a, Y2b, asA, show (9 : Nat) = 10 ↔ False by decide, show (9 : Nat) = 9 ↔ True by decide]
      refine walkL_spec B l (fun y hy => ih y (by have := Ex.wt_mem hy; omega) (by have := Ex.wt_mem hy; omega) (Ex.fine_mem hf.2 hy)) (by omega) (n + 1) (by omega) [] fun c => ?_
      refine hR _ _ _ [] c (.same _) ⟨rfl, ?_⟩
      congr 3; omega
    | or l =>
      simp only [Ex.enc]
      simp only [Ex.wt] at hw hx
      simp only [Ex.size] at hn hR
      have hll := Ex.len_wtL hf.2
      simp only [Y0, Y1, Y2, Y3, Y4, Y5, Y6, Y7, Y8, Y9, Ya, Yb, Yc, Yd, Ye, Yf, Yg, Yh, Yi, Yj, Yk, Yl, Ym, Yn, Yo, Yp, Yq, Yr, Ys, Yt, Yu, Yv, Yw, Yx, Yy, Yz, Y10, Y11, Y12, Y13, Y14, Y15, Y16, Y17, Y18, Y19, Y1a, Y1b, Y1c, Y1d, Y1e, Y1f, Y1g, Y1h, Y1i, Y1j, Y1k, Y1l, AV.cells?, Y1n, Y1o, Y1p, Y1q, Y1r, Y1s, Y1t, Nat.reduceAdd, Nat.reduceMul, Y1w, Y1x, Y1y, Y1z, Y20, Y21, Y22, Y23, Y24, Y25, Y26, Y27, Y28, Y29, Y2a, Y2b, asA, show (8 : Nat) = 10 ↔ False by decide, show (8 : Nat) = 9 ↔ False by decide, show (8 : Nat) = 8 ↔ True by decide]
      refine walkL_spec B l (fun y hy => ih y (by have := Ex.wt_mem hy; omega) (by have := Ex.wt_mem hy; omega) (Ex.fine_mem hf.2 hy)) (by omega) (n + 1) (by omega) [] fun c => ?_
      refine hR _ _ _ [] c (.same _) ⟨rfl, ?_⟩
      congr 3; omega
theorem Size_spec (B : SizeBodies E P) (x : Ex) (hw : x.wt ≤ 1000000) (hf : x.fine) : FX E P 156 [x.enc] (Z x.size) := by
  refine FX.of' ⟨Ex.enc_closed x, trivial⟩ trivial fun n R hR => B.size _ _ _ ?_
  unfold F.expr_Size
  refine wNew.L (l := [Z 0]) rfl ?_
  simp only [Y0, Y1, Y2, Y3, Y4, Y5, Y6, Y7, Y8, Y9, Ya, Yb, Yc, Yd, Ye, Yf, Yg, Yh, Yi, Yj, Yk, Yl, Ym, Yn, Yo, Yp, Yq, Yr, Ys, Yt, Yu, Yv, Yw, Yx, Yy, Yz, Y10, Y11, Y12, Y13, Y14, Y15, Y16, Y17, Y18, Y19, Y1a, Y1b, Y1c, Y1d, Y1e, Y1f, Y1g, Y1h, Y1i, Y1j, Y1k, Y1l, AV.cells?, Y1n, Y1o, Y1p, Y1q, Y1r, Y1s, Y1t, Nat.reduceAdd, Nat.reduceMul, Y1w, Y1x, Y1y, Y1z, Y20, Y21, Y22, Y23, Y24, Y25, Y26, Y27, Y28, Y29, Y2a, Y2b]
  rw [store1_L rfl]
  simp only [Y0, Y1, Y2, Y3, Y4, Y5, Y6, Y7, Y8, Y9, Ya, Yb, Yc, Yd, Ye, Yf, Yg, Yh, Yi, Yj, Yk, Yl, Ym, Yn, Yo, Yp, Yq, Yr, Ys, Yt, Yu, Yv, Yw, Yx, Yy, Yz, Y10, Y11, Y12, Y13, Y14, Y15, Y16, Y17, Y18, Y19, Y1a, Y1b, Y1c, Y1d, Y1e, Y1f, Y1g, Y1h, Y1i, Y1j, Y1k, Y1l, AV.cells?, Y1n, Y1o, Y1p, Y1q, Y1r, Y1s, Y1t, Nat.reduceAdd, Nat.reduceMul, Y1w, Y1x, Y1y, Y1z, Y20, Y21, Y22, Y23, Y24, Y25, Y26, Y27, Y28, Y29, Y2a, Y2b, Nat.reduceLT]
  have := Ex.size_wt x hf
  refine wCall.pc (b := 0) (walk_spec B (x.wt + 1) x (by omega) hw hf 0 (by omega)) rfl rfl ?_
  rintro r cs c2 ⟨rfl, rfl⟩
  simp only [Y0, Y1, Y2, Y3, Y4, Y5, Y6, Y7, Y8, Y9, Ya, Yb, Yc, Yd, Ye, Yf, Yg, Yh, Yi, Yj, Yk, Yl, Ym, Yn, Yo, Yp, Yq, Yr, Ys, Yt, Yu, Yv, Yw, Yx, Yy, Yz, Y10, Y11, Y12, Y13, Y14, Y15, Y16, Y17, Y18, Y19, Y1a, Y1b, Y1c, Y1d, Y1e, Y1f, Y1g, Y1h, Y1i, Y1j, Y1k, Y1l, AV.cells?, Y1n, Y1o, Y1p, Y1q, Y1r, Y1s, Y1t, Nat.reduceAdd, Nat.reduceMul, Y1w, Y1x, Y1y, Y1z, Y20, Y21, Y22, Y23, Y24, Y25, Y26, Y27, Y28, Y29, Y2a, Y2b]
  exact hR _ _ (by simp)
end

/-! ### a fact: an expression of two -/
structure KeepExprBodies (E : Env) (P : Program) : Prop where
  p : ParseBodies E P
  w : WriteBodies E P
  e : EvalBodies E P
  says : Body0 E P 155 F.keep_says
section
variable {E : Env} {P : Program}
def saysEx : Ex := .and [.bit [97], .not (.bit [98])]
theorem saysEx_text : saysEx.wr 0 = [97, 32, 38, 32, 33, 98] := by rfl
theorem saysEx_fine : saysEx.fine := ⟨by simp, by show nameOk [97] = true; decide, by show nameOk [98] = true; decide, trivial⟩
theorem saysEx_parse : parseA [97, 32, 38, 32, 33, 98] = .tup [saysEx.enc, nilE] := by
  have h := parse_text saysEx_fine (by decide)
  rw [saysEx_text] at h
  unfold parseA
  rw [if_neg (by decide), h]
theorem says_spec (B : KeepExprBodies E P) : FX E P 155 [] (Bo true) := by
  refine FX.of' trivial trivial fun n R hR => B.says _ _ ?_
  unfold F.keep_says
  have hp := Parse_spec B.p [97, 32, 38, 32, 33, 98]
  rw [saysEx_parse] at hp
  have nilT : TXL nilS [] := .inl ⟨rfl, rfl⟩
  refine wCall.fx hp fun n => ?_
  have hne : eqA .iface saysEx.enc nilE = some false := rfl
  simp only [Y0, Y1, Y2, Y3, Y4, Y5, Y6, Y7, Y8, Y9, Ya, Yb, Yc, Yd, Ye, Yf, Yg, Yh, Yi, Yj, Yk, Yl, Ym, Yn, Yo, Yp, Yq, Yr, Ys, Yt, Yu, Yv, Yw, Yx, Yy, Yz, Y10, Y11, Y12, Y13, Y14, Y15, Y16, Y17, Y18, Y19, Y1a, Y1b, Y1c, Y1d, Y1e, Y1f, Y1g, Y1h, Y1i, Y1j, Y1k, Y1l, AV.cells?, Y1n, Y1o, Y1p, Y1q, Y1r, Y1s, Y1t, Nat.reduceAdd, Nat.reduceMul, Y1w, Y1x, Y1y, Y1z, Y20, Y21, Y22, Y23, Y24, Y25, Y26, Y27, Y28, Y29, Y2a, Y2b, hne]
  have hS : ∀ l : List Str, (fillA (List.replicate l.length [S []]).flatten []) = (fillA (List.replicate l.length [S []]).flatten []) := fun _ => rfl
  have hwt : saysEx.wt ≤ 1000000 := by decide
  refine wNewS.F' (l := [S [97]]) rfl rfl ?_
  have t1 : TXL (.slN [S [97]] 1) [[97]] := .inr rfl
  refine wCall.fx (among_spec B.e t1) fun n => ?_
  refine wCall.fx (among_spec B.e nilT) fun n => ?_
  refine wCall.fx (Eval_spec B.e (among_asks B.e t1 (by decide)) (among_asks B.e nilT (by decide)) (saysEx.wt + 1) saysEx (by omega) hwt saysEx_fine) fun n => ?_
  rw [show saysEx.says (fun s => decide (s ∈ [[97]])) (fun s => decide (s ∈ ([] : List Str))) = true by decide]
  simp only [Y0, Y1, Y2, Y3, Y4, Y5, Y6, Y7, Y8, Y9, Ya, Yb, Yc, Yd, Ye, Yf, Yg, Yh, Yi, Yj, Yk, Yl, Ym, Yn, Yo, Yp, Yq, Yr, Ys, Yt, Yu, Yv, Yw, Yx, Yy, Yz, Y10, Y11, Y12, Y13, Y14, Y15, Y16, Y17, Y18, Y19, Y1a, Y1b, Y1c, Y1d, Y1e, Y1f, Y1g, Y1h, Y1i, Y1j, Y1k, Y1l, AV.cells?, Y1n, Y1o, Y1p, Y1q, Y1r, Y1s, Y1t, Nat.reduceAdd, Nat.reduceMul, Y1w, Y1x, Y1y, Y1z, Y20, Y21, Y22, Y23, Y24, Y25, Y26, Y27, Y28, Y29, Y2a, Y2b]
  refine wNewS.F' (l := [S [97], S [98]]) rfl rfl ?_
  have t2 : TXL (.slN [S [97], S [98]] 2) [[97], [98]] := .inr rfl
  refine wCall.fx (among_spec B.e t2) fun n => ?_
  refine wCall.fx (among_spec B.e nilT) fun n => ?_
  refine wCall.fx (Eval_spec B.e (among_asks B.e t2 (by decide)) (among_asks B.e nilT (by decide)) (saysEx.wt + 1) saysEx (by omega) hwt saysEx_fine) fun n => ?_
  rw [show saysEx.says (fun s => decide (s ∈ [[97], [98]])) (fun s => decide (s ∈ ([] : List Str))) = false by decide]
  simp only [Y0, Y1, Y2, Y3, Y4, Y5, Y6, Y7, Y8, Y9, Ya, Yb, Yc, Yd, Ye, Yf, Yg, Yh, Yi, Yj, Yk, Yl, Ym, Yn, Yo, Yp, Yq, Yr, Ys, Yt, Yu, Yv, Yw, Yx, Yy, Yz, Y10, Y11, Y12, Y13, Y14, Y15, Y16, Y17, Y18, Y19, Y1a, Y1b, Y1c, Y1d, Y1e, Y1f, Y1g, Y1h, Y1i, Y1j, Y1k, Y1l, AV.cells?, Y1n, Y1o, Y1p, Y1q, Y1r, Y1s, Y1t, Nat.reduceAdd, Nat.reduceMul, Y1w, Y1x, Y1y, Y1z, Y20, Y21, Y22, Y23, Y24, Y25, Y26, Y27, Y28, Y29, Y2a, Y2b]
  refine wCall.fx (Text_spec B.w saysEx hwt saysEx_fine) fun n => ?_
  rw [saysEx_text]
  simp only [Y0, Y1, Y2, Y3, Y4, Y5, Y6, Y7, Y8, Y9, Ya, Yb, Yc, Yd, Ye, Yf, Yg, Yh, Yi, Yj, Yk, Yl, Ym, Yn, Yo, Yp, Yq, Yr, Ys, Yt, Yu, Yv, Yw, Yx, Yy, Yz, Y10, Y11, Y12, Y13, Y14, Y15, Y16, Y17, Y18, Y19, Y1a, Y1b, Y1c, Y1d, Y1e, Y1f, Y1g, Y1h, Y1i, Y1j, Y1k, Y1l, AV.cells?, Y1n, Y1o, Y1p, Y1q, Y1r, Y1s, Y1t, Nat.reduceAdd, Nat.reduceMul, Y1w, Y1x, Y1y, Y1z, Y20, Y21, Y22, Y23, Y24, Y25, Y26, Y27, Y28, Y29, Y2a, Y2b]
  exact hR _ _ rfl
end
end Go.Sc
namespace Go.Sc
open Go
set_option linter.unusedSimpArgs false
set_option linter.unusedVariables false
set_option linter.unnecessarySimpa false

structure BackBodies (E : Env) (P : Program) : Prop where
  k : KeepExprBodies E P
  s : SizeBodies E P
theorem TXL_Lm (l : List Str) : TXL (Lm S l) l := .inr rfl
section
variable {E : Env} {P : Program}
theorem parseA_ok {s : Str} (h : s.length ≤ 2000) : (∃ e p, parseA s = .tup [nilE, At e p]) ∨ ∃ x j, parseR s = .ok x j ∧ parseA s = .tup [x.enc, nilE] := by
  unfold parseA
  rw [if_neg (by omega)]
  cases hp : parseR s with
  | no e p => exact .inl ⟨e, p, rfl⟩
  | ok x j => exact .inr ⟨x, j, rfl, rfl⟩
set_option maxHeartbeats 1000000 in
theorem ExprBack_body (B : BackBodies E P) (s : Str) (l m : List Str) (n : Nat) : F.keep_ExprBack E P (S s) (Lm S l) (Lm S m) ⟨[], n⟩ (fun r _ => r = Bo true) := by
  unfold F.keep_ExprBack
  rw [Lm_S, Lm_S]
  simp only [Y0, Y1, Y2, Y3, Y4, Y5, Y6, Y7, Y8, Y9, Ya, Yb, Yc, Yd, Ye, Yf, Yg, Yh, Yi, Yj, Yk, Yl, Ym, Yn, Yo, Yp, Yq, Yr, Ys, Yt, Yu, Yv, Yw, Yx, Yy, Yz, Y10, Y11, Y12, Y13, Y14, Y15, Y16, Y17, Y18, Y19, Y1a, Y1b, Y1c, Y1d, Y1e, Y1f, Y1g, Y1h, Y1i, Y1j, Y1k, Y1l, AV.cells?, Y1n, Y1o, Y1p, Y1q, Y1r, Y1s, Y1t, Nat.reduceAdd, Nat.reduceMul, Y1w, Y1x, Y1y, Y1z, Y20, Y21, Y22, Y23, Y24, Y25, Y26, Y27, Y28, Y29, Y2a, Y2b]
  by_cases h1 : 900 < s.length
  · simp only [Y0, Y1, Y2, Y3, Y4, Y5, Y6, Y7, Y8, Y9, Ya, Yb, Yc, Yd, Ye, Yf, Yg, Yh, Yi, Yj, Yk, Yl, Ym, Yn, Yo, Yp, Yq, Yr, Ys, Yt, Yu, Yv, Yw, Yx, Yy, Yz, Y10, Y11, Y12, Y13, Y14, Y15, Y16, Y17, Y18, Y19, Y1a, Y1b, Y1c, Y1d, Y1e, Y1f, Y1g, Y1h, Y1i, Y1j, Y1k, Y1l, AV.cells?, Y1n, Y1o, Y1p, Y1q, Y1r, Y1s, Y1t, Nat.reduceAdd, Nat.reduceMul, Y1w, Y1x, Y1y, Y1z, Y20, Y21, Y22, Y23, Y24, Y25, Y26, Y27, Y28, Y29, Y2a, Y2b, decide_eq_true (show (900 : Int) < (s.length : Int) by omega)]
  simp only [Y0, Y1, Y2, Y3, Y4, Y5, Y6, Y7, Y8, Y9, Ya, Yb, Yc, Yd, Ye, Yf, Yg, Yh, Yi, Yj, Yk, Yl, Ym, Yn, Yo, Yp, Yq, Yr, Ys, Yt, Yu, Yv, Yw, Yx, Yy, Yz, Y10, Y11, Y12, Y13, Y14, Y15, Y16, Y17, Y18, Y19, Y1a, Y1b, Y1c, Y1d, Y1e, Y1f, Y1g, Y1h, Y1i, Y1j, Y1k, Y1l, AV.cells?, Y1n, Y1o, Y1p, Y1q, Y1r, Y1s, Y1t, Nat.reduceAdd, Nat.reduceMul, Y1w, Y1x, Y1y, Y1z, Y20, Y21, Y22, Y23, Y24, Y25, Y26, Y27, Y28, Y29, Y2a, Y2b, decide_eq_false (show ¬ (900 : Int) < (s.length : Int) by omega)]
  by_cases h2 : 20 < l.length
  · simp only [Y0, Y1, Y2, Y3, Y4, Y5, Y6, Y7, Y8, Y9, Ya, Yb, Yc, Yd, Ye, Yf, Yg, Yh, Yi, Yj, Yk, Yl, Ym, Yn, Yo, Yp, Yq, Yr, Ys, Yt, Yu, Yv, Yw, Yx, Yy, Yz, Y10, Y11, Y12, Y13, Y14, Y15, Y16, Y17, Y18, Y19, Y1a, Y1b, Y1c, Y1d, Y1e, Y1f, Y1g, Y1h, Y1i, Y1j, Y1k, Y1l, AV.cells?, Y1n, Y1o, Y1p, Y1q, Y1r, Y1s, Y1t, Nat.reduceAdd, Nat.reduceMul, Y1w, Y1x, Y1y, Y1z, Y20, Y21, Y22, Y23, Y24, Y25, Y26, Y27, Y28, Y29, Y2a, Y2b, decide_eq_true (show (20 : Int) < (l.length : Int) by omega)]
  simp only [Y0, Y1, Y2, Y3, Y4, Y5, Y6, Y7, Y8, Y9, Ya, Yb, Yc, Yd, Ye, Yf, Yg, Yh, Yi, Yj, Yk, Yl, Ym, Yn, Yo, Yp, Yq, Yr, Ys, Yt, Yu, Yv, Yw, Yx, Yy, Yz, Y10, Y11, Y12, Y13, Y14, Y15, Y16, Y17, Y18, Y19, Y1a, Y1b, Y1c, Y1d, Y1e, Y1f, Y1g, Y1h, Y1i, Y1j, Y1k, Y1l, AV.cells?, Y1n, Y1o, Y1p, Y1q, Y1r, Y1s, Y1t, Nat.reduceAdd, Nat.reduceMul, Y1w, Y1x, Y1y, Y1z, Y20, Y21, Y22, Y23, Y24, Y25, Y26, Y27, Y28, Y29, Y2a, Y2b, decide_eq_false (show ¬ (20 : Int) < (l.length : Int) by omega)]
  by_cases h3 : 20 < m.length
  · simp only [Y0, Y1, Y2, Y3, Y4, Y5, Y6, Y7, Y8, Y9, Ya, Yb, Yc, Yd, Ye, Yf, Yg, Yh, Yi, Yj, Yk, Yl, Ym, Yn, Yo, Yp, Yq, Yr, Ys, Yt, Yu, Yv, Yw, Yx, Yy, Yz, Y10, Y11, Y12, Y13, Y14, Y15, Y16, Y17, Y18, Y19, Y1a, Y1b, Y1c, Y1d, Y1e, Y1f, Y1g, Y1h, Y1i, Y1j, Y1k, Y1l, AV.cells?, Y1n, Y1o, Y1p, Y1q, Y1r, Y1s, Y1t, Nat.reduceAdd, Nat.reduceMul, Y1w, Y1x, Y1y, Y1z, Y20, Y21, Y22, Y23, Y24, Y25, Y26, Y27, Y28, Y29, Y2a, Y2b, decide_eq_true (show (20 : Int) < (m.length : Int) by omega)]
  simp only [Y0, Y1, Y2, Y3, Y4, Y5, Y6, Y7, Y8, Y9, Ya, Yb, Yc, Yd, Ye, Yf, Yg, Yh, Yi, Yj, Yk, Yl, Ym, Yn, Yo, Yp, Yq, Yr, Ys, Yt, Yu, Yv, Yw, Yx, Yy, Yz, Y10, Y11, Y12, Y13, Y14, Y15, Y16, Y17, Y18, Y19, Y1a, Y1b, Y1c, Y1d, Y1e, Y1f, Y1g, Y1h, Y1i, Y1j, Y1k, Y1l, AV.cells?, Y1n, Y1o, Y1p, Y1q, Y1r, Y1s, Y1t, Nat.reduceAdd, Nat.reduceMul, Y1w, Y1x, Y1y, Y1z, Y20, Y21, Y22, Y23, Y24, Y25, Y26, Y27, Y28, Y29, Y2a, Y2b, decide_eq_false (show ¬ (20 : Int) < (m.length : Int) by omega)]
  have hp := Parse_spec B.k.p s
  refine wCall.fx hp fun n => ?_
  rcases parseA_ok (s := s) (by omega) with ⟨e, p, hA⟩ | ⟨x, j, hx, hA⟩
  · rw [hA]
    simp only [Y0, Y1, Y2, Y3, Y4, Y5, Y6, Y7, Y8, Y9, Ya, Yb, Yc, Yd, Ye, Yf, Yg, Yh, Yi, Yj, Yk, Yl, Ym, Yn, Yo, Yp, Yq, Yr, Ys, Yt, Yu, Yv, Yw, Yx, Yy, Yz, Y10, Y11, Y12, Y13, Y14, Y15, Y16, Y17, Y18, Y19, Y1a, Y1b, Y1c, Y1d, Y1e, Y1f, Y1g, Y1h, Y1i, Y1j, Y1k, Y1l, AV.cells?, Y1n, Y1o, Y1p, Y1q, Y1r, Y1s, Y1t, Nat.reduceAdd, Nat.reduceMul, Y1w, Y1x, Y1y, Y1z, Y20, Y21, Y22, Y23, Y24, Y25, Y26, Y27, Y28, Y29, Y2a, Y2b]
    refine wCall.fx (says_spec B.k) fun n => ?_
    simp only [Y0, Y1, Y2, Y3, Y4, Y5, Y6, Y7, Y8, Y9, Ya, Yb, Yc, Yd, Ye, Yf, Yg, Yh, Yi, Yj, Yk, Yl, Ym, Yn, Yo, Yp, Yq, Yr, Ys, Yt, Yu, Yv, Yw, Yx, Yy, Yz, Y10, Y11, Y12, Y13, Y14, Y15, Y16, Y17, Y18, Y19, Y1a, Y1b, Y1c, Y1d, Y1e, Y1f, Y1g, Y1h, Y1i, Y1j, Y1k, Y1l, AV.cells?, Y1n, Y1o, Y1p, Y1q, Y1r, Y1s, Y1t, Nat.reduceAdd, Nat.reduceMul, Y1w, Y1x, Y1y, Y1z, Y20, Y21, Y22, Y23, Y24, Y25, Y26, Y27, Y28, Y29, Y2a, Y2b, eqA_At]
    refine wCall.fx (says_spec B.k) fun n => ?_
    simp only [Y0, Y1, Y2, Y3, Y4, Y5, Y6, Y7, Y8, Y9, Ya, Yb, Yc, Yd, Ye, Yf, Yg, Yh, Yi, Yj, Yk, Yl, Ym, Yn, Yo, Yp, Yq, Yr, Ys, Yt, Yu, Yv, Yw, Yx, Yy, Yz, Y10, Y11, Y12, Y13, Y14, Y15, Y16, Y17, Y18, Y19, Y1a, Y1b, Y1c, Y1d, Y1e, Y1f, Y1g, Y1h, Y1i, Y1j, Y1k, Y1l, AV.cells?, Y1n, Y1o, Y1p, Y1q, Y1r, Y1s, Y1t, Nat.reduceAdd, Nat.reduceMul, Y1w, Y1x, Y1y, Y1z, Y20, Y21, Y22, Y23, Y24, Y25, Y26, Y27, Y28, Y29, Y2a, Y2b, beq_self_eq_true]
  · rw [hA]
    obtain ⟨hw, hf⟩ := parseR_good hx
    have hd := parseR_dep hx
    have hne : eqA .iface x.enc nilE = some false := by cases x <;> rfl
    simp only [Y0, Y1, Y2, Y3, Y4, Y5, Y6, Y7, Y8, Y9, Ya, Yb, Yc, Yd, Ye, Yf, Yg, Yh, Yi, Yj, Yk, Yl, Ym, Yn, Yo, Yp, Yq, Yr, Ys, Yt, Yu, Yv, Yw, Yx, Yy, Yz, Y10, Y11, Y12, Y13, Y14, Y15, Y16, Y17, Y18, Y19, Y1a, Y1b, Y1c, Y1d, Y1e, Y1f, Y1g, Y1h, Y1i, Y1j, Y1k, Y1l, AV.cells?, Y1n, Y1o, Y1p, Y1q, Y1r, Y1s, Y1t, Nat.reduceAdd, Nat.reduceMul, Y1w, Y1x, Y1y, Y1z, Y20, Y21, Y22, Y23, Y24, Y25, Y26, Y27, Y28, Y29, Y2a, Y2b]
    refine wCall.fx (says_spec B.k) fun n => ?_
    simp only [Y0, Y1, Y2, Y3, Y4, Y5, Y6, Y7, Y8, Y9, Ya, Yb, Yc, Yd, Ye, Yf, Yg, Yh, Yi, Yj, Yk, Yl, Ym, Yn, Yo, Yp, Yq, Yr, Ys, Yt, Yu, Yv, Yw, Yx, Yy, Yz, Y10, Y11, Y12, Y13, Y14, Y15, Y16, Y17, Y18, Y19, Y1a, Y1b, Y1c, Y1d, Y1e, Y1f, Y1g, Y1h, Y1i, Y1j, Y1k, Y1l, AV.cells?, Y1n, Y1o, Y1p, Y1q, Y1r, Y1s, Y1t, Nat.reduceAdd, Nat.reduceMul, Y1w, Y1x, Y1y, Y1z, Y20, Y21, Y22, Y23, Y24, Y25, Y26, Y27, Y28, Y29, Y2a, Y2b]
    have hT := Text_spec B.k.w x (by omega) hf
    refine wCall.fx hT fun n => ?_
    simp only [Y0, Y1, Y2, Y3, Y4, Y5, Y6, Y7, Y8, Y9, Ya, Yb, Yc, Yd, Ye, Yf, Yg, Yh, Yi, Yj, Yk, Yl, Ym, Yn, Yo, Yp, Yq, Yr, Ys, Yt, Yu, Yv, Yw, Yx, Yy, Yz, Y10, Y11, Y12, Y13, Y14, Y15, Y16, Y17, Y18, Y19, Y1a, Y1b, Y1c, Y1d, Y1e, Y1f, Y1g, Y1h, Y1i, Y1j, Y1k, Y1l, AV.cells?, Y1n, Y1o, Y1p, Y1q, Y1r, Y1s, Y1t, Nat.reduceAdd, Nat.reduceMul, Y1w, Y1x, Y1y, Y1z, Y20, Y21, Y22, Y23, Y24, Y25, Y26, Y27, Y28, Y29, Y2a, Y2b]
    by_cases h4 : 2000 < (x.wr 0).length
    · simp only [Y0, Y1, Y2, Y3, Y4, Y5, Y6, Y7, Y8, Y9, Ya, Yb, Yc, Yd, Ye, Yf, Yg, Yh, Yi, Yj, Yk, Yl, Ym, Yn, Yo, Yp, Yq, Yr, Ys, Yt, Yu, Yv, Yw, Yx, Yy, Yz, Y10, Y11, Y12, Y13, Y14, Y15, Y16, Y17, Y18, Y19, Y1a, Y1b, Y1c, Y1d, Y1e, Y1f, Y1g, Y1h, Y1i, Y1j, Y1k, Y1l, AV.cells?, Y1n, Y1o, Y1p, Y1q, Y1r, Y1s, Y1t, Nat.reduceAdd, Nat.reduceMul, Y1w, Y1x, Y1y, Y1z, Y20, Y21, Y22, Y23, Y24, Y25, Y26, Y27, Y28, Y29, Y2a, Y2b, decide_eq_true (show (2000 : Int) < ((x.wr 0).length : Int) by omega)]
    simp only [Y0, Y1, Y2, Y3, Y4, Y5, Y6, Y7, Y8, Y9, Ya, Yb, Yc, Yd, Ye, Yf, Yg, Yh, Yi, Yj, Yk, Yl, Ym, Yn, Yo, Yp, Yq, Yr, Ys, Yt, Yu, Yv, Yw, Yx, Yy, Yz, Y10, Y11, Y12, Y13, Y14, Y15, Y16, Y17, Y18, Y19, Y1a, Y1b, Y1c, Y1d, Y1e, Y1f, Y1g, Y1h, Y1i, Y1j, Y1k, Y1l, AV.cells?, Y1n, Y1o, Y1p, Y1q, Y1r, Y1s, Y1t, Nat.reduceAdd, Nat.reduceMul, Y1w, Y1x, Y1y, Y1z, Y20, Y21, Y22, Y23, Y24, Y25, Y26, Y27, Y28, Y29, Y2a, Y2b, decide_eq_false (show ¬ (2000 : Int) < ((x.wr 0).length : Int) by omega)]
    have hp2 := Parse_spec B.k.p (x.wr 0)
    unfold parseA at hp2
    rw [if_neg h4, parse_text hf hd] at hp2
    refine wCall.fx hp2 fun n => ?_
    simp only [Y0, Y1, Y2, Y3, Y4, Y5, Y6, Y7, Y8, Y9, Ya, Yb, Yc, Yd, Ye, Yf, Yg, Yh, Yi, Yj, Yk, Yl, Ym, Yn, Yo, Yp, Yq, Yr, Ys, Yt, Yu, Yv, Yw, Yx, Yy, Yz, Y10, Y11, Y12, Y13, Y14, Y15, Y16, Y17, Y18, Y19, Y1a, Y1b, Y1c, Y1d, Y1e, Y1f, Y1g, Y1h, Y1i, Y1j, Y1k, Y1l, AV.cells?, Y1n, Y1o, Y1p, Y1q, Y1r, Y1s, Y1t, Nat.reduceAdd, Nat.reduceMul, Y1w, Y1x, Y1y, Y1z, Y20, Y21, Y22, Y23, Y24, Y25, Y26, Y27, Y28, Y29, Y2a, Y2b, hne]
    refine wCall.fx hT fun n => ?_
    simp only [Y0, Y1, Y2, Y3, Y4, Y5, Y6, Y7, Y8, Y9, Ya, Yb, Yc, Yd, Ye, Yf, Yg, Yh, Yi, Yj, Yk, Yl, Ym, Yn, Yo, Yp, Yq, Yr, Ys, Yt, Yu, Yv, Yw, Yx, Yy, Yz, Y10, Y11, Y12, Y13, Y14, Y15, Y16, Y17, Y18, Y19, Y1a, Y1b, Y1c, Y1d, Y1e, Y1f, Y1g, Y1h, Y1i, Y1j, Y1k, Y1l, AV.cells?, Y1n, Y1o, Y1p, Y1q, Y1r, Y1s, Y1t, Nat.reduceAdd, Nat.reduceMul, Y1w, Y1x, Y1y, Y1z, Y20, Y21, Y22, Y23, Y24, Y25, Y26, Y27, Y28, Y29, Y2a, Y2b, decide_eq_true (show Ex.wr 0 x = Ex.wr 0 x from rfl)]
    refine wCall.fx (Size_spec B.s x (by omega) hf) fun n => ?_
    simp only [Y0, Y1, Y2, Y3, Y4, Y5, Y6, Y7, Y8, Y9, Ya, Yb, Yc, Yd, Ye, Yf, Yg, Yh, Yi, Yj, Yk, Yl, Ym, Yn, Yo, Yp, Yq, Yr, Ys, Yt, Yu, Yv, Yw, Yx, Yy, Yz, Y10, Y11, Y12, Y13, Y14, Y15, Y16, Y17, Y18, Y19, Y1a, Y1b, Y1c, Y1d, Y1e, Y1f, Y1g, Y1h, Y1i, Y1j, Y1k, Y1l, AV.cells?, Y1n, Y1o, Y1p, Y1q, Y1r, Y1s, Y1t, Nat.reduceAdd, Nat.reduceMul, Y1w, Y1x, Y1y, Y1z, Y20, Y21, Y22, Y23, Y24, Y25, Y26, Y27, Y28, Y29, Y2a, Y2b]
    refine wCall.fx (Size_spec B.s x (by omega) hf) fun n => ?_
    simp only [Y0, Y1, Y2, Y3, Y4, Y5, Y6, Y7, Y8, Y9, Ya, Yb, Yc, Yd, Ye, Yf, Yg, Yh, Yi, Yj, Yk, Yl, Ym, Yn, Yo, Yp, Yq, Yr, Ys, Yt, Yu, Yv, Yw, Yx, Yy, Yz, Y10, Y11, Y12, Y13, Y14, Y15, Y16, Y17, Y18, Y19, Y1a, Y1b, Y1c, Y1d, Y1e, Y1f, Y1g, Y1h, Y1i, Y1j, Y1k, Y1l, AV.cells?, Y1n, Y1o, Y1p, Y1q, Y1r, Y1s, Y1t, Nat.reduceAdd, Nat.reduceMul, Y1w, Y1x, Y1y, Y1z, Y20, Y21, Y22, Y23, Y24, Y25, Y26, Y27, Y28, Y29, Y2a, Y2b, decide_eq_true (show (x.size : Int) = (x.size : Int) from rfl)]
    have a1 := among_asks B.k.e (TXL_Lm l) (by omega)
    have a2 := among_asks B.k.e (TXL_Lm m) (by omega)
    have hE := Eval_spec B.k.e a1 a2 (x.wt + 1) x (by omega) (by omega) hf
    refine wCall.fx (among_spec B.k.e (TXL_Lm l)) fun n => ?_
    simp only [Y0, Y1, Y2, Y3, Y4, Y5, Y6, Y7, Y8, Y9, Ya, Yb, Yc, Yd, Ye, Yf, Yg, Yh, Yi, Yj, Yk, Yl, Ym, Yn, Yo, Yp, Yq, Yr, Ys, Yt, Yu, Yv, Yw, Yx, Yy, Yz, Y10, Y11, Y12, Y13, Y14, Y15, Y16, Y17, Y18, Y19, Y1a, Y1b, Y1c, Y1d, Y1e, Y1f, Y1g, Y1h, Y1i, Y1j, Y1k, Y1l, AV.cells?, Y1n, Y1o, Y1p, Y1q, Y1r, Y1s, Y1t, Nat.reduceAdd, Nat.reduceMul, Y1w, Y1x, Y1y, Y1z, Y20, Y21, Y22, Y23, Y24, Y25, Y26, Y27, Y28, Y29, Y2a, Y2b]
    refine wCall.fx (among_spec B.k.e (TXL_Lm m)) fun n => ?_
    simp only [Y0, Y1, Y2, Y3, Y4, Y5, Y6, Y7, Y8, Y9, Ya, Yb, Yc, Yd, Ye, Yf, Yg, Yh, Yi, Yj, Yk, Yl, Ym, Yn, Yo, Yp, Yq, Yr, Ys, Yt, Yu, Yv, Yw, Yx, Yy, Yz, Y10, Y11, Y12, Y13, Y14, Y15, Y16, Y17, Y18, Y19, Y1a, Y1b, Y1c, Y1d, Y1e, Y1f, Y1g, Y1h, Y1i, Y1j, Y1k, Y1l, AV.cells?, Y1n, Y1o, Y1p, Y1q, Y1r, Y1s, Y1t, Nat.reduceAdd, Nat.reduceMul, Y1w, Y1x, Y1y, Y1z, Y20, Y21, Y22, Y23, Y24, Y25, Y26, Y27, Y28, Y29, Y2a, Y2b]
    refine wCall.fx hE fun n => ?_
    simp only [Y0, Y1, Y2, Y3, Y4, Y5, Y6, Y7, Y8, Y9, Ya, Yb, Yc, Yd, Ye, Yf, Yg, Yh, Yi, Yj, Yk, Yl, Ym, Yn, Yo, Yp, Yq, Yr, Ys, Yt, Yu, Yv, Yw, Yx, Yy, Yz, Y10, Y11, Y12, Y13, Y14, Y15, Y16, Y17, Y18, Y19, Y1a, Y1b, Y1c, Y1d, Y1e, Y1f, Y1g, Y1h, Y1i, Y1j, Y1k, Y1l, AV.cells?, Y1n, Y1o, Y1p, Y1q, Y1r, Y1s, Y1t, Nat.reduceAdd, Nat.reduceMul, Y1w, Y1x, Y1y, Y1z, Y20, Y21, Y22, Y23, Y24, Y25, Y26, Y27, Y28, Y29, Y2a, Y2b]
    refine wCall.fx (among_spec B.k.e (TXL_Lm l)) fun n => ?_
    simp only [Y0, Y1, Y2, Y3, Y4, Y5, Y6, Y7, Y8, Y9, Ya, Yb, Yc, Yd, Ye, Yf, Yg, Yh, Yi, Yj, Yk, Yl, Ym, Yn, Yo, Yp, Yq, Yr, Ys, Yt, Yu, Yv, Yw, Yx, Yy, Yz, Y10, Y11, Y12, Y13, Y14, Y15, Y16, Y17, Y18, Y19, Y1a, Y1b, Y1c, Y1d, Y1e, Y1f, Y1g, Y1h, Y1i, Y1j, Y1k, Y1l, AV.cells?, Y1n, Y1o, Y1p, Y1q, Y1r, Y1s, Y1t, Nat.reduceAdd, Nat.reduceMul, Y1w, Y1x, Y1y, Y1z, Y20, Y21, Y22, Y23, Y24, Y25, Y26, Y27, Y28, Y29, Y2a, Y2b]
    refine wCall.fx (among_spec B.k.e (TXL_Lm m)) fun n => ?_
    simp only [Y0, Y1, Y2, Y3, Y4, Y5, Y6, Y7, Y8, Y9, Ya, Yb, Yc, Yd, Ye, Yf, Yg, Yh, Yi, Yj, Yk, Yl, Ym, Yn, Yo, Yp, Yq, Yr, Ys, Yt, Yu, Yv, Yw, Yx, Yy, Yz, Y10, Y11, Y12, Y13, Y14, Y15, Y16, Y17, Y18, Y19, Y1a, Y1b, Y1c, Y1d, Y1e, Y1f, Y1g, Y1h, Y1i, Y1j, Y1k, Y1l, AV.cells?, Y1n, Y1o, Y1p, Y1q, Y1r, Y1s, Y1t, Nat.reduceAdd, Nat.reduceMul, Y1w, Y1x, Y1y, Y1z, Y20, Y21, Y22, Y23, Y24, Y25, Y26, Y27, Y28, Y29, Y2a, Y2b]
    refine wCall.fx hE fun n => ?_
    simp only [Y0, Y1, Y2, Y3, Y4, Y5, Y6, Y7, Y8, Y9, Ya, Yb, Yc, Yd, Ye, Yf, Yg, Yh, Yi, Yj, Yk, Yl, Ym, Yn, Yo, Yp, Yq, Yr, Ys, Yt, Yu, Yv, Yw, Yx, Yy, Yz, Y10, Y11, Y12, Y13, Y14, Y15, Y16, Y17, Y18, Y19, Y1a, Y1b, Y1c, Y1d, Y1e, Y1f, Y1g, Y1h, Y1i, Y1j, Y1k, Y1l, AV.cells?, Y1n, Y1o, Y1p, Y1q, Y1r, Y1s, Y1t, Nat.reduceAdd, Nat.reduceMul, Y1w, Y1x, Y1y, Y1z, Y20, Y21, Y22, Y23, Y24, Y25, Y26, Y27, Y28, Y29, Y2a, Y2b, beq_self_eq_true]
end
end Go.Sc
namespace Go.Sc.F
open Go Go.Sc
set_option linter.unusedVariables false

/-- signalbox/signalboxkeep.LassoTurns -/
def keep_LassoTurns (E : Env) (P : Program) (a0 a1 : AV) (H : AH) (R : Kt) : Prop :=
  wNew 2 (AV.cells? a0) H fun t2 H =>
  wGet (lenA a1) H fun t18 H =>
  wGet (binA .gtr t18 (.val (.int .i64 16))) H fun t19 H =>
  wGuard t19 false H (fun k => wGet (faddr 0 t2) H k) fun t21 H =>
  wGuard t19 false H (fun k => wGet (load1 t21 H) H k) fun t22 H =>
  wGuard t19 false H (fun k => wGet (lenA t22) H k) fun t23 H =>
  wGuard t19 false H (fun k => wGet (faddr 1 t2) H k) fun t24 H =>
  wGuard t19 false H (fun k => wGet (load1 t24 H) H k) fun t25 H =>
  wGuard t19 false H (fun k => wGet (lenA t25) H k) fun t26 H =>
  wGuard t19 false H (fun k => wGet (binA .mul (.val (.int .i64 2)) t26) H k) fun t27 H =>
  wGuard t19 false H (fun k => wGet (binA .add t23 t27) H k) fun t28 H =>
  wGuard t19 false H (fun k => wGet (binA .gtr t28 (.val (.int .i64 40))) H k) fun t29 H =>
  wGet (pickA t19 (.val (.bool true)) t29) H fun t30 H =>
  wIf t30 (
    R (.val (.bool true)) H) (
    wCall E P 26 [a1] H fun t32 H =>
    wGet (loadN 2 t2 H) H fun t34 H =>
    wCall E P 27 [t34, t32] H fun t36 H =>
    wGet (extractA t36 0) H fun t37 H =>
    wGet (extractA t36 1) H fun t38 H =>
    wCall E P 28 [] H fun t39 H =>
    wGet (unA .not t39) H fun t40 H =>
    wGuard t40 false H (fun k => k t38 H) fun t42 H =>
    wGuard t40 false H (fun k => wBool (eqA .iface t42 (.val (.nilIface))) H true k) fun t43 H =>
    wGet (pickA t40 (.val (.bool true)) t43) H fun t44 H =>
    wIf t44 (
      wCall E P 28 [] H fun t45 H =>
      wGuard t45 true H (fun k => k t37 H) fun t47 H =>
      wGuard t45 true H (fun k => wGet (lenA t47) H k) fun t48 H =>
      wGuard t45 true H (fun k => wGet (binA .eql t48 (.val (.int .i64 0))) H k) fun t49 H =>
      wGet (pickA t45 t49 (.val (.bool false))) H fun t50 H =>
      R t50 H) (
      wGet (faddr 0 t2) H fun t51 H =>
      wGet (load1 t51 H) H fun t52 H =>
      wGet (lenA t52) H fun t53 H =>
      wGet (faddr 1 t2) H fun t54 H =>
      wGet (load1 t54 H) H fun t55 H =>
      wGet (lenA t55) H fun t56 H =>
      (wGet (load1 t54 H) H (fun y H2 => y = t55 ∧ H2 = H)) ∧
      wOne (fun H k => wNewS 1 0 (fillA (List.replicate 0 [(.val (.slice none 0 0))]).flatten []) H k) H fun t57 H =>
      wGet (faddr 0 t2) H fun t58 H =>
      wGet (load1 t58 H) H fun t59 H =>
      wOne (fun H k => wApp 1 24 t57 t59 H k) H fun t60 H =>
      wGet (faddr 1 t2) H fun t61 H =>
      wGet (load1 t61 H) H fun t62 H =>
      wGet (iaddr 1 t62 (.val (.int .i64 0))) H fun t63 H =>
      wGet (load1 t63 H) H fun t64 H =>
      wOne (fun H k => wNewS 1 1 (fillA (List.replicate 1 [(.val (.slice none 0 0))]).flatten [(0, 1, t64)]) H k) H fun t65 H =>
      wOne (fun H k => wApp 1 24 t60 t65 H k) H fun t66 H =>
      wOne (fun H k => wNewS 1 0 (fillA (List.replicate 0 [(.val (.slice none 0 0))]).flatten []) H k) H fun t67 H =>
      wGet (faddr 1 t2) H fun t68 H =>
      wGet (load1 t68 H) H fun t69 H =>
      wGet (sliceA 1 t69 (some (.val (.int .i64 1))) none H) H fun t70 H =>
      wOne (fun H k => wApp 1 24 t67 t70 H k) H fun t71 H =>
      wGet (faddr 1 t2) H fun t72 H =>
      wGet (load1 t72 H) H fun t73 H =>
      wGet (iaddr 1 t73 (.val (.int .i64 0))) H fun t74 H =>
      wGet (load1 t74 H) H fun t75 H =>
      wOne (fun H k => wNewS 1 1 (fillA (List.replicate 1 [(.val (.slice none 0 0))]).flatten [(0, 1, t75)]) H k) H fun t76 H =>
      wOne (fun H k => wApp 1 24 t71 t76 H k) H fun t77 H =>
      wAgg (fillA [(.val (.slice none 0 0)), (.val (.slice none 0 0))] [(0, 1, t66), (1, 1, t77)]) H fun t78 H =>
      wOne (fun H k => wNew 2 (some [(.val (.slice none 0 0)), (.val (.slice none 0 0))]) H k) H fun t10 H =>
      wOne (fun H k => wPut (storeN 2 t10 t78 H) k) H fun _u H =>
      wAll H fun H =>
      wJoin 1 (fun J1 =>
        wGet (faddr 0 t2) H fun t79 H =>
        wGet (load1 t79 H) H fun t80 H =>
        wGet (faddr 1 t2) H fun t82 H =>
        wGet (load1 t82 H) H fun t83 H =>
        wGet (faddr 1 t2) H fun t85 H =>
        wGet (load1 t85 H) H fun t86 H =>
        (
          wNewS 1 0 (fillA (List.replicate 0 [(.val (.slice none 0 0))]).flatten []) H fun t81 H =>
          (wGet (load1 t79 H) H (fun y H2 => y = t80 ∧ H2 = H)) ∧
          (wGet (load1 t82 H) H (fun y H2 => y = t83 ∧ H2 = H)) ∧
          (wGet (load1 t85 H) H (fun y H2 => y = t86 ∧ H2 = H)) ∧
          (
            wApp 1 24 t81 t83 H fun t84 H =>
            (wGet (load1 t79 H) H (fun y H2 => y = t80 ∧ H2 = H)) ∧
            (wGet (load1 t85 H) H (fun y H2 => y = t86 ∧ H2 = H)) ∧
            (
              wApp 1 24 t84 t86 H fun t87 H =>
              (wGet (load1 t79 H) H (fun y H2 => y = t80 ∧ H2 = H)) ∧
              wAgg (fillA [(.val (.slice none 0 0)), (.val (.slice none 0 0))] [(0, 1, t80), (1, 1, t87)]) H fun t88 H =>
              wNew 2 (some [(.val (.slice none 0 0)), (.val (.slice none 0 0))]) H fun t11 H =>
              (wGet (load1 t79 H) H (fun y H2 => y = t80 ∧ H2 = H)) ∧
              (wGet (load1 t82 H) H (fun y H2 => y = t83 ∧ H2 = H)) ∧
              (wGet (load1 t85 H) H (fun y H2 => y = t86 ∧ H2 = H)) ∧
              wPut (storeN 2 t11 t88 H) fun _u H =>
              J1 t11 H) ∧
            (
              wNew 2 (some [(.val (.slice none 0 0)), (.val (.slice none 0 0))]) H fun t11_1 H =>
              (wGet (load1 t79 H) H (fun y H2 => y = t80 ∧ H2 = H)) ∧
              (wGet (load1 t82 H) H (fun y H2 => y = t83 ∧ H2 = H)) ∧
              (wGet (load1 t85 H) H (fun y H2 => y = t86 ∧ H2 = H)) ∧
              wApp 1 24 t84 t86 H fun t87_1 H =>
              (wGet (load1 t79 H) H (fun y H2 => y = t80 ∧ H2 = H)) ∧
              wAgg (fillA [(.val (.slice none 0 0)), (.val (.slice none 0 0))] [(0, 1, t80), (1, 1, t87_1)]) H fun t88_1 H =>
              wPut (storeN 2 t11_1 t88_1 H) fun _u H =>
              J1 t11_1 H)) ∧
          (
            wNew 2 (some [(.val (.slice none 0 0)), (.val (.slice none 0 0))]) H fun t11_2 H =>
            (wGet (load1 t79 H) H (fun y H2 => y = t80 ∧ H2 = H)) ∧
            (wGet (load1 t82 H) H (fun y H2 => y = t83 ∧ H2 = H)) ∧
            (wGet (load1 t85 H) H (fun y H2 => y = t86 ∧ H2 = H)) ∧
            wApp 1 24 t81 t83 H fun t84_1 H =>
            (wGet (load1 t79 H) H (fun y H2 => y = t80 ∧ H2 = H)) ∧
            (wGet (load1 t85 H) H (fun y H2 => y = t86 ∧ H2 = H)) ∧
            wApp 1 24 t84_1 t86 H fun t87_2 H =>
            (wGet (load1 t79 H) H (fun y H2 => y = t80 ∧ H2 = H)) ∧
            wAgg (fillA [(.val (.slice none 0 0)), (.val (.slice none 0 0))] [(0, 1, t80), (1, 1, t87_2)]) H fun t88_2 H =>
            wPut (storeN 2 t11_2 t88_2 H) fun _u H =>
            J1 t11_2 H)) ∧
        (
          wNew 2 (some [(.val (.slice none 0 0)), (.val (.slice none 0 0))]) H fun t11_3 H =>
          (wGet (load1 t79 H) H (fun y H2 => y = t80 ∧ H2 = H)) ∧
          (wGet (load1 t82 H) H (fun y H2 => y = t83 ∧ H2 = H)) ∧
          (wGet (load1 t85 H) H (fun y H2 => y = t86 ∧ H2 = H)) ∧
          wNewS 1 0 (fillA (List.replicate 0 [(.val (.slice none 0 0))]).flatten []) H fun t81_1 H =>
          (wGet (load1 t79 H) H (fun y H2 => y = t80 ∧ H2 = H)) ∧
          (wGet (load1 t82 H) H (fun y H2 => y = t83 ∧ H2 = H)) ∧
          (wGet (load1 t85 H) H (fun y H2 => y = t86 ∧ H2 = H)) ∧
          wApp 1 24 t81_1 t83 H fun t84_2 H =>
          (wGet (load1 t79 H) H (fun y H2 => y = t80 ∧ H2 = H)) ∧
          (wGet (load1 t85 H) H (fun y H2 => y = t86 ∧ H2 = H)) ∧
          wApp 1 24 t84_2 t86 H fun t87_3 H =>
          (wGet (load1 t79 H) H (fun y H2 => y = t80 ∧ H2 = H)) ∧
          wAgg (fillA [(.val (.slice none 0 0)), (.val (.slice none 0 0))] [(0, 1, t80), (1, 1, t87_3)]) H fun t88_3 H =>
          wPut (storeN 2 t11_3 t88_3 H) fun _u H =>
          J1 t11_3 H)) fun t11_4 H =>
        wGet (loadN 2 t10 H) H fun t90 H =>
        wCall E P 27 [t90, t32] H fun t92 H =>
        wGet (extractA t92 0) H fun t93 H =>
        wGet (extractA t92 1) H fun t94 H =>
        wGet (loadN 2 t11_4 H) H fun t96 H =>
        wCall E P 27 [t96, t32] H fun t98 H =>
        wGet (extractA t98 0) H fun t99 H =>
        wGet (extractA t98 1) H fun t100 H =>
        wBool (eqA .iface t94 (.val (.nilIface))) H true fun t102 H =>
        wGuard t102 false H (fun k => k t100 H) fun t104 H =>
        wGuard t102 false H (fun k => wBool (eqA .iface t104 (.val (.nilIface))) H true k) fun t105 H =>
        wGet (pickA t102 (.val (.bool true)) t105) H fun t106 H =>
        wGuard t106 false H (fun k => k t37 H) fun t108 H =>
        wGuard t106 false H (fun k => wGet (lenA t108) H k) fun t109 H =>
        wGuard t106 false H (fun k => k t53 H) fun t110 H =>
        wGuard t106 false H (fun k => k t56 H) fun t111 H =>
        wGuard t106 false H (fun k => wGet (binA .add t110 t111) H k) fun t112 H =>
        wGuard t106 false H (fun k => wGet (binA .neq t109 t112) H k) fun t113 H =>
        wGet (pickA t106 (.val (.bool true)) t113) H fun t114 H =>
        wGuard t114 false H (fun k => k t93 H) fun t116 H =>
        wGuard t114 false H (fun k => wGet (lenA t116) H k) fun t117 H =>
        wGuard t114 false H (fun k => k t53 H) fun t118 H =>
        wGuard t114 false H (fun k => k t56 H) fun t119 H =>
        wGuard t114 false H (fun k => wGet (binA .add t118 t119) H k) fun t120 H =>
        wGuard t114 false H (fun k => wGet (binA .add t120 (.val (.int .i64 1))) H k) fun t121 H =>
        wGuard t114 false H (fun k => wGet (binA .neq t117 t121) H k) fun t122 H =>
        wGet (pickA t114 (.val (.bool true)) t122) H fun t123 H =>
        wGuard t123 false H (fun k => k t99 H) fun t125 H =>
        wGuard t123 false H (fun k => wGet (lenA t125) H k) fun t126 H =>
        wGuard t123 false H (fun k => k t53 H) fun t127 H =>
        wGuard t123 false H (fun k => k t56 H) fun t128 H =>
        wGuard t123 false H (fun k => wGet (binA .mul (.val (.int .i64 2)) t128) H k) fun t129 H =>
        wGuard t123 false H (fun k => wGet (binA .add t127 t129) H k) fun t130 H =>
        wGuard t123 false H (fun k => wGet (binA .neq t126 t130) H k) fun t131 H =>
        wGet (pickA t123 (.val (.bool true)) t131) H fun t132 H =>
        wIf t132 (
          R (.val (.bool false)) H) (
          wLoop 1 (fun I2 => I2 (.val (.int .i64 0)) H) fun I2 t16 H =>
            wGet (binA .add t53 t56) H fun t136 H =>
            wGet (binA .lss t16 t136) H fun t137 H =>
            wIf t137 (
              wGet (iaddr 1 t93 t16) H fun t142 H =>
              wGet (load1 t142 H) H fun t143 H =>
              wGet (iaddr 1 t37 t16) H fun t146 H =>
              wGet (load1 t146 H) H fun t147 H =>
              wBool (eqA .bool t143 t147) H true fun t148 H =>
              wGuard t148 false H (fun k => k t99 H) fun t150 H =>
              wGuard t148 false H (fun k => k t16 H) fun t151 H =>
              wGuard t148 false H (fun k => wGet (iaddr 1 t150 t151) H k) fun t152 H =>
              wGuard t148 false H (fun k => wGet (load1 t152 H) H k) fun t153 H =>
              wGuard t148 false H (fun k => k t37 H) fun t154 H =>
              wGuard t148 false H (fun k => k t16 H) fun t155 H =>
              wGuard t148 false H (fun k => wGet (iaddr 1 t154 t155) H k) fun t156 H =>
              wGuard t148 false H (fun k => wGet (load1 t156 H) H k) fun t157 H =>
              wGuard t148 false H (fun k => wBool (eqA .bool t153 t157) H true k) fun t158 H =>
              wGet (pickA t148 (.val (.bool true)) t158) H fun t159 H =>
              wGuard t159 false H (fun k => k t16 H) fun t161 H =>
              wGuard t159 false H (fun k => k t53 H) fun t162 H =>
              wGuard t159 false H (fun k => wGet (binA .geq t161 t162) H k) fun t163 H =>
              wGuard t159 false H (fun k => k t163 H) fun t164 H =>
              wGuard t164 true H (fun k => k t99 H) fun t165 H =>
              wGuard t164 true H (fun k => k t16 H) fun t166 H =>
              wGuard t164 true H (fun k => k t56 H) fun t167 H =>
              wGuard t164 true H (fun k => wGet (binA .add t166 t167) H k) fun t168 H =>
              wGuard t164 true H (fun k => wGet (iaddr 1 t165 t168) H k) fun t169 H =>
              wGuard t164 true H (fun k => wGet (load1 t169 H) H k) fun t170 H =>
              wGuard t164 true H (fun k => k t37 H) fun t171 H =>
              wGuard t164 true H (fun k => k t16 H) fun t172 H =>
              wGuard t164 true H (fun k => wGet (iaddr 1 t171 t172) H k) fun t173 H =>
              wGuard t164 true H (fun k => wGet (load1 t173 H) H k) fun t174 H =>
              wGuard t164 true H (fun k => wBool (eqA .bool t170 t174) H true k) fun t175 H =>
              wGuard t159 false H (fun k => wGet (pickA t164 t175 (.val (.bool false))) H k) fun t176 H =>
              wGet (pickA t159 (.val (.bool true)) t176) H fun t177 H =>
              wIf t177 (
                R (.val (.bool false)) H) (
                wGet (binA .add t16 (.val (.int .i64 1))) H fun t139 H =>
                I2 t139 H)) (
              wGet (binA .add t53 t56) H fun t181 H =>
              wGet (iaddr 1 t93 t181) H fun t182 H =>
              wGet (load1 t182 H) H fun t183 H =>
              wGet (iaddr 1 t37 t53) H fun t186 H =>
              wGet (load1 t186 H) H fun t187 H =>
              wBool (eqA .bool t183 t187) H false fun t188 H =>
              R t188 H))))

/-- signalbox/plain.Formula -/
def plain_Formula (E : Env) (P : Program) (a0 : AV) (H : AH) (R : Kt) : Prop :=
  wAgg (fillA [(.val (.int .i64 0)), (.val (.string ⟨#[]⟩)), (.val (.slice none 0 0))] [(0, 1, (.val (.int .i64 2)))]) H fun t9 H =>
  wNew 3 (AV.cells? t9) H fun t10 H =>
  wNewS 1 1 (fillA (List.replicate 1 [(.val (.pointer none))]).flatten [(0, 1, t10)]) H fun t11 H =>
  wGet (lenA a0) H fun t13 H =>
  wLoop 2 (fun I1 => I1 t11 (.val (.int .i64 0)) H) fun I1 t3 t14 H =>
    wGet (binA .lss t14 t13) H fun t15 H =>
    wIf t15 (
      wGet (iaddr 4 a0 t14) H fun t16 H =>
      wGet (loadN 4 t16 H) H fun t17 H =>
      wNew 4 (some [(.val (.int .i64 0)), (.val (.int .i64 0)), (.val (.int .i64 0)), (.val (.string ⟨#[]⟩))]) H fun t5 H =>
      wPut (storeN 4 t5 t17 H) fun _u H =>
      wGet (faddr 0 t5) H fun t18 H =>
      wGet (load1 t18 H) H fun t19 H =>
      wAgg (fillA [(.val (.int .i64 0)), (.val (.string ⟨#[]⟩)), (.val (.slice none 0 0))] [(0, 1, t19)]) H fun t20 H =>
      wNew 3 (AV.cells? t20) H fun t21 H =>
      wGet (faddr 1 t5) H fun t23 H =>
      wGet (load1 t23 H) H fun t24 H =>
      wGet (lenA t3) H fun t26 H =>
      wGet (faddr 2 t5) H fun t31 H =>
      wGet (load1 t31 H) H fun t32 H =>
      wGet (lenA t3) H fun t34 H =>
      wCall E P 30 [t24, t26] H fun t27 H =>
      (wGet (load1 t31 H) H (fun y H2 => y = t32 ∧ H2 = H)) ∧
      wGet (iaddr 1 t3 t27) H fun t28 H =>
      wGet (load1 t28 H) H fun t29 H =>
      wCall E P 30 [t32, t34] H fun t35 H =>
      (wGet (load1 t28 H) H (fun y H2 => y = t29 ∧ H2 = H)) ∧
      wGet (iaddr 1 t3 t35) H fun t36 H =>
      wGet (load1 t36 H) H fun t37 H =>
      (wGet (load1 t36 H) H (fun y H2 => y = t37 ∧ H2 = H)) ∧
      wJoin 0 (fun J2 =>
        wGet (faddr 0 t5) H fun t38 H =>
        wGet (load1 t38 H) H fun t39 H =>
        wGet (binA .eql t39 (.val (.int .i64 2))) H fun t49 H =>
        wIf t49 (
          J2 H) (
          wJoin 1 (fun J3 =>
            wGet (binA .eql t39 (.val (.int .i64 3))) H fun t51 H =>
            wIf t51 (
              J3 t51 H) (
              wGet (binA .eql t39 (.val (.int .i64 6))) H fun t52 H =>
              wIf t52 (
                J3 t52 H) (
                wGet (binA .eql t39 (.val (.int .i64 9))) H fun t53 H =>
                wIf t53 (
                  J3 t53 H) (
                  wGet (binA .eql t39 (.val (.int .i64 10))) H fun t54 H =>
                  J3 t54 H)))) fun t50 H =>
            wIf t50 (
              wNewS 1 1 (fillA (List.replicate 1 [(.val (.pointer none))]).flatten [(0, 1, t29)]) H fun t57 H =>
              wGet (nilA t21) H fun t58 H =>
              wGet (faddr 2 t58) H fun t59 H =>
              wPut (store1 t59 t57 H) fun _u H =>
              J2 H) (
              wJoin 1 (fun J4 =>
                wGet (binA .eql t39 (.val (.int .i64 4))) H fun t61 H =>
                wIf t61 (
                  J4 t61 H) (
                  wGet (binA .eql t39 (.val (.int .i64 5))) H fun t62 H =>
                  wIf t62 (
                    J4 t62 H) (
                    wGet (binA .eql t39 (.val (.int .i64 7))) H fun t63 H =>
                    wIf t63 (
                      J4 t63 H) (
                      wGet (binA .eql t39 (.val (.int .i64 8))) H fun t64 H =>
                      J4 t64 H)))) fun t60 H =>
                wIf t60 (
                  wNewS 1 2 (fillA (List.replicate 2 [(.val (.pointer none))]).flatten [(0, 1, t29), (1, 1, t37)]) H fun t68 H =>
                  wGet (nilA t21) H fun t69 H =>
                  wGet (faddr 2 t69) H fun t70 H =>
                  wPut (store1 t70 t68 H) fun _u H =>
                  J2 H) (
                  wGet (faddr 3 t5) H fun t42 H =>
                  wGet (load1 t42 H) H fun t43 H =>
                  wGet (nilA t21) H fun t44 H =>
                  wGet (faddr 0 t44) H fun t45 H =>
                  wPut (store1 t45 (.val (.int .i64 1)) H) fun _u H =>
                  (wGet (load1 t42 H) H (fun y H2 => y = t43 ∧ H2 = H)) ∧
                  wGet (nilA t21) H fun t46 H =>
                  wGet (faddr 1 t46) H fun t47 H =>
                  wPut (store1 t47 t43 H) fun _u H =>
                  J2 H)))) fun H =>
        wNewS 1 1 (fillA (List.replicate 1 [(.val (.pointer none))]).flatten [(0, 1, t21)]) H fun t73 H =>
        wApp 1 8 t3 t73 H fun t74 H =>
        wGet (binA .add t14 (.val (.int .i64 1))) H fun t75 H =>
        I1 t74 t75 H) (
      wGet (lenA t3) H fun t78 H =>
      wGet (binA .sub t78 (.val (.int .i64 1))) H fun t79 H =>
      wGet (iaddr 1 t3 t79) H fun t80 H =>
      wGet (load1 t80 H) H fun t81 H =>
      R t81 H)

/-- signalbox/lasso.Holds -/
def lasso_Holds (E : Env) (P : Program) (a0 a1 : AV) (H : AH) (R : Kt) : Prop :=
  wNew 2 (AV.cells? a0) H fun t2 H =>
  wGet (loadN 2 t2 H) H fun t8 H =>
  wCall E P 31 [t8] H fun t9 H =>
  wBool (eqA .iface t9 (.val (.nilIface))) H true fun t11 H =>
  wIf t11 (
    R (.tup [(.val (.slice none 0 0)), t9]) H) (
    wCall E P 32 [a1] H fun t14 H =>
    wBool (eqA .iface t14 (.val (.nilIface))) H true fun t16 H =>
    wIf t16 (
      R (.tup [(.val (.slice none 0 0)), t14]) H) (
      wGet (loadN 2 t2 H) H fun t18 H =>
      wCall E P 33 [t18, a1] H fun t20 H =>
      R (.tup [t20, (.val (.nilIface))]) H))

/-- signalbox/signalboxkeep.lassoed -/
def keep_lassoed (E : Env) (P : Program) (H : AH) (R : Kt) : Prop :=
  wNewS 1 1 (fillA (List.replicate 1 [(.val (.string ⟨#[]⟩))]).flatten [(0, 1, (.val (.string ⟨#[97]⟩)))]) H fun t8 H =>
  wNewS 1 1 (fillA (List.replicate 1 [(.val (.slice none 0 0))]).flatten [(0, 1, t8)]) H fun t9 H =>
  wNewS 1 0 (fillA (List.replicate 0 [(.val (.string ⟨#[]⟩))]).flatten []) H fun t10 H =>
  wNewS 1 1 (fillA (List.replicate 1 [(.val (.string ⟨#[]⟩))]).flatten [(0, 1, (.val (.string ⟨#[98]⟩)))]) H fun t11 H =>
  wNewS 1 2 (fillA (List.replicate 2 [(.val (.slice none 0 0))]).flatten [(0, 1, t10), (1, 1, t11)]) H fun t12 H =>
  wAgg (fillA [(.val (.slice none 0 0)), (.val (.slice none 0 0))] [(0, 1, t9), (1, 1, t12)]) H fun t13 H =>
  wNew 2 (some [(.val (.slice none 0 0)), (.val (.slice none 0 0))]) H fun t1 H =>
  wPut (storeN 2 t1 t13 H) fun _u H =>
  wAgg (fillA [(.val (.int .i64 0)), (.val (.string ⟨#[]⟩)), (.val (.slice none 0 0))] [(0, 1, (.val (.int .i64 1))), (1, 1, (.val (.string ⟨#[98]⟩)))]) H fun t14 H =>
  wNew 3 (AV.cells? t14) H fun t15 H =>
  wNewS 1 1 (fillA (List.replicate 1 [(.val (.pointer none))]).flatten [(0, 1, t15)]) H fun t17 H =>
  wAgg (fillA [(.val (.int .i64 0)), (.val (.string ⟨#[]⟩)), (.val (.slice none 0 0))] [(0, 1, (.val (.int .i64 9))), (2, 1, t17)]) H fun t18 H =>
  wNew 3 (AV.cells? t18) H fun t19 H =>
  wNewS 1 1 (fillA (List.replicate 1 [(.val (.pointer none))]).flatten [(0, 1, t19)]) H fun t20 H =>
  wAgg (fillA [(.val (.int .i64 0)), (.val (.string ⟨#[]⟩)), (.val (.slice none 0 0))] [(0, 1, (.val (.int .i64 10))), (2, 1, t20)]) H fun t21 H =>
  wNew 3 (AV.cells? t21) H fun t22 H =>
  wGet (loadN 2 t1 H) H fun t24 H =>
  wCall E P 27 [t24, t22] H fun t26 H =>
  wGet (extractA t26 0) H fun t27 H =>
  wGet (extractA t26 1) H fun t28 H =>
  wGet (loadN 2 t1 H) H fun t30 H =>
  wCall E P 27 [t30, t15] H fun t32 H =>
  wGet (extractA t32 0) H fun t33 H =>
  wGet (extractA t32 1) H fun t34 H =>
  wBool (eqA .iface t28 (.val (.nilIface))) H false fun t36 H =>
  wGuard t36 true H (fun k => k t34 H) fun t38 H =>
  wGuard t36 true H (fun k => wBool (eqA .iface t38 (.val (.nilIface))) H false k) fun t39 H =>
  wGet (pickA t36 t39 (.val (.bool false))) H fun t40 H =>
  wGuard t40 true H (fun k => k t27 H) fun t42 H =>
  wGuard t40 true H (fun k => wNewS 1 3 (fillA (List.replicate 3 [(.val (.bool false))]).flatten [(0, 1, (.val (.bool true))), (1, 1, (.val (.bool true))), (2, 1, (.val (.bool true)))]) H k) fun t43 H =>
  wGuard t40 true H (fun k => wCall E P 34 [t42, t43] H k) fun t44 H =>
  wGet (pickA t40 t44 (.val (.bool false))) H fun t45 H =>
  wGuard t45 true H (fun k => k t33 H) fun t47 H =>
  wGuard t45 true H (fun k => wNewS 1 3 (fillA (List.replicate 3 [(.val (.bool false))]).flatten [(0, 1, (.val (.bool false))), (1, 1, (.val (.bool false))), (2, 1, (.val (.bool true)))]) H k) fun t48 H =>
  wGuard t45 true H (fun k => wCall E P 34 [t47, t48] H k) fun t49 H =>
  wGet (pickA t45 t49 (.val (.bool false))) H fun t50 H =>
  R t50 H

/-- signalbox/plain.At -/
def plain_At (E : Env) (P : Program) (a0 a1 : AV) (H : AH) (R : Kt) : Prop :=
  wGet (convA (.int .u64) a0) H fun t6 H =>
  wGet (convA (.int .u64) a1) H fun t8 H =>
  wGet (binA .rem t6 t8) H fun t9 H =>
  wGet (convA (.int .i64) t9) H fun t10 H =>
  R t10 H

/-- signalbox/lasso.Check -/
def lasso_Check (E : Env) (P : Program) (a0 : AV) (H : AH) (R : Kt) : Prop :=
  wNew 2 (AV.cells? a0) H fun t1 H =>
  wGet (faddr 1 t1) H fun t9 H =>
  wGet (load1 t9 H) H fun t10 H =>
  wGet (lenA t10) H fun t11 H =>
  wGet (binA .lss t11 (.val (.int .i64 1))) H fun t12 H =>
  wGuard t12 false H (fun k => wGet (faddr 0 t1) H k) fun t14 H =>
  wGuard t12 false H (fun k => wGet (load1 t14 H) H k) fun t15 H =>
  wGuard t12 false H (fun k => wGet (lenA t15) H k) fun t16 H =>
  wGuard t12 false H (fun k => wGet (faddr 1 t1) H k) fun t17 H =>
  wGuard t12 false H (fun k => wGet (load1 t17 H) H k) fun t18 H =>
  wGuard t12 false H (fun k => wGet (lenA t18) H k) fun t19 H =>
  wGuard t12 false H (fun k => wGet (binA .add t16 t19) H k) fun t20 H =>
  wGuard t12 false H (fun k => wGet (binA .gtr t20 (.val (.int .i64 60))) H k) fun t21 H =>
  wGet (pickA t12 (.val (.bool true)) t21) H fun t22 H =>
  wIf t22 (
    R (.ifc 1 (.val (.int .i64 4))) H) (
    wGet (faddr 0 t1) H fun t24 H =>
    wGet (load1 t24 H) H fun t25 H =>
    wGet (faddr 1 t1) H fun t26 H =>
    wGet (load1 t26 H) H fun t27 H =>
    wNewS 1 2 (fillA (List.replicate 2 [(.val (.slice none 0 0))]).flatten [(0, 1, t25), (1, 1, t27)]) H fun t28 H =>
    wGet (lenA t28) H fun t29 H =>
    wLoop 1 (fun I1 => I1 (.val (.int .i64 0)) H) fun I1 t30 H =>
      wGet (binA .lss t30 t29) H fun t31 H =>
      wIf t31 (
        wGet (iaddr 1 t28 t30) H fun t32 H =>
        wGet (load1 t32 H) H fun t33 H =>
        wGet (lenA t33) H fun t35 H =>
        wLoop 1 (fun I2 => I2 (.val (.int .i64 0)) H) fun I2 t36 H =>
          wGet (binA .lss t36 t35) H fun t37 H =>
          wIf t37 (
            wGet (iaddr 1 t33 t36) H fun t38 H =>
            wGet (load1 t38 H) H fun t39 H =>
            wGet (lenA t39) H fun t41 H =>
            wLoop 1 (fun I3 => I3 (.val (.int .i64 0)) H) fun I3 t42 H =>
              wGet (binA .lss t42 t41) H fun t43 H =>
              wIf t43 (
                wGet (iaddr 1 t39 t42) H fun t44 H =>
                wGet (load1 t44 H) H fun t45 H =>
                wCall E P 1 [t45] H fun t47 H =>
                wGet (unA .not t47) H fun t48 H =>
                wIf t48 (
                  R (.ifc 1 (.val (.int .i64 5))) H) (
                  wGet (binA .add t42 (.val (.int .i64 1))) H fun t50 H =>
                  I3 t50 H)) (
                wGet (binA .add t36 (.val (.int .i64 1))) H fun t51 H =>
                I2 t51 H)) (
            wGet (binA .add t30 (.val (.int .i64 1))) H fun t52 H =>
            I1 t52 H)) (
        R (.val (.nilIface)) H))

/-- signalbox/lasso.Right -/
def lasso_Right (E : Env) (P : Program) (a0 : AV) (H : AH) (R : Kt) : Prop :=
  wCall E P 35 [a0, (.val (.int .i64 20))] H fun t7 H =>
  wGet (extractA t7 0) H fun t8 H =>
  wGet (extractA t7 1) H fun t9 H =>
  wGet (binA .neq t9 (.val (.int .i64 0))) H fun t12 H =>
  wIf t12 (
    R (.ifc 1 t9) H) (
    wGet (binA .gtr t8 (.val (.int .i64 100))) H fun t17 H =>
    wIf t17 (
      R (.ifc 1 (.val (.int .i64 4))) H) (
      R (.val (.nilIface)) H))

/-- signalbox/lasso.holds -/
def lasso_holds (E : Env) (P : Program) (a0 a1 : AV) (H : AH) (R : Kt) : Prop :=
  wNew 2 (AV.cells? a0) H fun t2 H =>
  wGet (faddr 0 t2) H fun t22 H =>
  wGet (load1 t22 H) H fun t23 H =>
  wGet (lenA t23) H fun t24 H =>
  wGet (faddr 1 t2) H fun t25 H =>
  wGet (load1 t25 H) H fun t26 H =>
  wGet (lenA t26) H fun t27 H =>
  wGet (binA .add t24 t27) H fun t28 H =>
  wNew 1 (some [(.val (.int .i64 0))]) H fun t5 H =>
  wPut (store1 t5 t28 H) fun _u H =>
  wGet (load1 t5 H) H fun t29 H =>
  wMake 1 1 [(.val (.bool false))] t29 t29 H fun t30 H =>
  wNew 1 (some [(.val (.slice none 0 0))]) H fun t6 H =>
  wPut (store1 t6 t30 H) fun _u H =>
  wNew 1 (some [(.val (.nilFunc))]) H fun t7 H =>
  wPut (store1 t7 (.fn 36 [] [t5, t2]) H) fun _u H =>
  wNew 1 (some [(.val (.slice none 0 0))]) H fun t8 H =>
  wGet (nilA a1) H fun t33 H =>
  wGet (faddr 2 t33) H fun t34 H =>
  wGet (load1 t34 H) H fun t35 H =>
  wGet (lenA t35) H fun t36 H =>
  wLoop 1 (fun I1 => I1 (.val (.int .i64 0)) H) fun I1 t37 H =>
    wGet (binA .lss t37 t36) H fun t38 H =>
    wIf t38 (
      wGet (iaddr 1 t35 t37) H fun t39 H =>
      wGet (load1 t39 H) H fun t40 H =>
      wGet (load1 t8 H) H fun t41 H =>
      wGet (loadN 2 t2 H) H fun t42 H =>
      wCall E P 33 [t42, t40] H fun t44 H =>
      (wGet (load1 t8 H) H (fun y H2 => y = t41 ∧ H2 = H)) ∧
      wNewS 1 1 (fillA (List.replicate 1 [(.val (.slice none 0 0))]).flatten [(0, 1, t44)]) H fun t45 H =>
      (wGet (load1 t8 H) H (fun y H2 => y = t41 ∧ H2 = H)) ∧
      wApp 1 24 t41 t45 H fun t46 H =>
      wPut (store1 t8 t46 H) fun _u H =>
      wGet (binA .add t37 (.val (.int .i64 1))) H fun t47 H =>
      I1 t47 H) (
      wJoin 0 (fun J2 =>
        wGet (nilA a1) H fun t50 H =>
        wGet (faddr 0 t50) H fun t51 H =>
        wGet (load1 t51 H) H fun t52 H =>
        wGet (binA .eql t52 (.val (.int .i64 1))) H fun t54 H =>
        wIf t54 (
          wGet (load1 t6 H) H fun t55 H =>
          wGet (lenA t55) H fun t56 H =>
          wLoop 1 (fun I3 => I3 (.val (.int .i64 0)) H) fun I3 t57 H =>
            wGet (binA .lss t57 t56) H fun t58 H =>
            wIf t58 (
              wGet (faddr 1 t2) H fun t60 H =>
              wGet (load1 t60 H) H fun t61 H =>
              wGet (faddr 0 t2) H fun t63 H =>
              wGet (load1 t63 H) H fun t64 H =>
              wGet (lenA t64) H fun t65 H =>
              wGet (binA .sub t57 t65) H fun t66 H =>
              wJoin 2 (fun J4 =>
                wGet (binA .lss t66 (.val (.int .i64 0))) H fun t68 H =>
                wIf t68 (
                  wGet (faddr 0 t2) H fun t69 H =>
                  wGet (load1 t69 H) H fun t70 H =>
                  J4 t70 t57 H) (
                  J4 t61 t66 H)) fun t13 t14 H =>
                wGet (iaddr 1 t13 t14) H fun t74 H =>
                wGet (load1 t74 H) H fun t75 H =>
                wGet (lenA t75) H fun t76 H =>
                wLoop 1 (fun I5 => I5 (.val (.int .i64 0)) H) fun I5 t77 H =>
                  wGet (binA .lss t77 t76) H fun t78 H =>
                  wIf t78 (
                    wGet (iaddr 1 t75 t77) H fun t79 H =>
                    wGet (load1 t79 H) H fun t80 H =>
                    wGet (load1 t6 H) H fun t81 H =>
                    wGet (load1 t6 H) H fun t83 H =>
                    wGet (iaddr 1 t83 t57) H fun t85 H =>
                    wGet (load1 t85 H) H fun t86 H =>
                    wGuard t86 false H (fun k => k t80 H) fun t88 H =>
                    wGuard t86 false H (fun k => k a1 H) fun t89 H =>
                    wGuard t86 false H (fun k => wGet (nilA t89) H k) fun t90 H =>
                    wGuard t86 false H (fun k => wGet (faddr 1 t90) H k) fun t91 H =>
                    wGuard t86 false H (fun k => wGet (load1 t91 H) H k) fun t92 H =>
                    wGuard t86 false H (fun k => wGet (binA .eql t88 t92) H k) fun t93 H =>
                    wGet (pickA t86 (.val (.bool true)) t93) H fun t94 H =>
                    wGet (iaddr 1 t81 t57) H fun t95 H =>
                    wPut (store1 t95 t94 H) fun _u H =>
                    wGet (binA .add t77 (.val (.int .i64 1))) H fun t96 H =>
                    I5 t96 H) (
                    wGet (binA .add t57 (.val (.int .i64 1))) H fun t97 H =>
                    I3 t97 H)) (
              J2 H)) (
          wGet (binA .eql t52 (.val (.int .i64 2))) H fun t99 H =>
          wIf t99 (
            wGet (load1 t6 H) H fun t100 H =>
            wGet (lenA t100) H fun t101 H =>
            wLoop 1 (fun I6 => I6 (.val (.int .i64 0)) H) fun I6 t102 H =>
              wGet (binA .lss t102 t101) H fun t103 H =>
              wIf t103 (
                wGet (load1 t6 H) H fun t105 H =>
                wGet (iaddr 1 t105 t102) H fun t107 H =>
                wPut (store1 t107 (.val (.bool true)) H) fun _u H =>
                wGet (binA .add t102 (.val (.int .i64 1))) H fun t108 H =>
                I6 t108 H) (
                J2 H)) (
            wGet (binA .eql t52 (.val (.int .i64 3))) H fun t110 H =>
            wIf t110 (
              wGet (load1 t6 H) H fun t111 H =>
              wGet (lenA t111) H fun t112 H =>
              wLoop 1 (fun I7 => I7 (.val (.int .i64 0)) H) fun I7 t113 H =>
                wGet (binA .lss t113 t112) H fun t114 H =>
                wIf t114 (
                  wGet (load1 t6 H) H fun t116 H =>
                  wGet (load1 t8 H) H fun t118 H =>
                  wGet (iaddr 1 t118 (.val (.int .i64 0))) H fun t119 H =>
                  wGet (load1 t119 H) H fun t120 H =>
                  wGet (iaddr 1 t120 t113) H fun t122 H =>
                  wGet (load1 t122 H) H fun t123 H =>
                  wGet (unA .not t123) H fun t124 H =>
                  wGet (iaddr 1 t116 t113) H fun t125 H =>
                  wPut (store1 t125 t124 H) fun _u H =>
                  wGet (binA .add t113 (.val (.int .i64 1))) H fun t126 H =>
                  I7 t126 H) (
                  J2 H)) (
              wGet (binA .eql t52 (.val (.int .i64 4))) H fun t128 H =>
              wIf t128 (
                wGet (load1 t6 H) H fun t129 H =>
                wGet (lenA t129) H fun t130 H =>
                wLoop 1 (fun I8 => I8 (.val (.int .i64 0)) H) fun I8 t131 H =>
                  wGet (binA .lss t131 t130) H fun t132 H =>
                  wIf t132 (
                    wGet (load1 t6 H) H fun t134 H =>
                    wGet (load1 t8 H) H fun t136 H =>
                    wGet (iaddr 1 t136 (.val (.int .i64 0))) H fun t137 H =>
                    wGet (load1 t137 H) H fun t138 H =>
                    wGet (iaddr 1 t138 t131) H fun t140 H =>
                    wGet (load1 t140 H) H fun t141 H =>
                    wGuard t141 true H (fun k => wGet (load1 t8 H) H k) fun t143 H =>
                    wGuard t141 true H (fun k => wGet (iaddr 1 t143 (.val (.int .i64 1))) H k) fun t144 H =>
                    wGuard t141 true H (fun k => wGet (load1 t144 H) H k) fun t145 H =>
                    wGuard t141 true H (fun k => k t131 H) fun t146 H =>
                    wGuard t141 true H (fun k => wGet (iaddr 1 t145 t146) H k) fun t147 H =>
                    wGuard t141 true H (fun k => wGet (load1 t147 H) H k) fun t148 H =>
                    wGet (pickA t141 t148 (.val (.bool false))) H fun t149 H =>
                    wGet (iaddr 1 t134 t131) H fun t150 H =>
                    wPut (store1 t150 t149 H) fun _u H =>
                    wGet (binA .add t131 (.val (.int .i64 1))) H fun t151 H =>
                    I8 t151 H) (
                    J2 H)) (
                wGet (binA .eql t52 (.val (.int .i64 5))) H fun t153 H =>
                wIf t153 (
                  wGet (load1 t6 H) H fun t154 H =>
                  wGet (lenA t154) H fun t155 H =>
                  wLoop 1 (fun I9 => I9 (.val (.int .i64 0)) H) fun I9 t156 H =>
                    wGet (binA .lss t156 t155) H fun t157 H =>
                    wIf t157 (
                      wGet (load1 t6 H) H fun t159 H =>
                      wGet (load1 t8 H) H fun t161 H =>
                      wGet (iaddr 1 t161 (.val (.int .i64 0))) H fun t162 H =>
                      wGet (load1 t162 H) H fun t163 H =>
                      wGet (iaddr 1 t163 t156) H fun t165 H =>
                      wGet (load1 t165 H) H fun t166 H =>
                      wGuard t166 false H (fun k => wGet (load1 t8 H) H k) fun t168 H =>
                      wGuard t166 false H (fun k => wGet (iaddr 1 t168 (.val (.int .i64 1))) H k) fun t169 H =>
                      wGuard t166 false H (fun k => wGet (load1 t169 H) H k) fun t170 H =>
                      wGuard t166 false H (fun k => k t156 H) fun t171 H =>
                      wGuard t166 false H (fun k => wGet (iaddr 1 t170 t171) H k) fun t172 H =>
                      wGuard t166 false H (fun k => wGet (load1 t172 H) H k) fun t173 H =>
                      wGet (pickA t166 (.val (.bool true)) t173) H fun t174 H =>
                      wGet (iaddr 1 t159 t156) H fun t175 H =>
                      wPut (store1 t175 t174 H) fun _u H =>
                      wGet (binA .add t156 (.val (.int .i64 1))) H fun t176 H =>
                      I9 t176 H) (
                      J2 H)) (
                  wGet (binA .eql t52 (.val (.int .i64 6))) H fun t178 H =>
                  wIf t178 (
                    wGet (load1 t6 H) H fun t179 H =>
                    wGet (lenA t179) H fun t180 H =>
                    wLoop 1 (fun I10 => I10 (.val (.int .i64 0)) H) fun I10 t181 H =>
                      wGet (binA .lss t181 t180) H fun t182 H =>
                      wIf t182 (
                        wGet (load1 t6 H) H fun t184 H =>
                        wGet (load1 t8 H) H fun t186 H =>
                        wGet (iaddr 1 t186 (.val (.int .i64 0))) H fun t187 H =>
                        wGet (load1 t187 H) H fun t188 H =>
                        wGet (load1 t7 H) H fun t189 H =>
                        wCallV E P t189 [t181] H fun t191 H =>
                        (wGet (load1 t6 H) H (fun y H2 => y = t184 ∧ H2 = H)) ∧
                        (wGet (load1 t8 H) H (fun y H2 => y = t186 ∧ H2 = H)) ∧
                        (wGet (load1 t187 H) H (fun y H2 => y = t188 ∧ H2 = H)) ∧
                        wGet (iaddr 1 t188 t191) H fun t192 H =>
                        wGet (load1 t192 H) H fun t193 H =>
                        wGet (iaddr 1 t184 t181) H fun t194 H =>
                        wPut (store1 t194 t193 H) fun _u H =>
                        wGet (binA .add t181 (.val (.int .i64 1))) H fun t195 H =>
                        I10 t195 H) (
                        J2 H)) (
                    wGet (binA .eql t52 (.val (.int .i64 7))) H fun t197 H =>
                    wIf t197 (
                      wCallV E P (.fn 37 [] [t6, t5, t7]) [(.val (.bool false)), (.fn 38 [] [t8])] H fun t200 H =>
                      J2 H) (
                      wGet (binA .eql t52 (.val (.int .i64 8))) H fun t202 H =>
                      wIf t202 (
                        wCallV E P (.fn 37 [] [t6, t5, t7]) [(.val (.bool true)), (.fn 39 [] [t8])] H fun t205 H =>
                        J2 H) (
                        wGet (binA .eql t52 (.val (.int .i64 9))) H fun t207 H =>
                        wIf t207 (
                          wCallV E P (.fn 37 [] [t6, t5, t7]) [(.val (.bool false)), (.fn 40 [] [t8])] H fun t210 H =>
                          J2 H) (
                          wGet (binA .eql t52 (.val (.int .i64 10))) H fun t212 H =>
                          wIf t212 (
                            wCallV E P (.fn 37 [] [t6, t5, t7]) [(.val (.bool true)), (.fn 41 [] [t8])] H fun t215 H =>
                            J2 H) (
                            J2 H))))))))))) fun H =>
        wGet (load1 t6 H) H fun t216 H =>
        R t216 H)

/-- signalbox/signalboxkeep.sameBools -/
def keep_sameBools (E : Env) (P : Program) (a0 a1 : AV) (H : AH) (R : Kt) : Prop :=
  wGet (lenA a0) H fun t7 H =>
  wGet (lenA a1) H fun t9 H =>
  wGet (binA .neq t7 t9) H fun t10 H =>
  wIf t10 (
    R (.val (.bool false)) H) (
    wLoop 1 (fun I1 => I1 (.val (.int .i64 0)) H) fun I1 t5 H =>
      wGet (lenA a0) H fun t13 H =>
      wGet (binA .lss t5 t13) H fun t14 H =>
      wIf t14 (
        wGet (iaddr 1 a0 t5) H fun t19 H =>
        wGet (load1 t19 H) H fun t20 H =>
        wGet (iaddr 1 a1 t5) H fun t23 H =>
        wGet (load1 t23 H) H fun t24 H =>
        wBool (eqA .bool t20 t24) H true fun t25 H =>
        wIf t25 (
          R (.val (.bool false)) H) (
          wGet (binA .add t5 (.val (.int .i64 1))) H fun t16 H =>
          I1 t16 H)) (
        R (.val (.bool true)) H))

/-- signalbox/lasso.right -/
def lasso_right (E : Env) (P : Program) (a0 a1 : AV) (H : AH) (R : Kt) : Prop :=
  wBool (eqA .ptr a0 (.val (.pointer none))) H false fun t13 H =>
  wIf t13 (
    R (.tup [(.val (.int .i64 0)), (.val (.int .i64 7))]) H) (
    wGet (binA .eql a1 (.val (.int .i64 0))) H fun t16 H =>
    wIf t16 (
      R (.tup [(.val (.int .i64 0)), (.val (.int .i64 4))]) H) (
      wGet (nilA a0) H fun t19 H =>
      wGet (faddr 0 t19) H fun t20 H =>
      wGet (load1 t20 H) H fun t21 H =>
      wGet (binA .lss t21 (.val (.int .i64 1))) H fun t22 H =>
      wGuard t22 false H (fun k => k a0 H) fun t24 H =>
      wGuard t22 false H (fun k => wGet (nilA t24) H k) fun t25 H =>
      wGuard t22 false H (fun k => wGet (faddr 0 t25) H k) fun t26 H =>
      wGuard t22 false H (fun k => wGet (load1 t26 H) H k) fun t27 H =>
      wGuard t22 false H (fun k => wGet (binA .gtr t27 (.val (.int .i64 10))) H k) fun t28 H =>
      wGet (pickA t22 (.val (.bool true)) t28) H fun t29 H =>
      wGuard t29 false H (fun k => k a0 H) fun t31 H =>
      wGuard t29 false H (fun k => wGet (nilA t31) H k) fun t32 H =>
      wGuard t29 false H (fun k => wGet (faddr 2 t32) H k) fun t33 H =>
      wGuard t29 false H (fun k => wGet (load1 t33 H) H k) fun t34 H =>
      wGuard t29 false H (fun k => wGet (lenA t34) H k) fun t35 H =>
      wGuard t29 false H (fun k => k a0 H) fun t36 H =>
      wGuard t29 false H (fun k => wGet (nilA t36) H k) fun t37 H =>
      wGuard t29 false H (fun k => wGet (faddr 0 t37) H k) fun t38 H =>
      wGuard t29 false H (fun k => wGet (load1 t38 H) H k) fun t39 H =>
      wGuard t29 false H (fun k => wGet (iaddrArr 1 11 (gptr E 3) t39) H k) fun t40 H =>
      wGuard t29 false H (fun k => wGet (load1 t40 H) H k) fun t41 H =>
      wGuard t29 false H (fun k => wGet (binA .neq t35 t41) H k) fun t42 H =>
      wGet (pickA t29 (.val (.bool true)) t42) H fun t43 H =>
      wGuard t43 false H (fun k => k a0 H) fun t45 H =>
      wGuard t43 false H (fun k => wGet (nilA t45) H k) fun t46 H =>
      wGuard t43 false H (fun k => wGet (faddr 0 t46) H k) fun t47 H =>
      wGuard t43 false H (fun k => wGet (load1 t47 H) H k) fun t48 H =>
      wGuard t43 false H (fun k => wGet (binA .neq t48 (.val (.int .i64 1))) H k) fun t49 H =>
      wGuard t43 false H (fun k => k t49 H) fun t50 H =>
      wGuard t50 true H (fun k => k a0 H) fun t51 H =>
      wGuard t50 true H (fun k => wGet (nilA t51) H k) fun t52 H =>
      wGuard t50 true H (fun k => wGet (faddr 1 t52) H k) fun t53 H =>
      wGuard t50 true H (fun k => wGet (load1 t53 H) H k) fun t54 H =>
      wGuard t50 true H (fun k => wGet (binA .neq t54 (.val (.string ⟨#[]⟩))) H k) fun t55 H =>
      wGuard t43 false H (fun k => wGet (pickA t50 t55 (.val (.bool false))) H k) fun t56 H =>
      wGet (pickA t43 (.val (.bool true)) t56) H fun t57 H =>
      wIf t57 (
        R (.tup [(.val (.int .i64 0)), (.val (.int .i64 1))]) H) (
        wGet (nilA a0) H fun t60 H =>
        wGet (faddr 0 t60) H fun t61 H =>
        wGet (load1 t61 H) H fun t62 H =>
        wGet (binA .eql t62 (.val (.int .i64 1))) H fun t63 H =>
        wGuard t63 true H (fun k => k a0 H) fun t65 H =>
        wGuard t63 true H (fun k => wGet (nilA t65) H k) fun t66 H =>
        wGuard t63 true H (fun k => wGet (faddr 1 t66) H k) fun t67 H =>
        wGuard t63 true H (fun k => wGet (load1 t67 H) H k) fun t68 H =>
        wGuard t63 true H (fun k => wCall E P 1 [t68] H k) fun t69 H =>
        wGuard t63 true H (fun k => wGet (unA .not t69) H k) fun t70 H =>
        wGet (pickA t63 t70 (.val (.bool false))) H fun t71 H =>
        wIf t71 (
          R (.tup [(.val (.int .i64 0)), (.val (.int .i64 5))]) H) (
          wGet (nilA a0) H fun t73 H =>
          wGet (faddr 2 t73) H fun t74 H =>
          wGet (load1 t74 H) H fun t75 H =>
          wGet (lenA t75) H fun t76 H =>
          wLoop 2 (fun I1 => I1 (.val (.int .i64 1)) (.val (.int .i64 0)) H) fun I1 t6 t77 H =>
            wGet (binA .lss t77 t76) H fun t78 H =>
            wIf t78 (
              wGet (iaddr 1 t75 t77) H fun t79 H =>
              wGet (load1 t79 H) H fun t80 H =>
              wGet (binA .sub a1 (.val (.int .i64 1))) H fun t84 H =>
              wCall E P 35 [t80, t84] H fun t85 H =>
              wGet (extractA t85 0) H fun t86 H =>
              wGet (extractA t85 1) H fun t87 H =>
              wGet (binA .neq t87 (.val (.int .i64 0))) H fun t89 H =>
              wIf t89 (
                R (.tup [(.val (.int .i64 0)), t87]) H) (
                wGet (binA .add t6 t86) H fun t93 H =>
                wGet (binA .add t77 (.val (.int .i64 1))) H fun t94 H =>
                I1 t93 t94 H)) (
              R (.tup [t6, (.val (.int .i64 0))]) H)))))

/-- signalbox/lasso.holds$1 -/
def lasso_holds_c1 (E : Env) (P : Program) (a0 a1 a2 : AV) (H : AH) (R : Kt) : Prop :=
  wGet (binA .add a0 (.val (.int .i64 1))) H fun t6 H =>
  wGet (load1 a1 H) H fun t7 H =>
  wGet (binA .eql t6 t7) H fun t8 H =>
  wIf t8 (
    wGet (faddr 0 a2) H fun t9 H =>
    wGet (load1 t9 H) H fun t10 H =>
    wGet (lenA t10) H fun t11 H =>
    R t11 H) (
    wGet (binA .add a0 (.val (.int .i64 1))) H fun t13 H =>
    R t13 H)

/-- signalbox/lasso.holds$2 -/
def lasso_holds_c2 (E : Env) (P : Program) (a0 a1 a2 a3 a4 : AV) (H : AH) (R : Kt) : Prop :=
  wGet (load1 a2 H) H fun t11 H =>
  wGet (lenA t11) H fun t12 H =>
  wLoop 1 (fun I1 => I1 (.val (.int .i64 0)) H) fun I1 t13 H =>
    wGet (binA .lss t13 t12) H fun t14 H =>
    wIf t14 (
      wGet (load1 a2 H) H fun t16 H =>
      wGet (iaddr 1 t16 t13) H fun t19 H =>
      wPut (store1 t19 a0 H) fun _u H =>
      wGet (binA .add t13 (.val (.int .i64 1))) H fun t20 H =>
      I1 t20 H) (
      wLoop 1 (fun I2 => I2 (.val (.bool true)) H) fun I2 t8 H =>
        wIf t8 (
          wGet (load1 a3 H) H fun t22 H =>
          wGet (binA .sub t22 (.val (.int .i64 1))) H fun t23 H =>
          wLoop 2 (fun I3 => I3 (.val (.bool false)) t23 H) fun I3 t8_1 t9 H =>
            wGet (binA .geq t9 (.val (.int .i64 0))) H fun t25 H =>
            wIf t25 (
              wJoin 1 (fun J4 =>
                wGet (load1 a2 H) H fun t30 H =>
                wGet (load1 a4 H) H fun t31 H =>
                wCallV E P t31 [t9] H fun t33 H =>
                (wGet (load1 a2 H) H (fun y H2 => y = t30 ∧ H2 = H)) ∧
                wGet (iaddr 1 t30 t33) H fun t34 H =>
                wGet (load1 t34 H) H fun t35 H =>
                wCallV E P a1 [t9, t35] H fun t36 H =>
                wGet (load1 a2 H) H fun t38 H =>
                wGet (iaddr 1 t38 t9) H fun t40 H =>
                wGet (load1 t40 H) H fun t41 H =>
                wBool (eqA .bool t36 t41) H true fun t42 H =>
                wIf t42 (
                  wGet (load1 a2 H) H fun t43 H =>
                  wGet (iaddr 1 t43 t9) H fun t46 H =>
                  wPut (store1 t46 t36 H) fun _u H =>
                  J4 (.val (.bool true)) H) (
                  J4 t8_1 H)) fun t8_2 H =>
                wGet (binA .sub t9 (.val (.int .i64 1))) H fun t27 H =>
                I3 t8_2 t27 H) (
              I2 t8_1 H)) (
          R (.tup []) H))

/-- signalbox/lasso.holds$3 -/
def lasso_holds_c3 (E : Env) (P : Program) (a0 a1 a2 : AV) (H : AH) (R : Kt) : Prop :=
  wGet (load1 a2 H) H fun t6 H =>
  wGet (iaddr 1 t6 (.val (.int .i64 1))) H fun t7 H =>
  wGet (load1 t7 H) H fun t8 H =>
  wGet (iaddr 1 t8 a0) H fun t10 H =>
  wGet (load1 t10 H) H fun t11 H =>
  wGuard t11 false H (fun k => wGet (load1 a2 H) H k) fun t13 H =>
  wGuard t11 false H (fun k => wGet (iaddr 1 t13 (.val (.int .i64 0))) H k) fun t14 H =>
  wGuard t11 false H (fun k => wGet (load1 t14 H) H k) fun t15 H =>
  wGuard t11 false H (fun k => k a0 H) fun t16 H =>
  wGuard t11 false H (fun k => wGet (iaddr 1 t15 t16) H k) fun t17 H =>
  wGuard t11 false H (fun k => wGet (load1 t17 H) H k) fun t18 H =>
  wGuard t11 false H (fun k => k t18 H) fun t19 H =>
  wGuard t19 true H (fun k => k a1 H) fun t20 H =>
  wGuard t11 false H (fun k => wGet (pickA t19 t20 (.val (.bool false))) H k) fun t21 H =>
  wGet (pickA t11 (.val (.bool true)) t21) H fun t22 H =>
  R t22 H

/-- signalbox/lasso.holds$4 -/
def lasso_holds_c4 (E : Env) (P : Program) (a0 a1 a2 : AV) (H : AH) (R : Kt) : Prop :=
  wGet (load1 a2 H) H fun t6 H =>
  wGet (iaddr 1 t6 (.val (.int .i64 1))) H fun t7 H =>
  wGet (load1 t7 H) H fun t8 H =>
  wGet (iaddr 1 t8 a0) H fun t10 H =>
  wGet (load1 t10 H) H fun t11 H =>
  wGuard t11 true H (fun k => wGet (load1 a2 H) H k) fun t13 H =>
  wGuard t11 true H (fun k => wGet (iaddr 1 t13 (.val (.int .i64 0))) H k) fun t14 H =>
  wGuard t11 true H (fun k => wGet (load1 t14 H) H k) fun t15 H =>
  wGuard t11 true H (fun k => k a0 H) fun t16 H =>
  wGuard t11 true H (fun k => wGet (iaddr 1 t15 t16) H k) fun t17 H =>
  wGuard t11 true H (fun k => wGet (load1 t17 H) H k) fun t18 H =>
  wGuard t11 true H (fun k => k t18 H) fun t19 H =>
  wGuard t19 false H (fun k => k a1 H) fun t20 H =>
  wGuard t11 true H (fun k => wGet (pickA t19 (.val (.bool true)) t20) H k) fun t21 H =>
  wGet (pickA t11 t21 (.val (.bool false))) H fun t22 H =>
  R t22 H

/-- signalbox/lasso.holds$5 -/
def lasso_holds_c5 (E : Env) (P : Program) (a0 a1 a2 : AV) (H : AH) (R : Kt) : Prop :=
  wGet (load1 a2 H) H fun t6 H =>
  wGet (iaddr 1 t6 (.val (.int .i64 0))) H fun t7 H =>
  wGet (load1 t7 H) H fun t8 H =>
  wGet (iaddr 1 t8 a0) H fun t10 H =>
  wGet (load1 t10 H) H fun t11 H =>
  wGuard t11 false H (fun k => k a1 H) fun t13 H =>
  wGet (pickA t11 (.val (.bool true)) t13) H fun t14 H =>
  R t14 H

/-- signalbox/lasso.holds$6 -/
def lasso_holds_c6 (E : Env) (P : Program) (a0 a1 a2 : AV) (H : AH) (R : Kt) : Prop :=
  wGet (load1 a2 H) H fun t6 H =>
  wGet (iaddr 1 t6 (.val (.int .i64 0))) H fun t7 H =>
  wGet (load1 t7 H) H fun t8 H =>
  wGet (iaddr 1 t8 a0) H fun t10 H =>
  wGet (load1 t10 H) H fun t11 H =>
  wGuard t11 true H (fun k => k a1 H) fun t13 H =>
  wGet (pickA t11 t13 (.val (.bool false))) H fun t14 H =>
  R t14 H

end Go.Sc.F
